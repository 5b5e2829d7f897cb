/- A part of the proof: steps and lemmas for the walks through the given program. -/
import Derived.WalkKit
import Derived.WalkLawsBesides
import Derived.WalkSpells
import Derived.RangeFuncNested
import Derived.RangeFuncBound
import Derived.RangeFuncCalls
import Derived.RangeFuncLeaves
import Derived.RangeFuncFrom
import Derived.OwnWalkIn
import Derived.TacticsInMore
import Derived.LoopNIn
import Derived.LoopIn
import Derived.OrdersIn
import Derived.Deep.AppendSrc
import Derived.Deep.LoopGhost
import Derived.Sort.LoopGhostIn
namespace Go.Vc
set_option linter.unusedVariables false

/-! frames -/
def upd (e : Nat → Value) (d : Nat) (v : Value) : Nat → Value := fun i => bif Nat.beq i d then v else e i
def updo (e : Nat → Value) (d : Option Tmp) (v : Value) : Nat → Value := match d with | some d => upd e d v | none => e
def Fr (N : Nat) (e : Nat → Value) : Act := ⟨Array.ofFn (n := N) fun i => e i.val, []⟩
def ev (e : Nat → Value) : Operand → Value
  | .tmp t => e t
  | .const v => v
  | .global g => .pointer (some ⟨g, 0, none⟩)
  | .func f => .func (.func f) #[] #[]

theorem upd_same (e : Nat → Value) (d : Nat) (v : Value) : upd e d v d = v := by simp [upd]
theorem upd_ne (e : Nat → Value) {d t : Nat} (v : Value) (h : t ≠ d) : upd e d v t = e t := by
  have : Nat.beq t d = false := by
    cases hb : Nat.beq t d with
    | false => rfl
    | true => exact absurd (Nat.eq_of_beq_eq_true hb) h
  simp only [upd, this, cond_false]

def Operand.lt (N : Nat) : Operand → Bool
  | .tmp t => Nat.blt t N
  | _ => true

theorem fr_eval {N : Nat} {e : Nat → Value} {x : Operand} (h : Operand.lt N x = true) : (Fr N e).eval x = ev e x := by
  cases x with
  | tmp t =>
    have ht : t + 1 ≤ N := by simpa [Operand.lt, Nat.blt] using h
    have ht : t < N := ht
    simp [Act.eval, Fr, ev, Array.getD, ht]
  | _ => rfl

theorem fr_put {N : Nat} {e : Nat → Value} {d : Nat} (h : d < N) (v : Value) : (Fr N e).put (some d) v = Fr N (upd e d v) := by
  simp only [Fr, Act.put]
  congr 1
  apply Array.ext
  · simp
  · intro i h1 h2
    simp only [Array.size_ofFn] at h2
    rw [Array.getElem_setIfInBounds (by simpa using h2)]
    by_cases hd : d = i
    · subst hd; simp [upd_same]
    · simp [hd, upd_ne e v (Ne.symm hd)]

def dstLt (N : Nat) : Option Tmp → Bool
  | some d => Nat.blt d N
  | none => true

theorem fr_puto {N : Nat} {e : Nat → Value} {d : Option Tmp} (h : dstLt N d = true) (v : Value) : (Fr N e).put d v = Fr N (updo e d v) := by
  cases d with
  | none => rfl
  | some d =>
    have h' : d + 1 ≤ N := by simpa [dstLt, Nat.blt] using h
    exact fr_put h' v

/-- the wide fence, or a round within it -/
def Fw : Option Nat → Fence
  | none => Fence.wide
  | some l => Fence.wide.inRound l
theorem Fw_fn (ro : Option Nat) (f : FuncId) : (Fw ro).fn f := by cases ro <;> trivial
theorem Fw_depth (ro : Option Nat) : (Fw ro).depth = none := by cases ro <;> rfl
theorem Fw_round (ro : Option Nat) : (Fw ro).round = ro := by cases ro <;> rfl
theorem callsIn_Fw {ro : Option Nat} {n : Nat} {P : Program} {f : FuncId} {args : Array Value} {w : World} {R : Ending → World → Prop} (h : Calls P f args w R) : CallsIn (Fw ro) n P f args w R := by
  cases ro with
  | none => exact callsIn_wide.2 h
  | some l => exact CallsIn.inRound l (callsIn_wide.2 h)
/-- a frame with deferred calls -/
abbrev FrD (N : Nat) (e : Nat → Value) (ds : List Deferred) : Act := ⟨(Fr N e).tmps, ds⟩
theorem frD_eval {N : Nat} {e : Nat → Value} {ds : List Deferred} {x : Operand} (h : Operand.lt N x = true) : (FrD N e ds).eval x = ev e x := by
  have := fr_eval (e := e) h
  cases x <;> simpa [Act.eval, FrD] using this
theorem frD_puto {N : Nat} {e : Nat → Value} {ds : List Deferred} {d : Option Tmp} (h : dstLt N d = true) (v : Value) : (FrD N e ds).put d v = FrD N (updo e d v) ds := by
  have := fr_puto (e := e) h v
  cases d with
  | none => rfl
  | some d =>
    have h2 := congrArg Act.tmps this
    simp only [Act.put, FrD] at h2 ⊢
    rw [h2]
def notSel : Op → Bool
  | .select .. => false
  | .defer _ => false
  | _ => true

/-- operands and target lie in the frame -/
def opLt (N : Nat) (o : Oper) : Bool := o.op.operands.toList.all (Operand.lt N) && dstLt N o.dst && notSel o.op

theorem frD_exec {N : Nat} {o : Oper} (h : opLt N o = true) (e : Nat → Value) (ds : List Deferred) : execOp (FrD N e ds).eval o = execOp (ev e) o := by
  simp only [opLt, Bool.and_eq_true, List.all_eq_true] at h
  refine execOp_congr o (fun cs b hs => ?_) (fun x hx => frD_eval (h.1.1 x (by simpa using hx)))
  have := h.2
  rw [hs] at this
  simp [notSel] at this
theorem semAt_Fw {ro : Option Nat} {ρ : Operand → Value} {o : Oper} (h : notSel o.op = true) : Oper.semAt (Fw ro).round ρ o = execOp ρ o := by
  rw [Fw_round]
  cases ro with
  | none => rfl
  | some l => exact Oper.semAt_some l ρ o (fun c hc => by rw [hc] at h; cases h)
theorem roundIn_Fw {ro : Option Nat} {n : Nat} {P : Program} {l f : Nat} {tmps : Array Value} {assign body : Code} {w : World} {R : Ending → World → Prop} (h : RoundIn Fence.wide 0 P l f tmps assign body w R) : RoundIn (Fw ro) n P l f tmps assign body w R := by
  cases ro with
  | none => exact ⟨h.1, fun c cs _ => h.2 c cs (room_wide _)⟩
  | some l => exact ⟨h.1, fun c cs _ => h.2 c cs (room_wide _)⟩

/-! one operation -/
/-- the operation yields v in the world w, which stays -/
def OpVat (P : Program) (o : Oper) (e : Nat → Value) (w : World) (v : Value) : Prop := (execOp (ev e) o).run P w = .ok (.value v) w

def Ret (R : Value → World → Prop) : Ending → World → Prop := fun e w => ∃ v, e = .returned v ∧ R v w
/-- f called with args returns, with R -/
def CallsR (P : Program) (f : FuncId) (args : Array Value) (w : World) (R : Value → World → Prop) : Prop := Calls P f args w (Ret R)
theorem CallsR.mono {P : Program} {f : FuncId} {args : Array Value} {w : World} {R R' : Value → World → Prop} (h : CallsR P f args w R) (hr : ∀ v w', R v w' → R' v w') : CallsR P f args w R' :=
  Calls.mono h fun _ _ ⟨v, he, hv⟩ => ⟨v, he, hr _ _ hv⟩

/-- what an operation leads to -/
def OpTo (P : Program) (o : Oper) (e : Nat → Value) (w : World) (K : Value → World → Prop) : Prop :=
  match (execOp (ev e) o).run P w with
  | .ok (.value v) w' => K v w'
  | .ok .skip w' => K undef w'
  | .ok (.enter f args) w' => CallsR P f args w' K
  | .ok (.round l f tmps assign body) w' => RoundIn Fence.wide 0 P l f tmps assign body w' (Ret K)
  | _ => False

theorem OpTo.of_v {P : Program} {o : Oper} {e : Nat → Value} {w : World} {v : Value} {K : Value → World → Prop} (h : OpVat P o e w v) (k : K v w) : OpTo P o e w K := by
  unfold OpTo; rw [h]; exact k

theorem OpTo.mono {P : Program} {o : Oper} {e : Nat → Value} {w : World} {K K' : Value → World → Prop} (h : OpTo P o e w K) (hk : ∀ v w', K v w' → K' v w') : OpTo P o e w K' := by
  unfold OpTo at *
  split at h
  · exact hk _ _ h
  · exact hk _ _ h
  · exact CallsR.mono h hk
  · exact RoundIn.mono h fun _ _ ⟨v, he, hv⟩ => ⟨v, he, hk _ _ hv⟩
  · exact h.elim

/-- what an operation that panics leads to -/
def OpDie (P : Program) (o : Oper) (e : Nat → Value) (w : World) (K : List PanicEntry → World → Prop) : Prop :=
  match (execOp (ev e) o).run P w with
  | .ok (.enter f args) w' => Calls P f args w' (fun en w'' => ∃ ch, en = .panicked ch ∧ K ch w'')
  | .halt (.panic v) w' => K [{ v, recovered := false }] w'
  | _ => False
theorem OpDie.wpIn {ro : Option Nat} {n : Nat} {P : Program} {o : Oper} {N : Nat} {e : Nat → Value} {ds : List Deferred} {w : World} {K : List PanicEntry → World → Prop} {next : Act → World → Prop} {Q : Exit → Act → World → Prop} (hl : opLt N o = true)
    (h : OpDie P o e w K) (hk : ∀ ch w', K ch w' → Q (.panic ch) (FrD N e ds) w') : o.wpIn (Fw ro) n P (FrD N e ds) w next Q := by
  have hnd : notSel o.op = true := by simp only [opLt, Bool.and_eq_true] at hl; exact hl.2
  unfold Oper.wpIn
  refine ⟨fun f _ => Fw_fn ro f, ?_⟩
  rw [semAt_Fw hnd, frD_exec hl]
  unfold OpDie at h
  split at h
  · rename_i hr; rw [hr, Oper.uponIn_enter]
    refine ⟨(fun hh => by rw [Fw_depth] at hh; simp at hh), callsIn_Fw (Calls.mono h ?_)⟩
    rintro e' w'' ⟨ch, rfl, hv⟩
    exact hk _ _ hv
  · rename_i hr; rw [hr]; exact hk _ _ h
  · exact h.elim

theorem OpTo.wpIn {ro : Option Nat} {n : Nat} {P : Program} {o : Oper} {N : Nat} {e : Nat → Value} {ds : List Deferred} {w : World} {K : Value → World → Prop} {next : Act → World → Prop} {Q : Exit → Act → World → Prop} (hl : opLt N o = true)
    (h : OpTo P o e w K) (hk : ∀ v w', K v w' → next (FrD N (updo e o.dst v) ds) w') : o.wpIn (Fw ro) n P (FrD N e ds) w next Q := by
  have hd : dstLt N o.dst = true := by simp only [opLt, Bool.and_eq_true] at hl; exact hl.1.2
  have hnd : notSel o.op = true := by simp only [opLt, Bool.and_eq_true] at hl; exact hl.2
  unfold Oper.wpIn
  refine ⟨fun f _ => Fw_fn ro f, ?_⟩
  rw [semAt_Fw hnd, frD_exec hl]
  unfold OpTo at h
  split at h
  · rename_i hr; rw [hr, Oper.uponIn_value, frD_puto hd]; exact hk _ _ h
  · rename_i hr; rw [hr, Oper.uponIn_skip, frD_puto hd]; exact hk _ _ h
  · rename_i hr; rw [hr, Oper.uponIn_enter]
    refine ⟨(fun hh => by rw [Fw_depth] at hh; simp at hh), callsIn_Fw (Calls.mono h ?_)⟩
    rintro e' w'' ⟨v, rfl, hv⟩
    show next ((FrD N e ds).put o.dst v) w''
    rw [frD_puto hd]; exact hk _ _ hv
  · rename_i hr; rw [hr, Oper.uponIn_round]
    refine ⟨(fun hh => by rw [Fw_depth] at hh; simp at hh), roundIn_Fw (RoundIn.mono h ?_)⟩
    rintro e' w'' ⟨v, rfl, hv⟩
    show next ((FrD N e ds).put o.dst v) w''
    rw [frD_puto hd]; exact hk _ _ hv
  · exact h.elim

/-! guards -/
def yieldE (ops : Array Oper) (e : Nat → Value) (j : Nat) : Option Bool :=
  match (ops[j]?).bind (·.dst) with
  | some t => match e t with | .bool b => some b | _ => none
  | none => none
def wantedE (ops : Array Oper) (e : Nat → Value) (o : Oper) : Bool := Region.wanted o (yieldE ops e)

def opsLt (N : Nat) (ops : Array Oper) : Bool := ops.toList.all (opLt N)

theorem opsLt_at {N : Nat} {ops : Array Oper} (h : opsLt N ops = true) {j : Nat} {o : Oper} (hj : ops[j]? = some o) : opLt N o = true := by
  simp only [opsLt, List.all_eq_true] at h
  refine h o ?_
  have := Array.mem_of_getElem? hj
  simpa using this

theorem yielded_fr {N : Nat} {ops : Array Oper} (h : opsLt N ops = true) (e : Nat → Value) : yielded ops (Fr N e).tmps = yieldE ops e := by
  funext j
  unfold yielded yieldE
  cases hj : ops[j]? with
  | none => simp
  | some o =>
    cases hd : o.dst with
    | none => simp [hd]
    | some t =>
      have hl := opsLt_at h hj
      simp only [opLt, Bool.and_eq_true, hd, dstLt] at hl
      have ht : t + 1 ≤ N := by simpa [Nat.blt] using hl.1.2
      have ht : t < N := ht
      simp [hd, Fr, ht]
      split <;> simp_all

/-- a list of operations, in the order of the text -/
def wpL (P : Program) (N : Nat) (ops : Array Oper) (Q : Exit → Act → World → Prop) : List Oper → (Nat → Value) → World → Prop
  | [], e, w => Q .normal (Fr N e) w
  | o :: rest, e, w => if wantedE ops e o then (OpTo P o e w (fun v w' => wpL P N ops Q rest (updo e o.dst v) w') ∨ OpDie P o e w (fun ch w' => Q (.panic ch) (Fr N e) w')) else wpL P N ops Q rest (updo e o.dst undef) w

theorem yielded_frD {N : Nat} {ops : Array Oper} (h : opsLt N ops = true) (e : Nat → Value) (ds : List Deferred) : yielded ops (FrD N e ds).tmps = yieldE ops e := yielded_fr h e
abbrev Qd (ds : List Deferred) (Q : Exit → Act → World → Prop) : Exit → Act → World → Prop := fun ex a w => Q ex ⟨a.tmps, ds⟩ w
theorem wpL_sound {ro : Option Nat} {n : Nat} {P : Program} {N : Nat} {ops : Array Oper} {Q : Exit → Act → World → Prop} {ds : List Deferred} (hl : opsLt N ops = true) : ∀ (l : List Oper), (∀ o ∈ l, opLt N o = true) → ∀ (e : Nat → Value) (w : World), wpL P N ops (Qd ds Q) l e w → wpListIn (Fw ro) n P ops Q l (FrD N e ds) w
  | [], _, e, w, h => h
  | o :: rest, hm, e, w, h => by
    have ho := hm o (by simp)
    have hd : dstLt N o.dst = true := by simp only [opLt, Bool.and_eq_true] at ho; exact ho.1.2
    refine wpListIn_step fun K hK => ?_
    have hr : ∀ e w, wpL P N ops (Qd ds Q) rest e w → K (FrD N e ds) w := fun e w h => hK _ _ (wpL_sound hl rest (fun o h' => hm o (by simp [h'])) e w h)
    rw [yielded_frD hl]
    unfold wpL at h
    unfold wantedE at h
    split
    · rename_i hw; rw [if_pos hw] at h
      rcases h with h | h
      · exact OpTo.wpIn ho h fun v w' hv => hr _ _ hv
      · exact OpDie.wpIn ho h fun ch w' hv => hv
    · rename_i hw; rw [if_neg hw] at h; rw [frD_puto hd]; exact ⟨fun f _ => Fw_fn ro f, hr _ _ h⟩

theorem wp_reg {ro : Option Nat} {n : Nat} {P : Program} {N : Nat} {ops : List Oper} {id : Nat} {Q : Exit → Act → World → Prop} {e : Nat → Value} {ds : List Deferred} {w : World} (hl : opsLt N ops.toArray = true) (h : wpL P N ops.toArray (Qd ds Q) ops e w) : (Code.region id ops.toArray false).wpIn (Fw ro) n P Q (FrD N e ds) w :=
  wpIn_region_lit (wpL_sound hl ops (by simpa [opsLt] using hl) e w h)

section
variable {P : Program} {N : Nat} {ops : Array Oper} {Q : Exit → Act → World → Prop} {e : Nat → Value} {w : World} {rest : List Oper}

theorem l_nil (h : Q .normal (Fr N e) w) : wpL P N ops Q [] e w := h

/-- a step whose value is known -/
theorem l_v {d : Option Tmp} {op : Op} {ty : TypeId} {p : String} {af : Array Edge} {t : Value} (h : OpVat P ⟨d, op, ty, p, af, none⟩ e w t) (k : wpL P N ops Q rest (updo e d t) w) :
    wpL P N ops Q (⟨d, op, ty, p, af, none⟩ :: rest) e w := by
  unfold wpL
  simp only [wantedE, Region.wanted, if_true]
  exact Or.inl (OpTo.of_v h k)

/-- a step with an effect -/
theorem l_to {d : Option Tmp} {op : Op} {ty : TypeId} {p : String} {af : Array Edge} (h : OpTo P ⟨d, op, ty, p, af, none⟩ e w (fun v w' => wpL P N ops Q rest (updo e d v) w')) :
    wpL P N ops Q (⟨d, op, ty, p, af, none⟩ :: rest) e w := by
  unfold wpL
  simp only [wantedE, Region.wanted, if_true]
  exact Or.inl h

theorem yieldE_of {g : Nat} {t : Tmp} {c : Bool} (hg : (ops[g]?).bind (·.dst) = some t) (hc : e t = .bool c) : yieldE ops e g = some c := by
  unfold yieldE; rw [hg]; simp [hc]

/-- a guarded step whose guard is known to hold -/
theorem l_gt {d : Option Tmp} {op : Op} {ty : TypeId} {p : String} {af : Array Edge} {g : Nat} {b : Bool} {t : Tmp} (hg : (ops[g]?).bind (·.dst) = some t) (hc : e t = .bool b)
    (h : OpTo P ⟨d, op, ty, p, af, some (g, b)⟩ e w (fun v w' => wpL P N ops Q rest (updo e d v) w')) :
    wpL P N ops Q (⟨d, op, ty, p, af, some (g, b)⟩ :: rest) e w := by
  unfold wpL
  simp only [wantedE, Region.wanted, yieldE_of hg hc, beq_self_eq_true, if_true]
  exact Or.inl h

end
end Go.Vc

namespace Go.Vc
set_option linter.unusedVariables false

def cnt (f : Nat → Bool) : Nat → Nat
  | 0 => 0
  | n + 1 => cnt f n + (if f n then 1 else 0)
theorem cnt_le {f g : Nat → Bool} (h : ∀ i, g i = true → f i = true) : ∀ n, cnt g n ≤ cnt f n
  | 0 => Nat.le_refl _
  | n + 1 => by
    have := cnt_le h n
    simp only [cnt]
    cases hg : g n with
    | false => simp; omega
    | true => simp [h n hg]; omega
theorem cnt_lt {f g : Nat → Bool} (h : ∀ i, g i = true → f i = true) {i : Nat} (hf : f i = true) (hg : g i = false) : ∀ n, i < n → cnt g n + 1 ≤ cnt f n
  | 0, h => by omega
  | n + 1, hn => by
    simp only [cnt]
    by_cases hi : i = n
    · subst hi; have := cnt_le h i; simp [hf, hg]; omega
    · have := cnt_lt h hf hg n (by omega)
      cases hgn : g n with
      | false => simp; omega
      | true => simp [h n hgn]; omega
theorem cnt_zero {f : Nat → Bool} : ∀ n, cnt f n = 0 → ∀ i, i < n → f i = false
  | 0, _, i, hi => by omega
  | n + 1, h, i, hi => by
    simp only [cnt] at h
    have h1 : cnt f n = 0 := by omega
    by_cases hin : i = n
    · subst hin; cases hf : f i with | false => rfl | true => simp [hf] at h
    · exact cnt_zero n h1 i (by omega)
theorem least {f : Nat → Bool} : ∀ n, (∃ i, i < n ∧ f i = true) → ∃ i, i < n ∧ f i = true ∧ ∀ j, j < i → f j = false
  | 0, ⟨i, hi, _⟩ => by omega
  | n + 1, ⟨i, hi, hf⟩ => by
    by_cases h : ∃ i, i < n ∧ f i = true
    · obtain ⟨k, hk, hfk, hl⟩ := least n h; exact ⟨k, by omega, hfk, hl⟩
    · have hin : i = n := by
        rcases Nat.lt_or_ge i n with h' | h'
        · exact absurd ⟨i, h', hf⟩ h
        · omega
      subst hin
      refine ⟨i, by omega, hf, fun j hj => ?_⟩
      cases hfj : f j with
      | false => rfl
      | true => exact absurd ⟨j, hj, hfj⟩ h

def edgeOn (o : Oper) (k : Nat) : Bool := o.after.toList.any fun e => Region.binds .any e && Nat.beq e.on k
theorem edgeOn_iff {o : Oper} {k : Nat} (h : edgeOn o k = true) : ∃ e, e ∈ o.after ∧ (Region.binds .any e && Nat.beq e.on k) = true := by
  simp only [edgeOn, List.any_eq_true] at h
  obtain ⟨e, he, hb⟩ := h
  exact ⟨e, by simpa using he, hb⟩
def okR (ops : Array Oper) : Bool := (List.range ops.size).all fun i => match ops[i]? with
  | none => true
  | some o => (o.after.all fun e => !Region.binds .any e || Nat.blt e.on i) && (List.range i).all fun k => edgeOn o k || (match ops[k]? with | some ok => ok.apart ops o | none => true)

theorem okR_edges {ops : Array Oper} (h : okR ops = true) {i : Nat} {o : Oper} (hi : ops[i]? = some o) : ∀ e ∈ o.after, Region.binds .any e = true → e.on < i := by
  have hlt : i < ops.size := (Array.getElem?_eq_some_iff.1 hi).1
  simp only [okR, List.all_eq_true, List.mem_range] at h
  have h1 := h i hlt
  simp only [hi, Bool.and_eq_true, Array.all_eq_true'] at h1
  intro e he hb
  have h2 := h1.1 e he
  simp [hb, Nat.blt] at h2
  exact h2
theorem okR_apart {ops : Array Oper} (h : okR ops = true) {i k : Nat} {o ok : Oper} (hi : ops[i]? = some o) (hk : ops[k]? = some ok) (hki : k < i) (hne : edgeOn o k = false) : ok.apart ops o = true := by
  have hlt : i < ops.size := (Array.getElem?_eq_some_iff.1 hi).1
  simp only [okR, List.all_eq_true, List.mem_range] at h
  have h1 := h i hlt
  simp only [hi, Bool.and_eq_true, List.all_eq_true, List.mem_range] at h1
  have h2 := h1.2 k hki
  simpa [hne, hk] using h2

def dstAt (ops : Array Oper) (n : Nat) : Option Tmp := (ops[n]?).bind (·.dst)
def envL (ops : Array Oper) (ls : Nat → Bool) (vals : Nat → Value) (e0 : Nat → Value) : Nat → Nat → Value
  | 0 => e0
  | n + 1 => bif ls n then updo (envL ops ls vals e0 n) (dstAt ops n) (vals n) else envL ops ls vals e0 n

theorem updo_ne {e : Nat → Value} {d : Option Tmp} {v : Value} {t : Nat} (h : d ≠ some t) : updo e d v t = e t := by
  cases d with
  | none => rfl
  | some d => exact upd_ne e v (fun hh => h (by rw [hh]))
theorem updo_same {e : Nat → Value} {d : Option Tmp} {v : Value} {t : Nat} (h : d = some t) : updo e d v t = v := by subst h; exact upd_same e t v

section
variable {ops : Array Oper} {ls : Nat → Bool} {vals e0 : Nat → Value}
theorem envL_full {t : Nat} : ∀ n, (∀ k, k < n → ls k = false → dstAt ops k ≠ some t) → envL ops ls vals e0 n t = envL ops (fun _ => true) vals e0 n t
  | 0, _ => rfl
  | n + 1, h => by
    have ih := envL_full n (fun k hk => h k (by omega))
    simp only [envL, cond_true]
    cases hl : ls n with
    | true =>
      simp only [cond_true]
      by_cases hd : dstAt ops n = some t
      · rw [updo_same hd, updo_same hd]
      · rw [updo_ne hd, updo_ne hd]; exact ih
    | false => simp only [cond_false]; rw [updo_ne (h n (by omega) hl)]; exact ih
theorem envL_stop {t i : Nat} : ∀ n, i ≤ n → (∀ k, i ≤ k → k < n → ls k = true → dstAt ops k ≠ some t) → envL ops ls vals e0 n t = envL ops ls vals e0 i t
  | 0, hi, _ => by have : i = 0 := by omega
                   subst this; rfl
  | n + 1, hi, h => by
    by_cases he : i = n + 1
    · subst he; rfl
    · have ih := envL_stop n (by omega) (fun k h1 h2 => h k h1 (by omega))
      simp only [envL]
      cases hl : ls n with
      | true => simp only [cond_true]; rw [updo_ne (h n (by omega) (by omega) hl)]; exact ih
      | false => simp only [cond_false]; exact ih
theorem envL_ext {ls' : Nat → Bool} {vals' : Nat → Value} : ∀ n, (∀ k, k < n → ls k = ls' k) → (∀ k, k < n → ls k = true → vals k = vals' k) → envL ops ls vals e0 n = envL ops ls' vals' e0 n
  | 0, _, _ => rfl
  | n + 1, h, hv => by
    simp only [envL]
    rw [envL_ext n (fun k hk => h k (by omega)) (fun k hk => hv k (by omega)), ← h n (by omega)]
    cases hl : ls n with
    | true => rw [hv n (by omega) hl]
    | false => rfl
end

def setv (vals : Nat → Value) (i : Nat) (v : Value) : Nat → Value := fun j => if j = i then v else vals j

def OpG (P : Program) (ops : Array Oper) (e : Nat → Value) (o : Oper) (w : World) (K : Value → World → Prop) : Prop :=
  if wantedE ops e o then OpTo P o e w K else K undef w

theorem wantedE_congr {ops : Array Oper} {e e' : Nat → Value} {o : Oper} (h : ∀ t, t ∈ o.looksAt ops → e t = e' t) : wantedE ops e o = wantedE ops e' o := by
  unfold wantedE Region.wanted
  cases hg : o.guard with
  | none => rfl
  | some gw =>
    obtain ⟨g, b⟩ := gw
    have : yieldE ops e g = yieldE ops e' g := by
      unfold yieldE
      cases hd : (ops[g]?).bind (·.dst) with
      | none => rfl
      | some t => simp only [h t (by simp [Oper.looksAt, hg, hd])]
    simp only [this]
theorem exec_ev_congr {ops : Array Oper} {e e' : Nat → Value} {o : Oper} (hs : notSel o.op = true) (h : ∀ t, t ∈ o.looksAt ops → e t = e' t) : execOp (ev e) o = execOp (ev e') o := by
  refine execOp_congr o (fun cs b hh => by rw [hh] at hs; simp [notSel] at hs) (fun x hx => ?_)
  cases x with
  | tmp t => exact h t (List.mem_append_left _ (List.mem_filterMap.2 ⟨.tmp t, by simpa using hx, rfl⟩))
  | _ => rfl

/-- a region of any order, drawn already -/
abbrev wpR (ro : Option Nat) (n : Nat) (P : Program) (ops : Array Oper) (Q : Exit → Act → World → Prop) (a : Act) (w : World) : Prop := wpAnyIn (Fw ro) n P .any ops Q ops.size (Array.replicate ops.size false) a w
theorem reg_anyW {ro : Option Nat} {n : Nat} {ds : List Deferred} {P : Program} {N : Nat} {ops : Array Oper} {Q : Exit → Act → World → Prop} {e0 : Nat → Value} {w0 : World} {R : World → World → Prop} (S : Nat → Value → World → Prop)
    (hl : opsLt N ops = true) (hok : okR ops = true)
    (htr : ∀ a b c, R a b → R b c → R a c) (h0 : R w0 w0)
    (hst : ∀ i v w w', S i v w → R w w' → S i v w')
    (hloc : ∀ i o, ops[i]? = some o → ∀ vals w, R w0 w → (∀ j, edgeOn o j = true → S j (vals j) w) → OpG P ops (envL ops (fun _ => true) vals e0 i) o w (fun v w' => R w w' ∧ S i v w'))
    (hfin : ∀ vals w, R w0 w → (∀ i, i < ops.size → S i (vals i) w) → Q .normal (FrD N (envL ops (fun _ => true) vals e0 ops.size) ds) w) :
    wpR ro n P ops Q (FrD N e0 ds) w0 := by
  have main : ∀ (fuel : Nat) (listed : Array Bool) (vals : Nat → Value) (w : World), cnt (fun i => !listed.getD i true) ops.size ≤ fuel → R w0 w →
      (∀ j o, listed.getD j true = true → ops[j]? = some o → ∀ e ∈ o.after, Region.binds .any e = true → listed.getD e.on false = true) →
      (∀ j, j < ops.size → listed.getD j true = true → S j (vals j) w) → listed.size = ops.size →
      wpAnyIn (Fw ro) n P .any ops Q fuel listed (FrD N (envL ops (fun i => listed.getD i true) vals e0 ops.size) ds) w := by
    intro fuel
    induction fuel with
    | zero =>
      intro listed vals w hc hR hdc hS hsz
      have hall := cnt_zero ops.size (Nat.le_zero.1 hc)
      have hall' : ∀ i, i < ops.size → listed.getD i true = true := fun i hi => by have := hall i hi; simpa using this
      refine ⟨?_, ?_⟩
      · cases hr : Region.ready .any ops listed with
        | nil => rfl
        | cons i l =>
          have hi : i ∈ Region.ready .any ops listed := by rw [hr]; simp
          obtain ⟨hu, o, ho, _⟩ := mem_ready.1 hi
          rw [hall' i (Array.getElem?_eq_some_iff.1 ho).1] at hu; cases hu
      · rw [envL_ext (ls' := fun _ => true) (vals' := vals) ops.size (fun k hk => hall' k hk) (fun _ _ _ => rfl)]
        exact hfin vals w hR fun i hi => hS i hi (hall' i hi)
    | succ fuel ih =>
      intro listed vals w hc hR hdc hS hsz
      refine ⟨fun hnil => ?_, fun i hi => ?_⟩
      · have hall' : ∀ i, i < ops.size → listed.getD i true = true := by
          intro i hi
          cases hu : listed.getD i true with
          | true => rfl
          | false =>
            obtain ⟨k, hk, hfk, hmin⟩ := least (f := fun i => !listed.getD i true) ops.size ⟨i, hi, by simp only [hu]; rfl⟩
            have hok' : ops[k]? = some ops[k] := by simp [hk]
            have : k ∈ Region.ready .any ops listed := mem_ready.2 ⟨by simpa using hfk, ops[k], hok', fun e he hb => by
              have hlt := okR_edges hok hok' e he hb
              have h1 := hmin e.on hlt
              have h2 : listed.getD e.on true = true := by simpa using h1
              have h3 : e.on < listed.size := by omega
              simp only [Array.getD, h3, dif_pos] at h2 ⊢
              exact h2⟩
            rw [hnil] at this; cases this
        rw [envL_ext (ls' := fun _ => true) (vals' := vals) ops.size (fun k hk => hall' k hk) (fun _ _ _ => rfl)]
        exact hfin vals w hR fun i hi => hS i hi (hall' i hi)
      · obtain ⟨hu, o, ho, hdeps⟩ := mem_ready.1 hi
        have hilt : i < ops.size := (Array.getElem?_eq_some_iff.1 ho).1
        have holt := opsLt_at hl ho
        have hedge : ∀ k, edgeOn o k = true → listed.getD k false = true := by
          intro k hk
          obtain ⟨e, he, hb⟩ := edgeOn_iff hk
          simp only [Bool.and_eq_true] at hb
          have := hdeps e he hb.1
          rwa [Nat.eq_of_beq_eq_true hb.2] at this
        have toT : ∀ k, listed.getD k false = true → listed.getD k true = true := by
          intro k hk
          by_cases hlt : k < listed.size
          · simp only [Array.getD, hlt, dif_pos] at hk ⊢; exact hk
          · simp only [Array.getD, hlt, dif_neg, not_false_eq_true]
        have hsee : ∀ t, t ∈ o.looksAt ops → envL ops (fun i => listed.getD i true) vals e0 ops.size t = envL ops (fun _ => true) vals e0 i t := by
          intro t ht
          rw [envL_stop (i := i) ops.size (by omega) (fun k h1 h2 h3 hd => ?_), envL_full i (fun k hk hku hd => ?_)]
          ·
            obtain ⟨ok, hok'⟩ : ∃ ok, ops[k]? = some ok := ⟨ops[k], by simp [show k < ops.size by omega]⟩
            have hne : edgeOn o k = false := by
              cases hh : edgeOn o k with
              | false => rfl
              | true => have := toT k (hedge k hh); rw [hku] at this; cases this
            have hap := okR_apart hok ho hok' hk hne
            obtain ⟨a1, a2, a3⟩ := Oper.apart_spec hap
            simp only [dstAt, hok', Option.bind_some] at hd
            exact a1 t hd ht
          ·
            have hki : k ≠ i := fun he => by subst he; rw [hu] at h3; cases h3
            obtain ⟨ok, hok'⟩ : ∃ ok, ops[k]? = some ok := ⟨ops[k], by simp [h2]⟩
            have hne : edgeOn ok i = false := by
              cases hh : edgeOn ok i with
              | false => rfl
              | true =>
                obtain ⟨e, he, hb⟩ := edgeOn_iff hh
                simp only [Bool.and_eq_true] at hb
                have := hdc k ok h3 hok' e he hb.1
                rw [Nat.eq_of_beq_eq_true hb.2] at this
                have := toT i this
                rw [hu] at this; cases this
            have hap := okR_apart hok hok' ho (by omega) hne
            obtain ⟨a1, a2, a3⟩ := Oper.apart_spec hap
            simp only [dstAt, hok', Option.bind_some] at hd
            exact a3 t hd ht
        have hw : wantedE ops (envL ops (fun i => listed.getD i true) vals e0 ops.size) o = wantedE ops (envL ops (fun _ => true) vals e0 i) o := wantedE_congr hsee
        have hns : notSel o.op = true := by simp only [opLt, Bool.and_eq_true] at holt; exact holt.2
        have hex := exec_ev_congr (ops := ops) hns hsee
        have hL := hloc i o ho vals w hR (fun j hj => hS j (by
          obtain ⟨e, he, hb⟩ := edgeOn_iff hj
          simp only [Bool.and_eq_true] at hb
          have := okR_edges hok ho e he hb.1
          rw [Nat.eq_of_beq_eq_true hb.2] at this
          omega) (toT j (hedge j hj)))
        have next : ∀ v w', R w w' → S i v w' → wpAnyIn (Fw ro) n P .any ops Q fuel (listed.setIfInBounds i true) (FrD N (updo (envL ops (fun i => listed.getD i true) vals e0 ops.size) o.dst v) ds) w' := by
          intro v w' hRw hSv
          have hget : ∀ j d, (listed.setIfInBounds i true).getD j d = if j = i then true else listed.getD j d := by
            intro j d
            by_cases hji : j = i
            · subst hji
              have : j < listed.size := by omega
              simp [Array.getD, this]
            · by_cases hlt : j < listed.size
              · simp [Array.getD, hlt, hji, Ne.symm hji]
              · simp [Array.getD, hlt, hji]
          have henv : updo (envL ops (fun i => listed.getD i true) vals e0 ops.size) o.dst v = envL ops (fun j => (listed.setIfInBounds i true).getD j true) (setv vals i v) e0 ops.size := by
            have hdi : dstAt ops i = o.dst := by simp [dstAt, ho]
            funext t
            by_cases hd : o.dst = some t
            · rw [updo_same hd]
              rw [envL_stop (i := i + 1) ops.size (by omega) (fun k h1 h2 h3 hk => ?_)]
              · simp only [envL]
                have : (listed.setIfInBounds i true).getD i true = true := by rw [hget]; simp
                rw [this, cond_true, updo_same (by rw [hdi]; exact hd)]
                simp [setv]
              · obtain ⟨ok, hok'⟩ : ∃ ok, ops[k]? = some ok := ⟨ops[k], by simp [h2]⟩
                have hki : k ≠ i := by omega
                rw [hget, if_neg hki] at h3
                have hne : edgeOn ok i = false := by
                  cases hh : edgeOn ok i with
                  | false => rfl
                  | true =>
                    obtain ⟨e, he, hb⟩ := edgeOn_iff hh
                    simp only [Bool.and_eq_true] at hb
                    have := hdc k ok h3 hok' e he hb.1
                    rw [Nat.eq_of_beq_eq_true hb.2] at this
                    have := toT i this
                    rw [hu] at this; cases this
                have hap := okR_apart hok hok' ho (by omega) hne
                obtain ⟨a1, a2, a3⟩ := Oper.apart_spec hap
                simp only [dstAt, hok', Option.bind_some] at hk
                exact a2 t hd hk
            · rw [updo_ne hd]
              have : ∀ n, envL ops (fun i => listed.getD i true) vals e0 n t = envL ops (fun j => (listed.setIfInBounds i true).getD j true) (setv vals i v) e0 n t := by
                intro n
                induction n with
                | zero => rfl
                | succ n ihn =>
                  simp only [envL]
                  by_cases hni : n = i
                  · subst hni
                    have e1 : (listed.setIfInBounds n true).getD n true = true := by rw [hget]; simp
                    rw [hu, e1, cond_false, cond_true, updo_ne (by rw [hdi]; exact hd)]
                    exact ihn
                  · rw [hget, if_neg hni]
                    cases listed.getD n true with
                    | false => simpa using ihn
                    | true =>
                      simp only [cond_true]
                      by_cases hdn : dstAt ops n = some t
                      · rw [updo_same hdn, updo_same hdn]; simp [setv, hni]
                      · rw [updo_ne hdn, updo_ne hdn]; exact ihn
              exact this _
          rw [henv]
          refine ih _ _ _ ?_ (htr _ _ _ hR hRw) ?_ ?_ (by simpa using hsz)
          · have := cnt_lt (f := fun i => !listed.getD i true) (g := fun j => !(listed.setIfInBounds i true).getD j true) (i := i) (fun j hj => by
              rw [hget] at hj
              by_cases hji : j = i
              · simp [hji] at hj
              · simpa [hji] using hj) (by simp only [hu]; rfl) (by rw [hget]; simp) ops.size hilt
            omega
          · intro j oj hj hoj e he hb
            rw [hget] at hj ⊢
            by_cases hji : j = i
            · subst hji
              rw [ho] at hoj; cases hoj
              split
              · rfl
              · exact hdeps e he hb
            · rw [if_neg hji] at hj
              split
              · rfl
              · exact hdc j oj hj hoj e he hb
          · intro j hjs hj
            by_cases hji : j = i
            · subst hji; simpa [setv] using hSv
            · rw [hget, if_neg hji] at hj
              simp only [setv, if_neg hji]
              exact hst j _ _ _ (hS j hjs hj) hRw
        unfold wpOpIn
        rw [ho]
        simp only []
        rw [yielded_frD hl]
        unfold OpG at hL
        rw [← hw] at hL
        split
        · rename_i hwt
          have hwt' : wantedE ops (envL ops (fun i => listed.getD i true) vals e0 ops.size) o = true := hwt
          rw [if_pos hwt'] at hL
          have hL' : OpTo P o (envL ops (fun i => listed.getD i true) vals e0 ops.size) w (fun v w' => R w w' ∧ S i v w') := by
            unfold OpTo at hL ⊢
            rw [hex]; exact hL
          exact (OpTo.wpIn holt hL' fun v w' hv => next v w' hv.1 hv.2)
        · rename_i hwt
          have hwt' : ¬ wantedE ops (envL ops (fun i => listed.getD i true) vals e0 ops.size) o = true := hwt
          rw [if_neg hwt'] at hL
          have hd : dstLt N o.dst = true := by simp only [opLt, Bool.and_eq_true] at holt; exact holt.1.2
          rw [frD_puto hd]
          exact ⟨fun f _ => Fw_fn ro f, next _ _ hL.1 hL.2⟩
  have := main ops.size (Array.replicate ops.size false) (fun _ => undef) w0 (by
    have h : ∀ n, cnt (fun i => !(Array.replicate ops.size false).getD i true) n ≤ n := by
      intro n
      induction n with
      | zero => simp [cnt]
      | succ n ih => simp only [cnt]; split <;> omega
    exact h _) h0 (by
      intro j o hj ho
      have : j < ops.size := (Array.getElem?_eq_some_iff.1 ho).1
      simp [Array.getD, this] at hj) (by
      intro j hj hl
      simp [Array.getD, hj] at hl) (by simp)
  have e1 : envL ops (fun i => (Array.replicate ops.size false).getD i true) (fun _ => undef) e0 ops.size = e0 := by
    have : ∀ n, n ≤ ops.size → envL ops (fun i => (Array.replicate ops.size false).getD i true) (fun _ => undef) e0 n = e0 := by
      intro n
      induction n with
      | zero => intro _; rfl
      | succ n ih =>
        intro hn
        have hlt : n < ops.size := by omega
        have hf : (Array.replicate ops.size false).getD n true = false := by simp [Array.getD, hlt]
        simp only [envL]
        rw [hf, cond_false]
        exact ih (by omega)
    exact this _ (Nat.le_refl _)
  rw [e1] at this
  exact this
theorem reg_any {ro : Option Nat} {n : Nat} {ds : List Deferred} {P : Program} {N id : Nat} {ops : Array Oper} {Q : Exit → Act → World → Prop} {e0 : Nat → Value} {w0 : World} {R : World → World → Prop} (S : Nat → Value → World → Prop)
    (hm : P.follows .mixedOrders = true) (hl : opsLt N ops = true) (hok : okR ops = true)
    (htr : ∀ a b c, R a b → R b c → R a c) (h0 : R w0 { w0 with drawn := w0.drawn + 1 }) (hr : R { w0 with drawn := w0.drawn + 1 } { w0 with drawn := w0.drawn + 1 })
    (hst : ∀ i v w w', S i v w → R w w' → S i v w')
    (hloc : ∀ i o, ops[i]? = some o → ∀ vals w, R w0 w → (∀ j, edgeOn o j = true → S j (vals j) w) → OpG P ops (envL ops (fun _ => true) vals e0 i) o w (fun v w' => R w w' ∧ S i v w'))
    (hfin : ∀ vals w, R w0 w → (∀ i, i < ops.size → S i (vals i) w) → Q .normal (FrD N (envL ops (fun _ => true) vals e0 ops.size) ds) w) :
    (Code.region id ops true).wpIn (Fw ro) n P Q (FrD N e0 ds) w0 :=
  wpIn_region_any hm (reg_anyW (w0 := { w0 with drawn := w0.drawn + 1 }) S hl hok htr hr hst (fun i o ho vals w hR => hloc i o ho vals w (htr _ _ _ h0 hR)) (fun vals w hR => hfin vals w (htr _ _ _ h0 hR)))
end Go.Vc

namespace Go.Vc
set_option linter.unusedVariables false

/-- Old blocks outside K are as they were. -/
structure Keep (K : Nat → Prop) (w w' : World) : Prop where
  os : w'.os = w.os
  tape : w'.tape = w.tape
  output : w'.output = w.output
  size : w.heap.size ≤ w'.heap.size
  block : ∀ k, k < w.heap.size → ¬ K k → w'.heap[k]? = w.heap[k]?

theorem Keep.refl {K : Nat → Prop} (w : World) : Keep K w w := ⟨rfl, rfl, rfl, Nat.le_refl _, fun _ _ _ => rfl⟩
theorem Keep.trans {K : Nat → Prop} {a b c : World} (h : Keep K a b) (k : Keep K b c) : Keep K a c :=
  ⟨k.os.trans h.os, k.tape.trans h.tape, k.output.trans h.output, Nat.le_trans h.size k.size, fun i hi hk => (k.block i (Nat.lt_of_lt_of_le hi h.size) hk).trans (h.block i hi hk)⟩
theorem Keep.mono {K K' : Nat → Prop} {a b : World} (h : Keep K a b) (hk : ∀ i, i < a.heap.size → K i → K' i) : Keep K' a b := ⟨h.os, h.tape, h.output, h.size, fun i hi hn => h.block i hi (fun x => hn (hk i hi x))⟩
theorem Keep.drawn {K : Nat → Prop} (w : World) (n : Nat) : Keep K w { w with drawn := n } := ⟨rfl, rfl, rfl, Nat.le_refl _, fun _ _ _ => rfl⟩
/-- nothing old is touched -/
def NoK : Nat → Prop := fun _ => False
abbrev Ext (w w' : World) : Prop := Keep NoK w w'
theorem Ext.keep {K : Nat → Prop} {a b : World} (h : Ext a b) : Keep K a b := h.mono fun _ _ x => x.elim
theorem Keep.keep {K : Nat → Prop} {a b : World} (h : Keep NoK a b) : Keep K a b := h.mono fun _ _ x => x.elim
theorem Ext.blk {a b : World} (h : Ext a b) {k : Nat} (hk : k < a.heap.size) : b.heap[k]? = a.heap[k]? := h.block k hk (fun x => x)
theorem Ext.cell {a b : World} (h : Ext a b) {p : Addr} {v : Value} (hc : a.cell? p = some v) : b.cell? p = some v := by
  have hlt := World.block_lt_of_cell? a p hc
  rw [World.cell?_of_block (h.blk hlt)]; exact hc
theorem Keep.cell {K : Nat → Prop} {a b : World} (h : Keep K a b) {p : Addr} {v : Value} (hc : a.cell? p = some v) (hk : ¬ K p.block) : b.cell? p = some v := by
  have hlt := World.block_lt_of_cell? a p hc
  rw [World.cell?_of_block (h.block _ hlt hk)]; exact hc
theorem Ext.below {a b : World} (h : Ext a b) : RowKit.Below a.heap.size a b := ⟨h.os, h.tape, h.output, h.size, fun k hk => h.blk hk⟩

def allT : Nat → Bool := fun _ => true
def setS (S : Nat → Value → World → Prop) (k : Nat) (Sk : Value → World → Prop) : Nat → Value → World → Prop := fun j => bif Nat.beq j k then Sk else S j
theorem setS_ne {S : Nat → Value → World → Prop} {k j : Nat} {Sk : Value → World → Prop} (h : j ≠ k) : setS S k Sk j = S j := by
  have : Nat.beq j k = false := by
    cases hb : Nat.beq j k with
    | false => rfl
    | true => exact absurd (Nat.eq_of_beq_eq_true hb) h
  simp only [setS, this, cond_false]
theorem setS_same {S : Nat → Value → World → Prop} {k : Nat} {Sk : Value → World → Prop} : setS S k Sk k = Sk := by simp [setS]

def FinT (N : Nat) (Q : Exit → Act → World → Prop) (S : Nat → Value → World → Prop) : List Oper → Nat → (Nat → Value) → World → Prop
  | [], _, e, w => Q .normal (Fr N e) w
  | o :: l, k, e, w => ∀ v, S k v w → FinT N Q S l (k + 1) (updo e o.dst v) w

/-- the frame that operation number k of a region sees -/
abbrev envA (ops : Array Oper) (vals e0 : Nat → Value) (k : Nat) : Nat → Value := envL ops allT vals e0 k

def RegT (P : Program) (N : Nat) (ops : Array Oper) (Q : Exit → Act → World → Prop) (K : Nat → Prop) (e0 : Nat → Value) (w0 : World) : List Oper → Nat → (Nat → Value → World → Prop) → Prop
  | [], k, S => ∀ w, Keep K w0 w → FinT N Q S ops.toList 0 e0 w
  | o :: l, k, S => ∃ Sk : Value → World → Prop, (∀ v w w', Sk v w → Keep K w w' → Sk v w') ∧
      (∀ vals w, Keep K w0 w → (∀ j, edgeOn o j = true → S j (vals j) w) → OpG P ops (envA ops vals e0 k) o w (fun v w' => Keep K w w' ∧ Sk v w')) ∧
      RegT P N ops Q K e0 w0 l (k + 1) (setS S k Sk)

theorem finT_vals {N : Nat} {Q : Exit → Act → World → Prop} {S : Nat → Value → World → Prop} {ops : Array Oper} {vals : Nat → Value} {e0 : Nat → Value} {w : World} : ∀ (l : List Oper) (k : Nat), (∀ j, l[j]? = ops[k + j]?) →
    FinT N Q S l k (envA ops vals e0 k) w → (∀ i, i < k + l.length → S i (vals i) w) → Q .normal (Fr N (envA ops vals e0 (k + l.length))) w
  | [], k, _, h, _ => h
  | o :: l, k, hl, h, hS => by
    have h0 : ops[k]? = some o := by simpa using (hl 0).symm
    have hk := h (vals k) (hS k (by simp))
    have he : updo (envA ops vals e0 k) o.dst (vals k) = envA ops vals e0 (k + 1) := by simp [envA, envL, allT, dstAt, h0]
    rw [he] at hk
    have := finT_vals l (k + 1) (fun j => by have := hl (j + 1); simpa [Nat.add_assoc, Nat.add_comm 1 j] using this) hk (fun i hi => hS i (by simp; omega))
    have e2 : k + 1 + l.length = k + (o :: l).length := by simp; omega
    rw [e2] at this
    exact this

theorem regT_sound {P : Program} {N : Nat} {ops : Array Oper} {Q : Exit → Act → World → Prop} {K : Nat → Prop} {e0 : Nat → Value} {w0 : World} (hok : okR ops = true) : ∀ (l : List Oper) (k : Nat) (S : Nat → Value → World → Prop), (∀ j, l[j]? = ops[k + j]?) → RegT P N ops Q K e0 w0 l k S →
    (∀ i v w w', S i v w → Keep K w w' → S i v w') →
    (∀ i o, i < k → ops[i]? = some o → ∀ vals w, Keep K w0 w → (∀ j, edgeOn o j = true → S j (vals j) w) → OpG P ops (envA ops vals e0 i) o w (fun v w' => Keep K w w' ∧ S i v w')) →
    ∃ S' : Nat → Value → World → Prop, (∀ i v w w', S' i v w → Keep K w w' → S' i v w') ∧
      (∀ i o, ops[i]? = some o → ∀ vals w, Keep K w0 w → (∀ j, edgeOn o j = true → S' j (vals j) w) → OpG P ops (envA ops vals e0 i) o w (fun v w' => Keep K w w' ∧ S' i v w')) ∧
      (∀ w, Keep K w0 w → FinT N Q S' ops.toList 0 e0 w)
  | [], k, S, hl, h, hst, hlo => by
    refine ⟨S, hst, fun i o hi => ?_, h⟩
    have hlt : i < ops.size := (Array.getElem?_eq_some_iff.1 hi).1
    by_cases hik : i < k
    · exact hlo i o hik hi
    · have := hl (i - k)
      rw [show k + (i - k) = i by omega, hi] at this
      simp at this
  | o :: l, k, S, hl, ⟨Sk, hsk, hop, hrest⟩, hst, hlo => by
    have h0 : ops[k]? = some o := by simpa using (hl 0).symm
    have hedge : ∀ i oi, ops[i]? = some oi → ∀ j, edgeOn oi j = true → j < i := by
      intro i oi hi j hj
      obtain ⟨e, he, hb⟩ := edgeOn_iff hj
      simp only [Bool.and_eq_true] at hb
      have := okR_edges hok hi e he hb.1
      rwa [Nat.eq_of_beq_eq_true hb.2] at this
    refine regT_sound hok l (k + 1) (setS S k Sk) (fun j => by have := hl (j + 1); simpa [Nat.add_assoc, Nat.add_comm 1 j] using this) hrest ?_ ?_
    · intro i v w w' hs hkw
      by_cases hik : i = k
      · subst hik; rw [setS_same] at hs ⊢; exact hsk v w w' hs hkw
      · rw [setS_ne hik] at hs ⊢; exact hst i v w w' hs hkw
    · intro i oi hi hoi vals w hR hd
      by_cases hik : i = k
      · subst hik
        rw [h0] at hoi; cases hoi
        rw [setS_same]
        exact hop vals w hR fun j hj => by
          have hlt := hedge i o h0 j hj
          have := hd j hj
          rwa [setS_ne (by omega)] at this
      · rw [setS_ne hik]
        exact hlo i oi (by omega) hoi vals w hR fun j hj => by
          have hlt := hedge i oi hoi j hj
          have := hd j hj
          rwa [setS_ne (by omega)] at this

def noS : Nat → Value → World → Prop := fun _ _ _ => True

theorem wp_regd {ro : Option Nat} {n : Nat} {ds : List Deferred} {P : Program} {N : Nat} {l : List Oper} {id : Nat} {Q : Exit → Act → World → Prop} {e : Nat → Value} {w : World} (K : Nat → Prop) (hm : P.follows .mixedOrders = true) (hl : opsLt N l.toArray = true) (hok : okR l.toArray = true)
    (h : RegT P N l.toArray (Qd ds Q) K e w l 0 noS) : (Code.region id l.toArray true).wpIn (Fw ro) n P Q (FrD N e ds) w := by
  obtain ⟨S, h1, h2, h3⟩ := regT_sound hok l 0 noS (by simp) h (fun _ _ _ _ _ _ => trivial) (fun i o hi => by omega)
  refine reg_any (R := Keep K) S hm hl hok (fun _ _ _ => Keep.trans) (Keep.drawn _ _) (Keep.refl _) h1 h2 fun vals w' hR hS => ?_
  have h4 : FinT N (Qd ds Q) S l 0 (envA l.toArray vals e 0) w' := h3 w' hR
  have := finT_vals (ops := l.toArray) (vals := vals) l 0 (by simp) h4 (fun i hi => hS i (by simpa using hi))
  rw [Nat.zero_add] at this
  exact this

theorem wp_regdW {ro : Option Nat} {n : Nat} {ds : List Deferred} {P : Program} {N : Nat} {l : List Oper} {Q : Exit → Act → World → Prop} {e : Nat → Value} {w : World} (K : Nat → Prop) (hl : opsLt N l.toArray = true) (hok : okR l.toArray = true)
    (h : RegT P N l.toArray (Qd ds Q) K e w l 0 noS) : wpR ro n P l.toArray Q (FrD N e ds) w := by
  obtain ⟨S, h1, h2, h3⟩ := regT_sound hok l 0 noS (by simp) h (fun _ _ _ _ _ _ => trivial) (fun i o hi => by omega)
  refine reg_anyW (R := Keep K) S hl hok (fun _ _ _ => Keep.trans) (Keep.refl _) h1 h2 fun vals w' hR hS => ?_
  have h4 : FinT N (Qd ds Q) S l 0 (envA l.toArray vals e 0) w' := h3 w' hR
  have := finT_vals (ops := l.toArray) (vals := vals) l 0 (by simp) h4 (fun i hi => hS i (by simpa using hi))
  rw [Nat.zero_add] at this
  exact this

section
variable {P : Program} {N : Nat} {ops : Array Oper} {Q : Exit → Act → World → Prop} {K : Nat → Prop} {e0 : Nat → Value} {w0 : World} {l : List Oper} {k : Nat} {S : Nat → Value → World → Prop}

theorem rt_nil (h : ∀ w, Keep K w0 w → FinT N Q S ops.toList 0 e0 w) : RegT P N ops Q K e0 w0 [] k S := h

/-- a step whose value is known -/
theorem rt_v {d : Option Tmp} {op : Op} {ty : TypeId} {p : String} {af : Array Edge} {t : Value}
    (h : ∀ vals w, Keep K w0 w → (∀ j, edgeOn ⟨d, op, ty, p, af, none⟩ j = true → S j (vals j) w) → OpVat P ⟨d, op, ty, p, af, none⟩ (envA ops vals e0 k) w t)
    (r : RegT P N ops Q K e0 w0 l (k + 1) (setS S k (fun v _ => v = t))) : RegT P N ops Q K e0 w0 (⟨d, op, ty, p, af, none⟩ :: l) k S := by
  refine ⟨_, fun _ _ _ h _ => h, fun vals w hR hd => ?_, r⟩
  simp only [OpG, wantedE, Region.wanted, if_true]
  exact OpTo.of_v (h vals w hR hd) ⟨Keep.refl _, rfl⟩

/-- any step, with a fact that stays -/
theorem rt_to {d : Option Tmp} {op : Op} {ty : TypeId} {p : String} {af : Array Edge} (Sk : Value → World → Prop)
    (hs : ∀ v w w', Sk v w → Keep K w w' → Sk v w')
    (h : ∀ vals w, Keep K w0 w → (∀ j, edgeOn ⟨d, op, ty, p, af, none⟩ j = true → S j (vals j) w) → OpTo P ⟨d, op, ty, p, af, none⟩ (envA ops vals e0 k) w (fun v w' => Keep K w w' ∧ Sk v w'))
    (r : RegT P N ops Q K e0 w0 l (k + 1) (setS S k Sk)) : RegT P N ops Q K e0 w0 (⟨d, op, ty, p, af, none⟩ :: l) k S := by
  refine ⟨Sk, hs, fun vals w hR hd => ?_, r⟩
  simp only [OpG, wantedE, Region.wanted, if_true]
  exact h vals w hR hd

/-- guarded by an operation that is not itself guarded -/
theorem rt_g1 {d : Option Tmp} {op : Op} {ty : TypeId} {p : String} {af : Array Edge} {g : Nat} {b c : Bool} {tt : Tmp} {t : Value} (hg : (ops[g]?).bind (·.dst) = some tt)
    (hc : ∀ vals w, (∀ j, edgeOn ⟨d, op, ty, p, af, some (g, b)⟩ j = true → S j (vals j) w) → envA ops vals e0 k tt = .bool c)
    (h : ∀ vals w, Keep K w0 w → (∀ j, edgeOn ⟨d, op, ty, p, af, some (g, b)⟩ j = true → S j (vals j) w) → (c == b) = true → OpVat P ⟨d, op, ty, p, af, some (g, b)⟩ (envA ops vals e0 k) w t)
    (r : RegT P N ops Q K e0 w0 l (k + 1) (setS S k (fun v _ => v = bif (c == b) then t else undef))) : RegT P N ops Q K e0 w0 (⟨d, op, ty, p, af, some (g, b)⟩ :: l) k S := by
  refine ⟨_, fun _ _ _ h _ => h, fun vals w hR hd => ?_, r⟩
  have hy := yieldE_of hg (hc vals w hd)
  simp only [OpG, wantedE, Region.wanted, hy]
  by_cases hb : c = b
  · have hcb : (c == b) = true := by simp [hb]
    have : (some c == some b) = true := by simp [hb]
    rw [this]
    exact OpTo.of_v (h vals w hR hd hcb) ⟨Keep.refl _, by rw [hcb]; rfl⟩
  · have hcb : (c == b) = false := by simpa using hb
    have : (some c == some b) = false := by simpa using hb
    rw [this]
    exact ⟨Keep.refl _, by rw [hcb]; rfl⟩

/-- guarded by an operation that is itself guarded -/
theorem rt_g2 {d : Option Tmp} {op : Op} {ty : TypeId} {p : String} {af : Array Edge} {g : Nat} {b c G : Bool} {tt : Tmp} {t : Value} (hg : (ops[g]?).bind (·.dst) = some tt)
    (hc : ∀ vals w, (∀ j, edgeOn ⟨d, op, ty, p, af, some (g, b)⟩ j = true → S j (vals j) w) → envA ops vals e0 k tt = bif G then .bool c else undef)
    (h : ∀ vals w, Keep K w0 w → (∀ j, edgeOn ⟨d, op, ty, p, af, some (g, b)⟩ j = true → S j (vals j) w) → (G && (c == b)) = true → OpVat P ⟨d, op, ty, p, af, some (g, b)⟩ (envA ops vals e0 k) w t)
    (r : RegT P N ops Q K e0 w0 l (k + 1) (setS S k (fun v _ => v = bif (G && (c == b)) then t else undef))) : RegT P N ops Q K e0 w0 (⟨d, op, ty, p, af, some (g, b)⟩ :: l) k S := by
  refine ⟨_, fun _ _ _ h _ => h, fun vals w hR hd => ?_, r⟩
  have hc' := hc vals w hd
  have hy : yieldE ops (envA ops vals e0 k) g = bif G then some c else none := by
    unfold yieldE; rw [hg]; simp only [hc']; cases G <;> rfl
  simp only [OpG, wantedE, Region.wanted, hy]
  cases G with
  | false =>
    have : ((none : Option Bool) == some b) = false := rfl
    simp only [cond_false, this, Bool.false_and]
    exact ⟨Keep.refl _, trivial⟩
  | true =>
    simp only [cond_true, Bool.true_and]
    by_cases hb : c = b
    · have hcb : (c == b) = true := by simp [hb]
      have : (some c == some b) = true := by simp [hb]
      rw [this]
      exact OpTo.of_v (h vals w hR hd (by simp [hcb])) ⟨Keep.refl _, by rw [hcb]; rfl⟩
    · have hcb : (c == b) = false := by simpa using hb
      have : (some c == some b) = false := by simpa using hb
      rw [this]
      exact ⟨Keep.refl _, by rw [hcb]; rfl⟩

end

/-- whether an operation is wanted: its guard is not itself guarded -/
theorem wanted1 {ops : Array Oper} {e : Nat → Value} {d : Option Tmp} {op : Op} {ty : TypeId} {p : String} {af : Array Edge} {g : Nat} {b c : Bool} {tt : Tmp} (hg : (ops[g]?).bind (·.dst) = some tt) (hc : e tt = .bool c) :
    wantedE ops e ⟨d, op, ty, p, af, some (g, b)⟩ = (c == b) := by
  simp only [wantedE, Region.wanted, yieldE_of hg hc]; cases c <;> cases b <;> rfl
theorem wanted2 {ops : Array Oper} {e : Nat → Value} {d : Option Tmp} {op : Op} {ty : TypeId} {p : String} {af : Array Edge} {g : Nat} {b c G : Bool} {tt : Tmp} (hg : (ops[g]?).bind (·.dst) = some tt) (hc : e tt = bif G then .bool c else undef) :
    wantedE ops e ⟨d, op, ty, p, af, some (g, b)⟩ = (G && (c == b)) := by
  have hy : yieldE ops e g = bif G then some c else none := by
    unfold yieldE; rw [hg]; simp only [hc]; cases G <;> rfl
  simp only [wantedE, Region.wanted, hy]; cases G <;> cases c <;> cases b <;> rfl

/-- what a guarded step left, where it was wanted -/
theorem gd {v t : Value} {G : Bool} (hG : G = true) (h : v = bif G then t else undef) : v = t := by subst hG; exact h
theorem gda {v t : Value} {A B : Bool} (hA : A = true) (h : v = bif (A && B) then t else undef) : v = bif B then t else undef := by subst hA; exact h

section
variable {P : Program} {N : Nat} {ops : Array Oper} {Q : Exit → Act → World → Prop} {e : Nat → Value} {w : World} {rest : List Oper}
/-- in the order of the text: guarded, the value known -/
theorem l_g1 {d : Option Tmp} {op : Op} {ty : TypeId} {p : String} {af : Array Edge} {g : Nat} {b c : Bool} {tt : Tmp} {t : Value} (hg : (ops[g]?).bind (·.dst) = some tt) (hc : e tt = .bool c)
    (h : (c == b) = true → OpVat P ⟨d, op, ty, p, af, some (g, b)⟩ e w t) (r : wpL P N ops Q rest (updo e d (bif (c == b) then t else undef)) w) :
    wpL P N ops Q (⟨d, op, ty, p, af, some (g, b)⟩ :: rest) e w := by
  unfold wpL
  rw [wanted1 hg hc]
  cases hcb : (c == b) with
  | true => rw [hcb] at r; exact Or.inl (OpTo.of_v (h hcb) r)
  | false => rw [hcb] at r; exact r
theorem l_g2 {d : Option Tmp} {op : Op} {ty : TypeId} {p : String} {af : Array Edge} {g : Nat} {b c G : Bool} {tt : Tmp} {t : Value} (hg : (ops[g]?).bind (·.dst) = some tt) (hc : e tt = bif G then .bool c else undef)
    (h : (G && (c == b)) = true → OpVat P ⟨d, op, ty, p, af, some (g, b)⟩ e w t) (r : wpL P N ops Q rest (updo e d (bif (G && (c == b)) then t else undef)) w) :
    wpL P N ops Q (⟨d, op, ty, p, af, some (g, b)⟩ :: rest) e w := by
  unfold wpL
  rw [wanted2 hg hc]
  cases hcb : (G && (c == b)) with
  | true => rw [hcb] at r; exact Or.inl (OpTo.of_v (h hcb) r)
  | false => rw [hcb] at r; exact r
end
end Go.Vc

namespace Go.Vc
set_option linter.unusedVariables false
set_option linter.unusedSimpArgs false

theorem run_equalIn_bool (P : Program) (w : World) (n : Nat) (t : TypeId) (a b : Bool) (h : P.underlying t = some .bool) : (Op.equalIn (n + 1) t (.bool a) (.bool b)).run P w = .ok (a == b) w := by
  simp [Op.equalIn, run_underlying h]
section
variable {P : Program} {d : Option Tmp} {ty : TypeId} {p : String} {af : Array Edge} {g : Option (Nat × Bool)} {e : Nat → Value} {w : World} {x y c : Operand}

theorem v_move {t : Value} (hx : ev e x = t) : OpVat P ⟨d, .move x, ty, p, af, g⟩ e w t := by subst hx; rfl
theorem v_assign {t : Value} (hx : ev e x = t) : OpVat P ⟨d, .assign x, ty, p, af, g⟩ e w t := by subst hx; rfl
theorem v_pick {b : Bool} {s t : Value} (hc : ev e c = .bool b) (hx : ev e x = s) (hy : ev e y = t) : OpVat P ⟨d, .pick c x y, ty, p, af, g⟩ e w (bif b then s else t) := by
  subst hx; subst hy; cases b <;> simp [OpVat, execOp, hc, asBool]
theorem v_or {b q : Bool} (hc : ev e c = .bool b) (hy : ev e y = bif (b == false) then .bool q else undef) : OpVat P ⟨d, .pick c (.const (.bool true)) y, ty, p, af, g⟩ e w (.bool (b || q)) := by
  cases b
  · simp [OpVat, execOp, hc, asBool, hy]
  · simp [OpVat, execOp, hc, asBool]; rfl
theorem v_and {b q : Bool} (hc : ev e c = .bool b) (hy : ev e y = bif (b == true) then .bool q else undef) : OpVat P ⟨d, .pick c y (.const (.bool false)), ty, p, af, g⟩ e w (.bool (b && q)) := by
  cases b
  · simp [OpVat, execOp, hc, asBool]; rfl
  · simp [OpVat, execOp, hc, asBool, hy]
section ints
variable {k : IntKind} {a b : Int} {xt yt : TypeId}
theorem v_add {t : Int} (hx : ev e x = .int k a) (hy : ev e y = .int k b) (ht : k.wrap (a + b) = t) : OpVat P ⟨d, .binOp .add xt x y yt, ty, p, af, g⟩ e w (.int k t) := by
  subst ht; simp [OpVat, execOp, hx, hy, eqGuard, binOp, Op.intArith]
theorem v_sub {t : Int} (hx : ev e x = .int k a) (hy : ev e y = .int k b) (ht : k.wrap (a - b) = t) : OpVat P ⟨d, .binOp .sub xt x y yt, ty, p, af, g⟩ e w (.int k t) := by
  subst ht; simp [OpVat, execOp, hx, hy, eqGuard, binOp, Op.intArith]
theorem v_mul {t : Int} (hx : ev e x = .int k a) (hy : ev e y = .int k b) (ht : k.wrap (a * b) = t) : OpVat P ⟨d, .binOp .mul xt x y yt, ty, p, af, g⟩ e w (.int k t) := by
  subst ht; simp [OpVat, execOp, hx, hy, eqGuard, binOp, Op.intArith]
theorem v_rem {t : Int} (hx : ev e x = .int k a) (hy : ev e y = .int k b) (h0 : b ≠ 0) (ht : a.tmod b = t) : OpVat P ⟨d, .binOp .rem xt x y yt, ty, p, af, g⟩ e w (.int k t) := by
  subst ht; simp [OpVat, execOp, hx, hy, eqGuard, binOp, Op.intDiv, h0]
theorem v_bor {t : Int} (hx : ev e x = .int k a) (hy : ev e y = .int k b) (ht : k.wrap ((BitVec.ofInt k.bits a ||| BitVec.ofInt k.bits b).toNat) = t) : OpVat P ⟨d, .binOp .or xt x y yt, ty, p, af, g⟩ e w (.int k t) := by
  subst ht; simp [OpVat, execOp, hx, hy, eqGuard, binOp, Op.intBits]
theorem v_band {t : Int} (hx : ev e x = .int k a) (hy : ev e y = .int k b) (ht : k.wrap ((BitVec.ofInt k.bits a &&& BitVec.ofInt k.bits b).toNat) = t) : OpVat P ⟨d, .binOp .and xt x y yt, ty, p, af, g⟩ e w (.int k t) := by
  subst ht; simp [OpVat, execOp, hx, hy, eqGuard, binOp, Op.intBits]
theorem v_bandNot {t : Int} (hx : ev e x = .int k a) (hy : ev e y = .int k b) (ht : k.wrap ((BitVec.ofInt k.bits a &&& ~~~ BitVec.ofInt k.bits b).toNat) = t) : OpVat P ⟨d, .binOp .andNot xt x y yt, ty, p, af, g⟩ e w (.int k t) := by
  subst ht; simp [OpVat, execOp, hx, hy, eqGuard, binOp, Op.intBits]
theorem v_shl {t : Int} {k' : IntKind} (hx : ev e x = .int k a) (hy : ev e y = .int k' b) (h0 : 0 ≤ b) (ht : k.wrap (a * 2 ^ (min b.toNat k.bits)) = t) : OpVat P ⟨d, .binOp .shl xt x y yt, ty, p, af, g⟩ e w (.int k t) := by
  subst ht; simp [OpVat, execOp, hx, hy, eqGuard, binOp, Op.shift, show ¬ b < 0 by omega]
theorem v_shr {t : Int} {k' : IntKind} (hx : ev e x = .int k a) (hy : ev e y = .int k' b) (h0 : 0 ≤ b) (ht : a.fdiv (2 ^ (min b.toNat k.bits)) = t) : OpVat P ⟨d, .binOp .shr xt x y yt, ty, p, af, g⟩ e w (.int k t) := by
  subst ht; simp [OpVat, execOp, hx, hy, eqGuard, binOp, Op.shift, show ¬ b < 0 by omega]
theorem v_lss (hx : ev e x = .int k a) (hy : ev e y = .int k b) : OpVat P ⟨d, .binOp .lss xt x y yt, ty, p, af, g⟩ e w (.bool (decide (a < b))) := by
  simp [OpVat, execOp, hx, hy, eqGuard, binOp, Op.intCmp]
theorem v_leq (hx : ev e x = .int k a) (hy : ev e y = .int k b) : OpVat P ⟨d, .binOp .leq xt x y yt, ty, p, af, g⟩ e w (.bool (decide (a ≤ b))) := by
  simp [OpVat, execOp, hx, hy, eqGuard, binOp, Op.intCmp]
theorem v_gtr (hx : ev e x = .int k a) (hy : ev e y = .int k b) : OpVat P ⟨d, .binOp .gtr xt x y yt, ty, p, af, g⟩ e w (.bool (decide (b < a))) := by
  simp [OpVat, execOp, hx, hy, eqGuard, binOp, Op.intCmp]
theorem v_geq (hx : ev e x = .int k a) (hy : ev e y = .int k b) : OpVat P ⟨d, .binOp .geq xt x y yt, ty, p, af, g⟩ e w (.bool (decide (b ≤ a))) := by
  simp [OpVat, execOp, hx, hy, eqGuard, binOp, Op.intCmp]
theorem v_eql (hx : ev e x = .int k a) (hy : ev e y = .int k b) : OpVat P ⟨d, .binOp .eql xt x y yt, ty, p, af, g⟩ e w (.bool (decide (a = b))) := by
  have : (a == b) = decide (a = b) := rfl
  simp [OpVat, execOp, hx, hy, eqGuard, binOp, Op.intCmp, this]
theorem v_neq (hx : ev e x = .int k a) (hy : ev e y = .int k b) : OpVat P ⟨d, .binOp .neq xt x y yt, ty, p, af, g⟩ e w (.bool (!decide (a = b))) := by
  simp [OpVat, execOp, hx, hy, eqGuard, binOp, Op.intCmp, bne]
  rfl
/-- a number turned into one of another kind -/
theorem v_conv {t : Int} {k' : IntKind} {ds : TypeDesc} {src dst : TypeId} (hs : P.underlying src = some ds) (hd : P.underlying dst = some (.int k)) (hx : ev e x = .int k' a) (ht : k.wrap a = t) : OpVat P ⟨d, .convert src dst x, ty, p, af, g⟩ e w (.int k t) := by
  subst ht; simp [OpVat, execOp, hx, convert, run_underlying hs, run_underlying hd, Conv.intToInt]
end ints

theorem v_not {b : Bool} {xt : TypeId} (hx : ev e x = .bool b) : OpVat P ⟨d, .unOp .not xt x, ty, p, af, g⟩ e w (.bool !b) := by
  simp [OpVat, execOp, hx, Op.unary]

theorem v_beql {a b : Bool} {xt yt : TypeId} (ht : P.underlying xt = some .bool) (hx : ev e x = .bool a) (hy : ev e y = .bool b) : OpVat P ⟨d, .binOp .eql xt x y yt, ty, p, af, g⟩ e w (.bool (a == b)) := by
  simp only [OpVat, execOp, hx, hy, eqGuard, binOp]; simp [Op.equal, Op.maxDepth, run_equalIn_bool P w 9999 xt a b ht]
theorem v_seql {a b : ByteArray} {xt yt : TypeId} (hx : ev e x = .string a) (hy : ev e y = .string b) : OpVat P ⟨d, .binOp .eql xt x y yt, ty, p, af, g⟩ e w (.bool (a.toList == b.toList)) := by
  simp [OpVat, execOp, hx, hy, eqGuard, binOp, Op.stringOp]
theorem v_sneq {a b : ByteArray} {xt yt : TypeId} (hx : ev e x = .string a) (hy : ev e y = .string b) : OpVat P ⟨d, .binOp .neq xt x y yt, ty, p, af, g⟩ e w (.bool !(a.toList == b.toList)) := by
  simp [OpVat, execOp, hx, hy, eqGuard, binOp, Op.stringOp]
theorem v_sleneq {a : Option Addr} {n c : Nat} {xt yt et : TypeId} (ht : P.underlying xt = some (.slice et)) (hx : ev e x = .slice a n c) (hy : ev e y = .slice none 0 0) : OpVat P ⟨d, .binOp .eql xt x y yt, ty, p, af, g⟩ e w (.bool a.isNone) := by
  have := Lib.run_eql_slice_nil (P := P) w xt et a n c 0 0 ht
  simp [OpVat, execOp, hx, hy, eqGuard, this]
theorem v_nilCheck {a : Addr} (hx : ev e x = .pointer (some a)) : OpVat P ⟨d, .nilCheck x, ty, p, af, g⟩ e w (.pointer (some a)) := by
  simp [OpVat, execOp, hx]
theorem v_extract {vs : Array Value} {i : Nat} {t : Value} (hx : ev e x = .tuple vs) (hi : vs[i]? = some t) : OpVat P ⟨d, .extract x i, ty, p, af, g⟩ e w t := by
  simp [OpVat, execOp, hx, Instr.extract, hi]
theorem v_makeFunc {fn : Fn} {first captured : Array Operand} {f' c' : Array Value} (h1 : first.map (ev e) = f') (h2 : captured.map (ev e) = c') : OpVat P ⟨d, .makeFunc fn first captured, ty, p, af, g⟩ e w (.func fn f' c') := by
  simp [OpVat, execOp, Instr.makeFunc, h1, h2]
theorem v_len {t : TypeId} {et : TypeId} {a : Option Addr} {n c : Nat} (ht : P.underlying t = some (.slice et)) (hx : ev e x = .slice a n c) : OpVat P ⟨d, .call { callee := .builtin .len, args := #[x], argTypes := #[t] }, ty, p, af, g⟩ e w (.int .i64 n) := by
  simp [OpVat, execOp, hx, resolve, invoke, builtin, Builtin.len_, run_underlying ht, goInt]
end
end Go.Vc

namespace Go.Vc
set_option linter.unusedVariables false
set_option linter.unusedSimpArgs false

theorem add_add (q : Addr) (i j : Nat) : (q.add i).add j = q.add (i + j) := by
  unfold Addr.add
  by_cases hi : i = 0
  · subst hi; by_cases hj : j = 0 <;> simp [hj]
  · by_cases hj : j = 0
    · subst hj; simp
    · simp [hi, hj, Nat.add_assoc]
theorem add_block (q : Addr) (i : Nat) : (q.add i).block = q.block := by unfold Addr.add; split <;> rfl
theorem add_lit (b o i : Nat) : (⟨b, o, none⟩ : Addr).add i = ⟨b, o + i, none⟩ := Addr.add_lit b o i
theorem add_zero (q : Addr) : q.add 0 = q := by simp [Addr.add]

/-! ### how a type's values lie in cells -/
structure Ty (α : Type) where
  sz : Nat
  pos : 0 < sz
  rep : World → (Nat → Prop) → List Value → α → Prop
  len : ∀ {w F cs x}, rep w F cs x → cs.length = sz
  one : ∀ {w F cs x}, rep w F cs x → ∀ u ∈ cs, u.oneCell' = true
  keep : ∀ {w w' F K cs x}, rep w F cs x → Keep K w w' → (∀ b, b < w.heap.size → F b → ¬ K b) → rep w' F cs x
  mono : ∀ {w F F' cs x}, rep w F cs x → (∀ b, b < w.heap.size → F b → F' b) → rep w F' cs x

/-- cells at an address -/
def Pv (w : World) (q : Addr) (cs : List Value) : Prop := ∀ j u, cs[j]? = some u → w.cell? (q.add j) = some u
theorem Pv.keep {w w' : World} {K : Nat → Prop} {q : Addr} {cs : List Value} (h : Pv w q cs) (k : Keep K w w') (hk : ¬ K q.block) : Pv w' q cs :=
  fun j u hu => k.cell (h j u hu) (by rw [add_block]; exact hk)
theorem Pv.ext {w w' : World} {q : Addr} {cs : List Value} (h : Pv w q cs) (k : Ext w w') : Pv w' q cs := h.keep k (fun x => x)
theorem Pv.lt {w : World} {q : Addr} {cs : List Value} (h : Pv w q cs) (hp : 0 < cs.length) : q.block < w.heap.size := by
  have h0 : cs[0]? = some cs[0] := by simp [hp]
  have := World.block_lt_of_cell? w _ (h 0 _ h0)
  rwa [add_block] at this

/-- a slice that reads as a list; what it reaches lies in blocks of F -/
def SlV {α : Type} (t : Ty α) (w : World) (F : Nat → Prop) (v : Value) (xs : List α) : Prop :=
  ∃ a c, v = .slice a xs.length c ∧ xs.length ≤ c ∧ c ≤ maxLen ∧ (a = none → c = 0) ∧
    ∀ i x, xs[i]? = some x → ∃ q cs, a = some q ∧ F q.block ∧ Pv w (q.add (i * t.sz)) cs ∧ t.rep w F cs x

section
variable {α : Type} {t : Ty α} {w w' : World} {F F' K : Nat → Prop} {v : Value} {xs : List α}

theorem SlV.shape (h : SlV t w F v xs) : ∃ a c, v = .slice a xs.length c := by obtain ⟨a, c, rfl, _⟩ := h; exact ⟨a, c, rfl⟩
theorem SlV.max (h : SlV t w F v xs) : xs.length ≤ maxLen := by obtain ⟨a, c, _, h1, h2, _⟩ := h; omega
theorem SlV.nil (t : Ty α) (w : World) (F : Nat → Prop) : SlV t w F (.slice none 0 0) [] := ⟨none, 0, rfl, Nat.le_refl _, by simp [maxLen], fun _ => rfl, fun i x h => by simp at h⟩
theorem SlV.empty (t : Ty α) (w : World) (F : Nat → Prop) (a : Option Addr) (c : Nat) (hc : c ≤ maxLen) (ha : a = none → c = 0) : SlV t w F (.slice a 0 c) [] := ⟨a, c, rfl, Nat.zero_le _, hc, ha, fun i x h => by simp at h⟩
theorem rep_lt {q : Addr} {cs : List Value} {x : α} (hp : Pv w q cs) (hr : t.rep w F cs x) : q.block < w.heap.size := hp.lt (by have := t.len hr; have := t.pos; omega)
theorem SlV.keep (h : SlV t w F v xs) (k : Keep K w w') (hk : ∀ b, b < w.heap.size → F b → ¬ K b) : SlV t w' F v xs := by
  obtain ⟨a, c, hv, h1, h2, h3, h4⟩ := h
  refine ⟨a, c, hv, h1, h2, h3, fun i x hx => ?_⟩
  obtain ⟨q, cs, ha, hF, hc, hr⟩ := h4 i x hx
  have hlt := rep_lt hc hr
  rw [add_block] at hlt
  exact ⟨q, cs, ha, hF, hc.keep k (by rw [add_block]; exact hk _ hlt hF), t.keep hr k hk⟩
theorem SlV.ext (h : SlV t w F v xs) (k : Ext w w') : SlV t w' F v xs := h.keep k (fun _ _ _ x => x)
theorem SlV.mono (h : SlV t w F v xs) (hf : ∀ b, b < w.heap.size → F b → F' b) : SlV t w F' v xs := by
  obtain ⟨a, c, hv, h1, h2, h3, h4⟩ := h
  refine ⟨a, c, hv, h1, h2, h3, fun i x hx => ?_⟩
  obtain ⟨q, cs, ha, hF, hc, hr⟩ := h4 i x hx
  have hlt := rep_lt hc hr
  rw [add_block] at hlt
  exact ⟨q, cs, ha, hf _ hlt hF, hc, t.mono hr hf⟩
/-- any footprint may be taken for the blocks that are there -/
theorem SlV.lt (h : SlV t w F v xs) : SlV t w (fun b => F b ∧ b < w.heap.size) v xs := h.mono fun b hb hF => ⟨hF, hb⟩
theorem SlV.all (h : SlV t w F v xs) : SlV t w (fun b => b < w.heap.size) v xs := h.mono fun b hb _ => hb
end

/-! ### the types -/
def tU8 : Ty UInt8 where
  sz := 1
  pos := by decide
  rep := fun _ _ cs x => cs = [.int .u8 x.toNat]
  len := by rintro _ _ _ _ rfl; rfl
  one := by rintro _ _ _ _ rfl u hu; simp at hu; subst hu; rfl
  keep := by intro _ _ _ _ _ _ h _ _; exact h
  mono := by intro _ _ _ _ _ h _; exact h
/-- numbers of a kind -/
def tInt (k : IntKind) : Ty Int where
  sz := 1
  pos := by decide
  rep := fun _ _ cs x => cs = [.int k x] ∧ (Lit.int k x).wf = true
  len := by rintro _ _ _ _ ⟨rfl, _⟩; rfl
  one := by rintro _ _ _ _ ⟨rfl, _⟩ u hu; simp at hu; subst hu; rfl
  keep := by intro _ _ _ _ _ _ h _ _; exact h
  mono := by intro _ _ _ _ _ h _; exact h
def tBool : Ty Bool where
  sz := 1
  pos := by decide
  rep := fun _ _ cs x => cs = [.bool x]
  len := by rintro _ _ _ _ rfl; rfl
  one := by rintro _ _ _ _ rfl u hu; simp at hu; subst hu; rfl
  keep := by intro _ _ _ _ _ _ h _ _; exact h
  mono := by intro _ _ _ _ _ h _; exact h
theorem slice_one (a : Option Addr) (n c : Nat) : (Value.slice a n c).oneCell' = true := rfl
def tSl {α : Type} (t : Ty α) : Ty (List α) where
  sz := 1
  pos := by decide
  rep := fun w F cs xs => ∃ v, cs = [v] ∧ SlV t w F v xs
  len := by rintro _ _ _ _ ⟨v, rfl, _⟩; rfl
  one := by rintro _ _ _ _ ⟨v, rfl, h⟩ u hu; obtain ⟨a, c, rfl⟩ := h.shape; simp at hu; subst hu; rfl
  keep := by rintro _ _ _ _ _ _ ⟨v, rfl, h⟩ k hk; exact ⟨v, rfl, h.keep k hk⟩
  mono := by rintro _ _ _ _ _ ⟨v, rfl, h⟩ hf; exact ⟨v, rfl, h.mono hf⟩
/-- two things side by side: a struct's fields, an array's elements -/
def tPair {α β : Type} (s : Ty α) (t : Ty β) : Ty (α × β) where
  sz := s.sz + t.sz
  pos := by have := s.pos; omega
  rep := fun w F cs x => ∃ c1 c2, cs = c1 ++ c2 ∧ s.rep w F c1 x.1 ∧ t.rep w F c2 x.2
  len := by rintro _ _ _ _ ⟨c1, c2, rfl, h1, h2⟩; simp [s.len h1, t.len h2]
  one := by
    rintro _ _ _ _ ⟨c1, c2, rfl, h1, h2⟩ u hu
    rcases List.mem_append.1 hu with h | h
    · exact s.one h1 u h
    · exact t.one h2 u h
  keep := by rintro _ _ _ _ _ _ ⟨c1, c2, rfl, h1, h2⟩ k hk; exact ⟨c1, c2, rfl, s.keep h1 k hk, t.keep h2 k hk⟩
  mono := by rintro _ _ _ _ _ ⟨c1, c2, rfl, h1, h2⟩ hf; exact ⟨c1, c2, rfl, s.mono h1 hf, t.mono h2 hf⟩
/-- another view of the same cells -/
def tMap {α β : Type} (t : Ty α) (f : β → α) : Ty β where
  sz := t.sz
  pos := t.pos
  rep := fun w F cs y => t.rep w F cs (f y)
  len := fun h => t.len h
  one := fun h => t.one h
  keep := fun h k hk => t.keep h k hk
  mono := fun h hf => t.mono h hf

abbrev Bv (w : World) (F : Nat → Prop) (v : Value) (l : List UInt8) : Prop := SlV tU8 w F v l

/-! ### memory of one's own -/
/-- a block of cells, written out -/
def Blk (w : World) (b : Nat) (cs : List Value) (T : TypeId) : Prop := w.heap[b]? = some (.cells cs.toArray T (0, 0))
theorem Blk.lt {w : World} {b : Nat} {cs : List Value} {T : TypeId} (h : Blk w b cs T) : b < w.heap.size := by
  rcases Nat.lt_or_ge b w.heap.size with h' | h'
  · exact h'
  · simp [Blk, Array.getElem?_eq_none h'] at h
theorem Blk.keep {w w' : World} {K : Nat → Prop} {b : Nat} {cs : List Value} {T : TypeId} (h : Blk w b cs T) (k : Keep K w w') (hk : ¬ K b) : Blk w' b cs T := by
  unfold Blk; rw [k.block b h.lt hk]; exact h
theorem Blk.ext {w w' : World} {b : Nat} {cs : List Value} {T : TypeId} (h : Blk w b cs T) (k : Ext w w') : Blk w' b cs T := h.keep k (fun x => x)
theorem Blk.cell {w : World} {b : Nat} {cs : List Value} {T : TypeId} (h : Blk w b cs T) {i : Nat} {v : Value} (hi : cs[i]? = some v) : w.cell? ⟨b, i, none⟩ = some v := by
  rw [cell_of_row w b i _ T (0, 0) h]; simpa using hi
theorem Blk.pv {w : World} {b : Nat} {cs : List Value} {T : TypeId} (h : Blk w b cs T) : Pv w ⟨b, 0, none⟩ cs := fun j u hu => by
  rw [add_lit, Nat.zero_add]; exact h.cell hu
theorem Blk.free {w : World} {b : Nat} {cs : List Value} {T : TypeId} (h : Blk w b cs T) (i : Nat) : w.frozen? ⟨b, i, none⟩ = false := by
  unfold Blk at h
  simp [World.frozen?, h]
theorem Ext.alloc (w : World) (o : Obj) : Ext w (w.alloc o) := ⟨rfl, rfl, rfl, by simp, fun k hk _ => RowKit.Below.heap_alloc w o k hk⟩
theorem Blk.new (w : World) (cs : List Value) (T : TypeId) : Blk (w.alloc (.cells cs.toArray T)) w.heap.size cs T := heap_alloc_new w _
theorem Keep.setCell (w : World) (a : Addr) (v : Value) : Keep (fun b => b = a.block) w (w.setCell a v) :=
  ⟨rfl, rfl, rfl, by simp [World.setCell], fun k _ hk => RowKit.Below.heap_setCell _ _ _ _ hk⟩
theorem Blk.set {w : World} {b : Nat} {cs : List Value} {T : TypeId} (h : Blk w b cs T) (i : Nat) (v : Value) : Blk (w.setCell ⟨b, i, none⟩ v) b (cs.set i v) T := by
  have hlt := h.lt
  unfold Blk at h ⊢
  simp only [World.setCell, Array.getElem?_modify, h]
  simp
end Go.Vc

namespace Go.Vc
set_option linter.unusedVariables false
set_option linter.unusedSimpArgs false

/-! ### closed facts on types -/
def kOne (P : Program) (t : TypeId) : Bool := match P.underlying t with
  | some (.struct _) | some (.array _ _) => false
  | some _ => true
  | none => false
def kAgg (P : Program) (t : TypeId) (n : Nat) : Bool := (match P.underlying t with
  | some (.struct _) | some (.array _ _) => true
  | _ => false) && (P.info? t).map (·.size) == some n
def kSize (P : Program) (t : TypeId) (n : Nat) : Bool := (P.info? t).map (·.size) == some n
def kField (P : Program) (s i off : Nat) (ft : TypeId) : Bool := match P.underlying s with
  | some (.struct fs) => (match fs[i]? with | some f => Nat.beq f.offset off && Nat.beq f.type ft && (match P.info? ft with | some inf => !Nat.beq inf.size 0 | none => false) | none => false)
  | _ => false
def kElem (P : Program) (T e sz bytes : Nat) : Bool := (match P.underlying T with | some (.slice e') => Nat.beq e' e | _ => false) &&
  (match P.info? e with | some i => (match i.zero with | some z => Nat.beq z.cells.size sz | none => false) && Nat.beq i.size sz && Nat.beq i.bytes bytes | none => false)
def kSlice (P : Program) (T e : Nat) : Bool := match P.underlying T with | some (.slice e') => Nat.beq e' e | _ => false

theorem kSlice_of {P : Program} {T e : Nat} (h : kSlice P T e = true) : P.underlying T = some (.slice e) := by
  unfold kSlice at h
  split at h
  · rename_i e' he; rw [he, Nat.eq_of_beq_eq_true h]
  · cases h
theorem kElem_of {P : Program} {T e sz bytes : Nat} (h : kElem P T e sz bytes = true) : P.underlying T = some (.slice e) ∧ ∃ i z, P.info? e = some i ∧ i.zero = some z ∧ z.cells.size = sz ∧ i.size = sz ∧ i.bytes = bytes := by
  simp only [kElem, Bool.and_eq_true] at h
  refine ⟨kSlice_of h.1, ?_⟩
  have h2 := h.2
  split at h2
  · rename_i i hi
    simp only [Bool.and_eq_true] at h2
    obtain ⟨⟨h3, h4⟩, h5⟩ := h2
    split at h3
    · rename_i z hz; exact ⟨i, z, hi, hz, Nat.eq_of_beq_eq_true h3, Nat.eq_of_beq_eq_true h4, Nat.eq_of_beq_eq_true h5⟩
    · cases h3
  · cases h2
theorem run_isAgg_one {P : Program} {t : TypeId} (h : kOne P t = true) (w : World) : (isAgg t).run P w = .ok false w := by
  unfold kOne at h
  unfold isAgg
  cases hu : P.underlying t with
  | none => simp [hu] at h
  | some d =>
    rw [hu] at h
    cases d <;> simp at h <;> simp [run_underlying hu]
theorem run_isAgg_agg {P : Program} {t : TypeId} {n : Nat} (h : kAgg P t n = true) (w : World) : (isAgg t).run P w = .ok true w ∧ (sizeOf t).run P w = .ok n w := by
  simp only [kAgg, Bool.and_eq_true] at h
  constructor
  · have h1 := h.1
    unfold isAgg
    cases hu : P.underlying t with
    | none => simp [hu] at h1
    | some d =>
      rw [hu] at h1
      cases d <;> simp at h1 <;> simp [run_underlying hu]
  · have h2 := h.2
    cases hi : P.info? t with
    | none => simp [hi] at h2
    | some i => simp [hi] at h2; simp [sizeOf, typeInfo, hi, h2]
theorem run_sizeOf {P : Program} {t : TypeId} {n : Nat} (h : kSize P t n = true) (w : World) : (sizeOf t).run P w = .ok n w := by
  cases hi : P.info? t with
  | none => simp [kSize, hi] at h
  | some i => simp [kSize, hi] at h; simp [sizeOf, typeInfo, hi, h]

section
variable {P : Program} {d : Option Tmp} {ty : TypeId} {p : String} {af : Array Edge} {g : Option (Nat × Bool)} {e : Nat → Value} {w : World} {x y c : Operand}

theorem v_load {t : TypeId} {a : Addr} {v : Value} (hk : kOne P t = true) (hx : ev e x = .pointer (some a)) (hc : w.cell? a = some v) : OpVat P ⟨d, .load t x, ty, p, af, g⟩ e w v := by
  simp [OpVat, execOp, hx, Instr.loadAt, Instr.sureAddr, loadVar, run_isAgg_one hk, load, Sem.run, hc]
theorem v_loadA {t : TypeId} {n : Nat} {a : Addr} {cs : List Value} (hk : kAgg P t n = true) (hx : ev e x = .pointer (some a)) (hc : Pv w a cs) (hn : cs.length = n) : OpVat P ⟨d, .load t x, ty, p, af, g⟩ e w (.agg cs.toArray) := by
  have h1 := run_isAgg_agg hk w
  have h2 := run_loadCells_list (P := P) w a cs hc
  rw [hn] at h2
  simp [OpVat, execOp, hx, Instr.loadAt, Instr.sureAddr, loadVar, h1.1, h1.2, h2]
theorem v_fieldAddr {s i off : Nat} {ft : TypeId} {a : Addr} (hk : kField P s i off ft = true) (hx : ev e x = .pointer (some a)) : OpVat P ⟨d, .fieldAddr s x i, ty, p, af, g⟩ e w (.pointer (some (a.add off))) := by
  unfold kField at hk
  split at hk
  · rename_i fs hu
    split at hk
    · rename_i f hf
      simp only [Bool.and_eq_true] at hk
      obtain ⟨⟨h1, h2⟩, h3⟩ := hk
      have h1 := Nat.eq_of_beq_eq_true h1
      have h2 := Nat.eq_of_beq_eq_true h2
      split at h3
      · rename_i inf hi
        have h0 : ¬ inf.size = 0 := by intro h; simp [h] at h3
        rw [← h2] at hi
        simp [OpVat, execOp, hx, Instr.fieldAt, Instr.sureAddr, run_underlying hu, hf, fieldPlace, sizeOf, typeInfo, hi, h0, h1]
      · cases h3
    · cases hk
  · cases hk
theorem v_field {s i off : Nat} {ft : TypeId} {cs : Array Value} {v : Value} (hk : kField P s i off ft = true) (h1 : kOne P ft = true) (hx : ev e x = .agg cs) (hc : cs[off]? = some v) : OpVat P ⟨d, .field s x i, ty, p, af, g⟩ e w v := by
  unfold kField at hk
  split at hk
  · rename_i fs hu
    split at hk
    · rename_i f hf
      simp only [Bool.and_eq_true] at hk
      obtain ⟨⟨a1, a2⟩, a3⟩ := hk
      have a1 := Nat.eq_of_beq_eq_true a1
      have a2 := Nat.eq_of_beq_eq_true a2
      rw [← a2] at h1
      simp [OpVat, execOp, hx, Instr.field, run_underlying hu, hf, part, asAgg, run_isAgg_one h1, a1, hc]
    · cases hk
  · cases hk
/-- the address of a slice's element -/
theorem v_indexAddr {t et : TypeId} {sz n c k : Nat} {kk : IntKind} {i : Int} {q : Addr} (ht : kSlice P t et = true) (hs : kSize P et sz = true) (hx : ev e x = .slice (some q) n c) (hy : ev e y = .int kk i) (hi : i = (k : Nat)) (hk : k < n) :
    OpVat P ⟨d, .indexAddr t x y, ty, p, af, g⟩ e w (.pointer (some (q.add (k * sz)))) := by
  subst hi
  have h1 : (k : Int) < (n : Int) := by omega
  simp [OpVat, execOp, hx, hy, Instr.indexAt, asIntOf, run_underlying (kSlice_of ht), h1, run_sizeOf hs]
  intro h; omega
/-- 's[lo:hi]' of bytes turned into a text -/
theorem v_b2s {src dst et : TypeId} {F : Nat → Prop} {v : Value} {l : List UInt8} (hs : kSlice P src et = true) (he : P.underlying et = some (.int .u8)) (hd : P.underlying dst = some .string) (hx : ev e x = v) (hb : Bv w F v l) :
    OpVat P ⟨d, .convert src dst x, ty, p, af, g⟩ e w (.string ⟨l.toArray⟩) := by
  obtain ⟨a, c, rfl, h1, h2, h3, h4⟩ := hb
  have hcv := run_convert_bytes_string (P := P) w src dst et a l.length c (kSlice_of hs) he hd
  simp only [OpVat, execOp, hx]
  rw [Sem.run_bind, hcv]
  cases ha : a with
  | none =>
    have h0 : l = [] := List.eq_nil_of_length_eq_zero (by have := h3 ha; omega)
    subst h0
    simp [Conv.bytesToString, ByteArray.empty, ByteArray.emptyWithCapacity]
    rfl
  | some q =>
    have hl : (loadCells q l.length).run P w = .ok ((l.map (fun b => (b.toNat : Int))).map (Value.int .u8)).toArray w := by
      have := run_loadCells_list (P := P) w q ((l.map (fun b => (b.toNat : Int))).map (Value.int .u8)) (fun j u hu => by
        simp only [List.map_map, List.getElem?_map, Option.map_eq_some_iff] at hu
        obtain ⟨b, hb, rfl⟩ := hu
        obtain ⟨q', cs, hq, _, hp, hr⟩ := h4 j b hb
        rw [ha] at hq; cases hq
        have hr' : cs = [.int .u8 b.toNat] := hr
        subst hr'
        have := hp 0 _ rfl
        rw [add_add] at this
        simpa [tU8] using this)
      simpa using this
    have := run_bytesToString (P := P) w q l.length c (l.map (fun b => (b.toNat : Int))) hl
    rw [this]
    simp only [Result.andThen, Sem.run_pure]
    congr 3
    have gen : ∀ (l : List UInt8) (s : ByteArray), (l.map (fun b => (b.toNat : Int))).foldl (fun r n => r.push (UInt8.ofNat n.toNat)) s = ⟨s.data ++ l.toArray⟩ := by
      intro l
      induction l with
      | nil => intro s; simp
      | cons b l ih =>
        intro s
        simp only [List.map_cons, List.foldl_cons, ih]
        simp [ByteArray.push]
    rw [gen]
    simp [ByteArray.empty, ByteArray.emptyWithCapacity]
    rfl
theorem baList (l : List UInt8) : (⟨l.toArray⟩ : ByteArray).toList = l := by
  have gen : ∀ (n i : Nat) (r : List UInt8), l.length - i = n → i ≤ l.length → ByteArray.toList.loop ⟨l.toArray⟩ i r = r.reverse ++ l.drop i := by
    intro n
    induction n with
    | zero =>
      intro i r hn hi
      have : i = l.length := by omega
      subst this
      unfold ByteArray.toList.loop
      simp [ByteArray.size]
    | succ n ih =>
      intro i r hn hi
      have hlt : i < l.length := by omega
      unfold ByteArray.toList.loop
      have : i < (⟨l.toArray⟩ : ByteArray).size := by simpa [ByteArray.size] using hlt
      rw [if_pos this, ih (i + 1) _ (by omega) (by omega)]
      have hg : (⟨l.toArray⟩ : ByteArray).get! i = l[i] := by simp [ByteArray.get!, hlt]
      rw [hg, List.reverse_cons, List.append_assoc, List.drop_eq_getElem_cons hlt]
      rfl
  unfold ByteArray.toList
  rw [gen l.length 0 [] (by omega) (by omega)]
  simp
theorem v_seq {a b : List UInt8} {xt yt : TypeId} (hx : ev e x = .string ⟨a.toArray⟩) (hy : ev e y = .string ⟨b.toArray⟩) : OpVat P ⟨d, .binOp .eql xt x y yt, ty, p, af, g⟩ e w (.bool (decide (a = b))) := by
  have := v_seql (P := P) (d := d) (ty := ty) (p := p) (af := af) (g := g) (w := w) (xt := xt) (yt := yt) hx hy
  have e0 : (a == b) = decide (a = b) := by rw [Bool.eq_iff_iff]; simp
  rw [baList, baList, e0] at this; exact this
theorem v_sne {a b : List UInt8} {xt yt : TypeId} (hx : ev e x = .string ⟨a.toArray⟩) (hy : ev e y = .string ⟨b.toArray⟩) : OpVat P ⟨d, .binOp .neq xt x y yt, ty, p, af, g⟩ e w (.bool (!decide (a = b))) := by
  have := v_sneq (P := P) (d := d) (ty := ty) (p := p) (af := af) (g := g) (w := w) (xt := xt) (yt := yt) hx hy
  have e0 : (a == b) = decide (a = b) := by rw [Bool.eq_iff_iff]; simp
  rw [baList, baList, e0] at this; exact this

/-! ### steps that make or write memory -/
variable {K : Value → World → Prop}
theorem to_box {t : TypeId} {v : Value} (hx : ev e x = v) (k : ∀ b w', b = w.heap.size → Blk w' b v.cells.toList t → Ext w w' → w'.heap.size = b + 1 → K (.pointer (some ⟨b, 0, none⟩)) w') : OpTo P ⟨d, .box t x, ty, p, af, g⟩ e w K := by
  have hr : (execOp (ev e) ⟨d, .box t x, ty, p, af, g⟩).run P w = .ok (.value (.pointer (some ⟨w.heap.size, 0, none⟩))) (w.alloc (.cells v.cells t)) := by
    subst hx
    simp [execOp, Instr.box, newVar, newRow, newObj, Sem.run]
  unfold OpTo
  rw [hr]
  exact k _ _ rfl (by have := Blk.new w v.cells.toList t; simpa using this) (Ext.alloc _ _) (by simp)
def kZero (P : Program) (t : TypeId) (z : Value) : Prop := (P.info? t).bind (·.zero) = some z
theorem to_alloc {t : TypeId} {z : Value} (hz : kZero P t z) (k : ∀ b w', b = w.heap.size → Blk w' b z.cells.toList t → Ext w w' → w'.heap.size = b + 1 → K (.pointer (some ⟨b, 0, none⟩)) w') : OpTo P ⟨d, .alloc t, ty, p, af, g⟩ e w K := by
  have hr : (execOp (ev e) ⟨d, .alloc t, ty, p, af, g⟩).run P w = .ok (.value (.pointer (some ⟨w.heap.size, 0, none⟩))) (w.alloc (.cells z.cells t)) := by
    unfold kZero at hz
    cases hi : P.info? t with
    | none => simp [hi] at hz
    | some i =>
      simp [hi] at hz
      simp [execOp, Instr.alloc, zeroValue, typeInfo, hi, hz, newVar, newRow, newObj, Sem.run]
  unfold OpTo
  rw [hr]
  exact k _ _ rfl (by have := Blk.new w z.cells.toList t; simpa using this) (Ext.alloc _ _) (by simp)
/-- a store of one cell into a block of one's own -/
theorem to_store {t : TypeId} {b i : Nat} {cs : List Value} {T : TypeId} {v : Value} {a : Addr} (hx : ev e x = .pointer (some a)) (ha : a = ⟨b, i, none⟩) (hy : ev e y = v) (h1 : v.oneCell' = true) (hs : kSize P t 1 = true) (hb : Blk w b cs T) (hi : i < cs.length)
    (k : ∀ w', Blk w' b (cs.set i v) T → Keep (fun k => k = b) w w' → w'.heap.size = w.heap.size → K undef w') : OpTo P ⟨d, .store t x y, ty, p, af, g⟩ e w K := by
  subst ha
  have hc : v.cells = #[v] := by cases v <;> first | rfl | simp [Value.oneCell'] at h1
  have hcell : w.cell? ⟨b, i, none⟩ = some cs[i] := hb.cell (by simp [hi])
  have hst := run_storeCells_cells (P := P) b i [v] 0 w (by
    intro j hj
    have : j = 0 := by simpa using hj
    subst this; simp [hcell]) (by intro j hj; exact hb.free _) (by intro u hu; simp at hu; subst hu; exact h1)
  have hr : (execOp (ev e) ⟨d, .store t x y, ty, p, af, g⟩).run P w = .ok .skip (w.setCell ⟨b, i, none⟩ v) := by
    simp only [execOp, hx, hy]
    simp only [Nat.add_zero] at hst
    simp [Instr.storeAt, Instr.sureAddr, storeVar, hc, run_sizeOf hs, hst, World.setCells]
  unfold OpTo
  rw [hr]
  exact k _ (hb.set i v) (Keep.setCell w ⟨b, i, none⟩ v) (by simp [World.setCell])
end
end Go.Vc

namespace Go.Vc
set_option linter.unusedVariables false
set_option linter.unusedSimpArgs false

/-- a slice of one's own: at the head of a row in a block from B on; what its elements reach lies in F, not in that row -/
def OwV {α : Type} (t : Ty α) (e : TypeId) (w : World) (B : Nat) (F : Nat → Prop) (v : Value) (xs : List α) : Prop :=
  ∃ cells, w.ownsRow B e t.sz v xs.length cells ∧ ∀ i x, xs[i]? = some x → t.rep w (fun b => F b ∧ v.ownBlock ≠ some b) ((cells.drop (i * t.sz)).take t.sz) x

section
variable {α : Type} {t : Ty α} {e : TypeId} {w w' : World} {B : Nat} {F F' : Nat → Prop} {K : Nat → Prop} {v : Value} {xs : List α}

theorem OwV.nil (t : Ty α) (e : TypeId) (w : World) (B : Nat) (F : Nat → Prop) : OwV t e w B F (.slice none 0 0) [] := ⟨[], World.ownsRow_nil w B e t.sz, fun i x h => by simp at h⟩
theorem OwV.shape (h : OwV t e w B F v xs) : ∃ a c, v = .slice a xs.length c := by
  obtain ⟨cells, h1, _⟩ := h
  rcases h1.2 with ⟨rfl, h0⟩ | ⟨g, cap, cur, rfl, _⟩
  · exact ⟨none, 0, by rw [h0]⟩
  · exact ⟨_, _, rfl⟩
theorem OwV.max (h : OwV t e w B F v xs) : xs.length ≤ maxLen := by
  obtain ⟨cells, h1, _⟩ := h
  rcases h1.2 with ⟨rfl, h0⟩ | ⟨g, cap, cur, rfl, _, _, h3, h4, _⟩
  · rw [h0]; exact Nat.zero_le _
  · omega
/-- the block of a slice of one's own -/
theorem OwV.own_lt (h : OwV t e w B F v xs) {b : Nat} (hb : v.ownBlock = some b) : B ≤ b ∧ b < w.heap.size := by
  obtain ⟨cells, h1, _⟩ := h
  exact h1.lt b hb
theorem OwV.view (h : OwV t e w B F v xs) : SlV t w (fun b => B ≤ b ∨ F b) v xs := by
  obtain ⟨cells, h1, h2⟩ := h
  obtain ⟨hl, h1'⟩ := h1
  rcases h1' with ⟨rfl, h0⟩ | ⟨g, cap, cur, rfl, hB, hg, h3, h4, h5, h6⟩
  · have : xs = [] := List.eq_nil_of_length_eq_zero h0
    subst this; exact SlV.nil _ _ _
  · refine ⟨some ⟨g, 0, none⟩, cap, rfl, h3, h4, fun h => (by cases h), fun i x hx => ?_⟩
    have hr := h2 i x hx
    refine ⟨_, _, rfl, .inl hB, fun j u hu => ?_, t.mono hr fun b _ hb => .inr hb.1⟩
    rw [add_add, add_lit, Nat.zero_add, cell_of_row w g _ cur e (0, 0) hg]
    have hjlt : j < t.sz := by
      have := (List.getElem?_eq_some_iff.1 hu).1
      simp at this; omega
    rw [List.getElem?_take, if_pos hjlt, List.getElem?_drop, ← h6, List.getElem?_take] at hu
    split at hu
    · simpa using hu
    · cases hu
theorem OwV.keep (h : OwV t e w B F v xs) (k : Keep K w w') (ho : ∀ b, v.ownBlock = some b → ¬ K b) (hk : ∀ b, b < w.heap.size → F b → v.ownBlock ≠ some b → ¬ K b) : OwV t e w' B F v xs := by
  obtain ⟨cells, h1, h2⟩ := h
  refine ⟨cells, ⟨h1.1, ?_⟩, fun i x hx => t.keep (h2 i x hx) k fun b hb hF => hk b hb hF.1 hF.2⟩
  rcases h1.2 with h0 | ⟨g, cap, cur, rfl, hB, hg, h3⟩
  · exact .inl h0
  · refine .inr ⟨g, cap, cur, rfl, hB, ?_, h3⟩
    rw [k.block g (Array.getElem?_eq_some_iff.1 hg).1 (ho g rfl)]; exact hg
theorem OwV.ext (h : OwV t e w B F v xs) (k : Ext w w') : OwV t e w' B F v xs := h.keep k (fun _ _ x => x) (fun _ _ _ _ x => x)
theorem OwV.mono (h : OwV t e w B F v xs) (hf : ∀ b, b < w.heap.size → F b → F' b) : OwV t e w B F' v xs := by
  obtain ⟨cells, h1, h2⟩ := h
  exact ⟨cells, h1, fun i x hx => t.mono (h2 i x hx) fun b hb h => ⟨hf b hb h.1, h.2⟩⟩
theorem OwV.base {B' : Nat} (h : OwV t e w B F v xs) (hB : B' ≤ B) : OwV t e w B' F v xs := by
  obtain ⟨cells, ⟨h0, h1⟩, h2⟩ := h
  refine ⟨cells, ⟨h0, ?_⟩, h2⟩
  rcases h1 with h | ⟨g, cap, cur, rfl, hb, h3⟩
  · exact .inl h
  · exact .inr ⟨g, cap, cur, rfl, Nat.le_trans hB hb, h3⟩
end

theorem flatMap_take_drop {α : Type} {sz : Nat} (css : List (List α)) (h : ∀ c ∈ css, c.length = sz) : ∀ i (c : List α), css[i]? = some c → ((css.flatten).drop (i * sz)).take sz = c := by
  induction css with
  | nil => intro i c hi; simp at hi
  | cons c0 css ih =>
    intro i c hi
    have h0 : c0.length = sz := h c0 (by simp)
    cases i with
    | zero =>
      simp at hi
      subst hi
      simp only [Nat.zero_mul, List.drop_zero, List.flatten_cons]
      rw [← h0]; exact List.take_left
    | succ i =>
      simp at hi
      have e1 : (i + 1) * sz = c0.length + i * sz := by rw [h0, Nat.succ_mul]; omega
      rw [List.flatten_cons, e1, List.drop_append, List.drop_of_length_le (by omega), List.nil_append]
      simp only [Nat.add_sub_cancel_left]
      exact ih (fun c hc => h c (by simp [hc])) i c hi
theorem length_flatten_sz {α : Type} {sz : Nat} (css : List (List α)) (h : ∀ c ∈ css, c.length = sz) : css.flatten.length = css.length * sz := by
  induction css with
  | nil => simp
  | cons c0 css ih =>
    rw [List.flatten_cons, List.length_append, ih (fun c hc => h c (by simp [hc])), h c0 (by simp), List.length_cons, Nat.succ_mul]; omega
theorem getElem_flatten_sz {α : Type} {sz : Nat} (hp : 0 < sz) (css : List (List α)) (h : ∀ c ∈ css, c.length = sz) (j : Nat) (u : α) (hu : css.flatten[j]? = some u) : ∃ c, css[j / sz]? = some c ∧ c[j % sz]? = some u := by
  have hlt := (List.getElem?_eq_some_iff.1 hu).1
  rw [length_flatten_sz css h] at hlt
  have hi : j / sz < css.length := (Nat.div_lt_iff_lt_mul hp).2 hlt
  refine ⟨css[j / sz], by simp [hi], ?_⟩
  have := flatMap_take_drop css h (j / sz) css[j / sz] (by simp [hi])
  rw [← this, List.getElem?_take, if_pos (Nat.mod_lt _ hp), List.getElem?_drop]
  rw [← hu]; congr 1
  rw [Nat.mul_comm]; exact Nat.div_add_mod j sz

/-- the cells of a slice that reads as a list -/
theorem SlV.cells {α : Type} {t : Ty α} {w : World} {F : Nat → Prop} {v : Value} {xs : List α} (h : SlV t w F v xs) : ∃ css : List (List Value), css.length = xs.length ∧ (∀ c ∈ css, c.length = t.sz) ∧ (∀ u ∈ css.flatten, u.oneCell' = true) ∧
    (∀ (i : Nat) (x : α), xs[i]? = some x → ∃ c : List Value, css[i]? = some c ∧ t.rep w F c x) ∧ ∃ (a : Option Addr) (c : Nat), v = .slice a xs.length c ∧ (a = none → c = 0) ∧ xs.length ≤ c ∧ ∀ q, a = some q → ∀ (j : Nat) (u : Value), css.flatten[j]? = some u → w.cell? (q.add j) = some u := by
  obtain ⟨a, c, hv, h1, h2, h3, h4⟩ := h
  have hex : ∀ i, ∃ cs : List Value, ∀ x, xs[i]? = some x → (∃ q, a = some q ∧ F q.block ∧ Pv w (q.add (i * t.sz)) cs) ∧ t.rep w F cs x := by
    intro i
    cases hx : xs[i]? with
    | none => exact ⟨[], fun x h => by cases h⟩
    | some x =>
      obtain ⟨q, cs, ha, hF, hp, hr⟩ := h4 i x hx
      exact ⟨cs, fun x' hx' => by cases hx'; exact ⟨⟨q, ha, hF, hp⟩, hr⟩⟩
  have hch := Classical.axiomOfChoice hex
  obtain ⟨f, hf⟩ := hch
  refine ⟨(List.range xs.length).map f, by simp, ?_, ?_, ?_, a, c, hv, h3, h1, ?_⟩
  · intro c hc
    obtain ⟨i, hi, rfl⟩ := List.mem_map.1 hc
    have hi' : i < xs.length := by simpa using hi
    exact t.len (hf i xs[i] (by simp [hi'])).2
  · intro u hu
    obtain ⟨c, hc, huc⟩ := List.mem_flatten.1 hu
    obtain ⟨i, hi, rfl⟩ := List.mem_map.1 hc
    have hi' : i < xs.length := by simpa using hi
    exact t.one (hf i xs[i] (by simp [hi'])).2 u huc
  · intro i x hx
    have hi : i < xs.length := (List.getElem?_eq_some_iff.1 hx).1
    exact ⟨f i, by simp [hi], (hf i x hx).2⟩
  · intro q hq j u hu
    have hall : ∀ c ∈ (List.range xs.length).map f, c.length = t.sz := by
      intro c hc
      obtain ⟨i, hi, rfl⟩ := List.mem_map.1 hc
      have hi' : i < xs.length := by simpa using hi
      exact t.len (hf i xs[i] (by simp [hi'])).2
    obtain ⟨c, hc, hcu⟩ := getElem_flatten_sz t.pos _ hall j u hu
    simp only [List.getElem?_map, Option.map_eq_some_iff] at hc
    obtain ⟨i, hi, rfl⟩ := hc
    have hi2 : j / t.sz < xs.length ∧ i = j / t.sz := by
      obtain ⟨h, h'⟩ := List.getElem?_eq_some_iff.1 hi
      exact ⟨by simpa using h, by rw [← h']; simp⟩
    have hix : i < xs.length := by omega
    obtain ⟨⟨q', hq', _, hp⟩, _⟩ := hf i xs[i] (by simp [hix])
    rw [hq] at hq'; cases hq'
    have := hp _ _ hcu
    rw [add_add, hi2.2] at this
    rwa [Nat.mul_comm, Nat.div_add_mod] at this

theorem run_append_OwV {α : Type} {P : Program} {t : Ty α} {T e bytes : Nat} (ty : TypeId) (hk : kElem P T e t.sz bytes = true) {w : World} {B : Nat} {F F' : Nat → Prop} {v u : Value} {xs ys : List α} (hv : OwV t e w B F v xs) (hu : SlV t w F' u ys)
    (hF : ∀ cs x, t.rep w F' cs x → t.rep w (fun b => F b ∧ v.ownBlock ≠ some b) cs x) (hn : (xs.length + ys.length) * bytes ≤ 140737488355328) (hm : xs.length + ys.length ≤ maxLen) (hB : B ≤ w.heap.size) :
    ∃ v' w', (Builtin.append_ #[T, T] ty #[v, u]).run P w = .ok v' w' ∧ OwV t e w' B F v' (xs ++ ys) ∧ Keep (fun b => v.ownBlock = some b) w w' ∧ (v' = .slice none 0 0 ↔ v = .slice none 0 0 ∧ ys.length = 0) ∧ (∀ b, v'.ownBlock = some b → v.ownBlock = some b ∨ w.heap.size ≤ b) := by
  obtain ⟨ht, i, z, hi, hz, hzs, his, hib⟩ := kElem_of hk
  obtain ⟨css, hcl, hall, hone, hrep, a, c, rfl, hnone, hlc, hcell⟩ := hu.cells
  obtain ⟨cells, hown, hreps⟩ := hv
  have hfl : css.flatten.length = ys.length * t.sz := by rw [length_flatten_sz css hall, hcl]
  cases a with
  | none =>
    have hc0 := hnone rfl
    subst hc0
    have hy : ys = [] := List.eq_nil_of_length_eq_zero (by omega)
    subst hy
    refine ⟨v, w, ?_, ⟨cells, by simpa using hown, by simpa using hreps⟩, Keep.refl _, by simp, fun b hb => .inl hb⟩
    exact run_append_owned_none (P := P) w B T ty e i t.sz ht hi v xs.length cells hown
  | some q =>
    obtain ⟨v', w', hr, h1, h2, h3⟩ := run_append_own (P := P) w B T ty e i z t.sz bytes ht hi hz his hib hzs t.pos v xs.length cells hown q ys.length c css.flatten hfl (hcell q rfl) hone hm hn hB
    have hkeep : Keep (fun b => v.ownBlock = some b) w w' := ⟨h2.os, h2.tape, h2.output, h2.size, fun k hk hk' => h2.block k hk (fun h => hk' h.symm)⟩
    have hblk : ∀ b, v'.ownBlock = some b → v.ownBlock = some b ∨ w.heap.size ≤ b := by
      intro b hb
      rcases Nat.lt_or_ge b w.heap.size with hlt | hge
      · left
        rcases hown.2 with ⟨rfl, h0⟩ | ⟨g, cap, cur, rfl, hbg, hg, hnc, hcm, hcs, htake⟩
        · exfalso
          by_cases hm0 : ys.length = 0
          · have := h3.2 ⟨rfl, hm0⟩
            rw [this] at hb; cases hb
          · have hx : cells = [] := List.eq_nil_of_length_eq_zero (by have := hown.1; rw [h0] at this; simpa using this)
            have hby : ys.length * bytes ≤ 140737488355328 := by rw [h0, Nat.zero_add] at hn; exact hn
            have hgr := run_append_nil (P := P) w T ty e i z ht hi hz q ys.length c css.flatten (by rw [his]; exact hfl) (hcell q rfl) (by omega) (by simp only [maxLen] at hm; omega) (by rw [hib]; omega)
            rw [hr] at hgr
            cases hgr
            simp [Value.ownBlock] at hb
            omega
        · by_cases hroom : xs.length + ys.length ≤ cap
          · have hgr := run_append_room (P := P) w T ty e i ht hi g xs.length cap cur hg q ys.length c css.flatten (by rw [his]; exact hfl) (hcell q rfl) hone hroom (by rw [his, hfl, hcs, ← Nat.add_mul]; exact Nat.mul_le_mul_right _ hroom)
            rw [hr] at hgr
            cases hgr
            exact hb
          · exfalso
            have holds : ∀ j u, cells[j]? = some u → w.cell? ((⟨g, 0, none⟩ : Addr).add j) = some u := hown.cells (g := g) rfl
            have hgr := run_append_grow (P := P) w T ty e i z ht hi hz ⟨g, 0, none⟩ xs.length cap cells (by rw [his]; exact hown.1) holds q ys.length c css.flatten (by rw [his]; exact hfl) (hcell q rfl) (by omega) (by simp only [maxLen] at hm; omega) (by rw [hib]; exact growslice_fits (by omega) hn)
            rw [hr] at hgr
            cases hgr
            simp [Value.ownBlock] at hb
            omega
      · exact .inr hge
    refine ⟨v', w', hr, ⟨cells ++ css.flatten, by simpa using h1, fun k x hx => ?_⟩, hkeep, h3, hblk⟩
    have hcl1 : cells.length = xs.length * t.sz := hown.1
    have hsafe : ∀ b, b < w.heap.size → v.ownBlock ≠ some b → v'.ownBlock ≠ some b := by
      intro b hb hne he
      rcases hblk b he with h | h
      · exact hne h
      · omega
    by_cases hkx : k < xs.length
    · have hxk : xs[k]? = some x := by rw [← hx, List.getElem?_append_left hkx]
      have hr0 := hreps k x hxk
      have hseg : ((cells ++ css.flatten).drop (k * t.sz)).take t.sz = (cells.drop (k * t.sz)).take t.sz := by
        have hle : (k + 1) * t.sz ≤ cells.length := by rw [hcl1]; exact Nat.mul_le_mul_right _ hkx
        have hle' : k * t.sz + t.sz ≤ cells.length := by rw [Nat.succ_mul] at hle; exact hle
        rw [List.drop_append_of_le_length (by omega), List.take_append_of_le_length (by rw [List.length_drop]; omega)]
      rw [hseg]
      refine t.mono (F := fun b => F b ∧ v.ownBlock ≠ some b ∧ b < w.heap.size) (t.keep (K := fun b => v.ownBlock = some b) (t.mono hr0 fun b hb hF => ⟨hF.1, hF.2, hb⟩) hkeep fun b hb hF => hF.2.1) fun b hb hF => ⟨hF.1, hsafe b hF.2.2 hF.2.1⟩
    · have hxk : ys[k - xs.length]? = some x := by rw [← hx, List.getElem?_append_right (by omega)]
      obtain ⟨cc, hcc, hrc⟩ := hrep _ _ hxk
      have hseg : ((cells ++ css.flatten).drop (k * t.sz)).take t.sz = cc := by
        have e1 : k * t.sz = cells.length + (k - xs.length) * t.sz := by
          rw [hcl1, ← Nat.add_mul]; congr 1; omega
        rw [e1, List.drop_append, List.drop_of_length_le (by omega), List.nil_append, Nat.add_sub_cancel_left]
        exact flatMap_take_drop css hall _ _ hcc
      rw [hseg]
      refine t.mono (F := fun b => F b ∧ v.ownBlock ≠ some b ∧ b < w.heap.size) (t.keep (K := fun b => v.ownBlock = some b) (t.mono (hF _ _ hrc) fun b hb hFb => ⟨hFb.1, hFb.2, hb⟩) hkeep fun b hb hF => hF.2.1) fun b hb hF => ⟨hF.1, hsafe b hF.2.2 hF.2.1⟩

section
variable {α : Type} {P : Program} {d : Option Tmp} {ty : TypeId} {p : String} {af : Array Edge} {g : Option (Nat × Bool)} {e : Nat → Value} {w : World} {x y c : Operand} {K : Value → World → Prop}

/-- 'append(s, u...)', s one's own -/
theorem to_append {t : Ty α} {T et bytes B : Nat} {F F' : Nat → Prop} {v u : Value} {xs ys : List α} (hk : kElem P T et t.sz bytes = true) (hx : ev e x = v) (hv : OwV t et w B F v xs) (hy : ev e y = u) (hu : SlV t w F' u ys)
    (hF : ∀ cs x, t.rep w F' cs x → t.rep w (fun b => F b ∧ v.ownBlock ≠ some b) cs x) (hn : (xs.length + ys.length) * bytes ≤ 140737488355328) (hm : xs.length + ys.length ≤ maxLen) (hB : B ≤ w.heap.size)
    (k : ∀ a n cc w', OwV t et w' B F (.slice a n cc) (xs ++ ys) → n = (xs ++ ys).length → Keep (fun b => v.ownBlock = some b) w w' → (∀ b, (Value.slice a n cc).ownBlock = some b → v.ownBlock = some b ∨ w.heap.size ≤ b) → (a = none ↔ v = .slice none 0 0 ∧ ys.length = 0) → K (.slice a n cc) w') :
    OpTo P ⟨d, .call { callee := .builtin .append, args := #[x, y], argTypes := #[T, T] }, ty, p, af, g⟩ e w K := by
  obtain ⟨v', w', hr, h1, h2, h3, h4⟩ := run_append_OwV (P := P) ty hk hv hu hF hn hm hB
  obtain ⟨a, cc, rfl⟩ := h1.shape
  have hr' : (execOp (ev e) ⟨d, .call { callee := .builtin .append, args := #[x, y], argTypes := #[T, T] }, ty, p, af, g⟩).run P w = .ok (.value (.slice a (xs ++ ys).length cc)) w' := by
    simp only [execOp, resolve, invoke, builtin, Sem.run_bind, Sem.run_pure, Result.andThen_ok, List.map_toArray, List.map_cons, List.map_nil, hx, hy, hr]
  unfold OpTo
  rw [hr']
  refine k _ _ _ _ h1 rfl h2 h4 ⟨fun ha => ?_, fun hh => ?_⟩
  · subst ha
    obtain ⟨cells, ho, _⟩ := h1
    rcases ho.2 with ⟨he, _⟩ | ⟨g', cap, cur, he, _⟩
    · exact h3.1 he
    · cases he
  · have := h3.2 hh
    simp only [Value.slice.injEq] at this
    exact this.1

/-- '[]T{x}': a new row of one element -/
theorem to_slice1 {t : Ty α} {T et bytes : Nat} {v : Value} {F : Nat → Prop} {xx : α} (hk : kElem P T et t.sz bytes = true) (hsz : t.sz ≤ 16777216) (hx : ev e x = v) (hr : t.rep w F v.cells.toList xx)
    (k : ∀ b w', b = w.heap.size → OwV t et w' b (fun b => F b ∧ b < w.heap.size) (.slice (some ⟨b, 0, none⟩) 1 1) [xx] → Ext w w' → w'.heap.size = b + 1 → K (.slice (some ⟨b, 0, none⟩) 1 1) w') :
    OpTo P ⟨d, .buildSlice T 1 #[(0, x)], ty, p, af, g⟩ e w K := by
  obtain ⟨ht, i, z, hi, hz, hzs, his, hib⟩ := kElem_of hk
  have hlen := t.len hr
  have hpos := t.pos
  have hcs : v.cells.size = t.sz := by simpa using hlen
  have hfill : Instr.fill (fun i => some (i * t.sz, t.sz)) ((Array.range (1 * t.sz)).map (z.cells[· % z.cells.size]!)) [(0, v)] = some v.cells := by
    have hp : ¬ (v.cells.size ≠ t.sz) := by simp [hcs]
    have hgen : ∀ (n : Nat) (cs : Array Value) (arr : Array Value), n = cs.size → arr.size = cs.size → cs.zipIdx.foldl (fun a (c, j) => a.setIfInBounds (0 + j) c) arr = cs := by
      intro n cs arr hn ha
      apply Array.ext
      · have : ∀ (l : List (Value × Nat)) (a : Array Value), (l.foldl (fun a x => a.setIfInBounds (0 + x.2) x.1) a).size = a.size := by
          intro l
          induction l with
          | nil => intro a; rfl
          | cons y l ih => intro a; rw [List.foldl_cons, ih]; simp
        rw [← Array.foldl_toList]
        exact (this _ _).trans ha
      · intro j h1 h2
        have key : ∀ (l : List Value) (o : Nat) (a : Array Value), o + l.length ≤ a.size → ∀ m, ((l.zipIdx o).foldl (fun a x => a.setIfInBounds (0 + x.2) x.1) a)[m]? = if o ≤ m ∧ m < o + l.length then l[m - o]? else a[m]? := by
          intro l
          induction l with
          | nil => intro o a _ m; simp; omega
          | cons y l ih =>
            intro o a ho m
            simp only [List.zipIdx_cons, List.foldl_cons]
            rw [ih (o + 1) _ (by simp at ho ⊢; omega) m]
            simp only [List.length_cons] at ho ⊢
            by_cases h1 : o + 1 ≤ m ∧ m < o + 1 + l.length
            · rw [if_pos h1, if_pos (by omega), show m - o = (m - (o + 1)) + 1 by omega]; simp
            · rw [if_neg h1]
              by_cases h2 : m = o
              · subst h2
                have hma : m < a.size := by omega
                rw [if_pos (by omega)]; simp [hma]
              · rw [if_neg (by omega), Array.getElem?_setIfInBounds_ne (by omega)]
        have := key cs.toList 0 arr (by simp [ha]) j
        rw [← Array.foldl_toList] at h1
        have e2 : (cs.zipIdx.foldl (fun a (c, j) => a.setIfInBounds (0 + j) c) arr)[j]? = cs[j]? := by
          rw [← Array.foldl_toList]
          have e3 : cs.zipIdx.toList = cs.toList.zipIdx 0 := by simp
          rw [e3, this, if_pos (by simpa using h2)]
          simp
        have h3 := e2
        rw [Array.getElem?_eq_getElem (by rw [← Array.foldl_toList]; exact h1), Array.getElem?_eq_getElem h2] at h3
        exact Option.some.inj h3
    simp only [Instr.fill, Nat.zero_mul]
    have hcond : (v.cells.size ≠ t.sz || decide (0 + v.cells.size > ((Array.range (1 * t.sz)).map (z.cells[· % z.cells.size]!)).size)) = false := by simp [hcs]
    rw [if_neg (by simpa using hcond)]
    rw [hgen _ v.cells _ rfl (by simp [hcs])]
  have hr' : (execOp (ev e) ⟨d, .buildSlice T 1 #[(0, x)], ty, p, af, g⟩).run P w = .ok (.value (.slice (some ⟨w.heap.size, 0, none⟩) 1 1)) (w.alloc (.cells v.cells et)) := by
    have hs1 : ¬ (1 * i.size > 2 ^ 24) := by rw [his]; omega
    have hs2 : ¬ (1 * i.size = 0) := by rw [his]; omega
    rw [← his] at hfill
    simp only [execOp, Instr.buildSlice, hx, List.map_toArray, List.map_cons, List.map_nil]
    simp only [run_underlying ht, sizeOf, typeInfo, zeroValue, hi, hz, Sem.run_bind, Sem.run_pure, Result.andThen_ok, if_neg hs1, if_neg hs2]
    simp [hi, hz, run_underlying ht, sizeOf, typeInfo, zeroValue, his, newRow, newObj, Sem.run]
    rw [if_neg (by omega), if_neg (by omega)]
    rw [his, Nat.one_mul] at hfill
    rw [hfill]
    simp [Sem.run]
  unfold OpTo
  rw [hr']
  refine k _ _ rfl ⟨v.cells.toList, ⟨by simp [hcs], .inr ⟨w.heap.size, 1, v.cells, rfl, Nat.le_refl _, heap_alloc_new w _, Nat.le_refl _, by simp [maxLen], by simp [hcs], ?_⟩⟩, fun j y hy => ?_⟩ (Ext.alloc _ _) (by simp)
  · rw [List.take_of_length_le]; simp [hcs]
  · cases j with
    | succ j => simp at hy
    | zero =>
      simp at hy
      subst hy
      simp only [Nat.zero_mul, List.drop_zero]
      rw [List.take_of_length_le (by simp [hcs])]
      refine t.mono (t.keep (K := NoK) (t.mono hr fun b hb hF => (⟨hF, hb⟩ : F b ∧ b < w.heap.size)) (Ext.alloc _ _) fun _ _ _ x => x) fun b hb hF => ⟨hF, ?_⟩
      simp only [Value.ownBlock]
      intro h
      have := Option.some.inj h
      omega

/-- 'make([]T, n, c)': zeros of one cell -/
theorem to_make {t : Ty α} {T et bytes : Nat} {kl kc : IntKind} {n m : Nat} {z : α} {zv : Value} (hk : kElem P T et t.sz bytes = true) (hx : ev e x = .int kl (n : Nat)) (hy : ev e y = .int kc (m : Nat)) (hnm : n = m ∨ n = 0) (hb : bytes * m ≤ 140737488355328) (hm : m ≤ maxLen)
    (hz : kZero P et zv) (h1 : t.sz = 1) (hzv : zv.cells = #[zv]) (hr : ∀ w F, t.rep w F [zv] z)
    (k : ∀ b c w', b = w.heap.size → OwV t et w' b NoK (.slice (some ⟨b, 0, none⟩) n c) (List.replicate n z) → Ext w w' → w.heap.size < w'.heap.size → K (.slice (some ⟨b, 0, none⟩) n c) w') :
    OpTo P ⟨d, .makeSlice T x y, ty, p, af, g⟩ e w K := by
  obtain ⟨ht, i, z', hi, hz', hzs, his, hib⟩ := kElem_of hk
  have hzz : z' = zv := by unfold kZero at hz; simp [hi, hz'] at hz; exact hz
  subst hzz
  have fin : ∀ (w' : World) (cells : List Value), (Instr.makeSlice T (.int kl (n : Int)) (.int kc (m : Int))).run P w = .ok (.slice (some ⟨w.heap.size, 0, none⟩) n m) w' → w'.ownsRow w.heap.size et t.sz (.slice (some ⟨w.heap.size, 0, none⟩) n m) n cells → w.grownBy w' none →
      (∀ (j : Nat) (u : Value), cells[j]? = some u → u = z') → OpTo P ⟨d, .makeSlice T x y, ty, p, af, g⟩ e w K := by
    intro w' cells hrun hown hg hall
    have hr' : (execOp (ev e) ⟨d, .makeSlice T x y, ty, p, af, g⟩).run P w = .ok (.value (.slice (some ⟨w.heap.size, 0, none⟩) n m)) w' := by
      simp [execOp, hx, hy, hrun]
    unfold OpTo
    rw [hr']
    refine k _ _ _ rfl ⟨cells, by simpa using hown, fun j y hy => ?_⟩ ⟨hg.os, hg.tape, hg.output, hg.size, fun k hk _ => hg.block k hk (by simp)⟩ ?_
    · have hjn : j < n := by have := (List.getElem?_eq_some_iff.1 hy).1; simpa using this
      have hyz : y = z := by
        rw [List.getElem?_replicate, if_pos hjn] at hy; exact (Option.some.inj hy).symm
      subst hyz
      have hl : cells.length = n * t.sz := hown.1
      rw [h1, Nat.mul_one] at hl ⊢
      have hc : cells[j]? = some cells[j] := by simp [hl, hjn]
      have : (cells.drop j).take 1 = [z'] := by
        rw [List.drop_eq_getElem_cons (by omega), List.take_succ_cons, List.take_zero]
        rw [hall j _ hc]
      rw [this]
      exact hr _ _
    · exact (hown.lt w.heap.size rfl).2
  rcases hnm with hnm | hnm
  · subst hnm
    obtain ⟨w', hrun, hown, hg⟩ := run_make_full (P := P) w w.heap.size T et i z' t.sz ht hi hz' his kl kc n (by rw [hib]; omega) hm (Nat.le_refl _)
    refine fin w' _ hrun hown hg fun j u hu => ?_
    simp only [madeCells, Array.toList_map] at hu
    rw [hzv] at hu
    simp [Nat.mod_one] at hu
    exact hu.2.symm
  · subst hnm
    obtain ⟨w', hrun, hown, hg⟩ := run_make_own (P := P) w w.heap.size T et i z' t.sz ht hi hz' his kl kc m (by rw [hib]; omega) hm (Nat.le_refl _)
    exact fin w' _ hrun hown hg fun j u hu => by simp at hu
end
end Go.Vc

namespace Go.Vc
set_option linter.unusedVariables false
set_option linter.unusedSimpArgs false

/-! ### calls -/
def kBody (P : Program) (f : Nat) : Bool := match P.funcs[f]? with
  | some fn => fn.body.isSome && !(fn.name == "runtime.NumGoroutine")
  | none => false
theorem run_callFunc {P : Program} {f : Nat} (h : kBody P f = true) (args : Array Value) (w : World) : (callFunc f args).run P w = .ok (.enter f args) w := by
  unfold kBody at h
  split at h
  · rename_i fn hf
    simp only [Bool.and_eq_true, Bool.not_eq_true'] at h
    have h1 : fn.body.isNone = false := by cases hb : fn.body <;> simp_all
    have h2 : ¬ (fn.name == "runtime.NumGoroutine") = true := by rw [h.2]; simp
    unfold callFunc
    simp only [Sem.run_bind]
    simp [hf, program, Sem.run, h1, h2]
    simp at h2; simp [h2]
    intro h; rw [h] at h1; simp at h1
  · cases h
section
variable {P : Program} {d : Option Tmp} {ty : TypeId} {p : String} {af : Array Edge} {g : Option (Nat × Bool)} {e : Nat → Value} {w : World} {K : Value → World → Prop} {f : Operand} {x0 x1 x2 x3 x4 x5 : Operand} {v0 v1 v2 v3 v4 v5 : Value} {fn : Nat} {cap fst : Array Value} {ts : Array TypeId}
theorem to_calls {args : Array Operand} {vs : Array Value} (hb : kBody P fn = true) (hf : ev e f = .func (.func fn) fst cap) (hfst : fst = #[]) (ha : args.map (ev e) = vs) (h : CallsR P fn (vs ++ cap) w K) : OpTo P ⟨d, .call { callee := .value f, args := args, argTypes := ts }, ty, p, af, g⟩ e w K := by
  subst hfst
  have hr : (execOp (ev e) ⟨d, .call { callee := .value f, args := args, argTypes := ts }, ty, p, af, g⟩).run P w = .ok (.enter fn (vs ++ cap)) w := by
    simp only [execOp, resolve, hf, ha, Deferred.ofValue]
    simp [invoke, run_callFunc hb]
  unfold OpTo
  rw [hr]
  exact h
theorem to_call1 (hb : kBody P fn = true) (hf : ev e f = .func (.func fn) #[] cap) (h0 : ev e x0 = v0) (h : CallsR P fn (#[v0] ++ cap) w K) : OpTo P ⟨d, .call { callee := .value f, args := #[x0], argTypes := ts }, ty, p, af, g⟩ e w K :=
  to_calls hb hf rfl (by simp [h0]) h
theorem to_call2 (hb : kBody P fn = true) (hf : ev e f = .func (.func fn) #[] cap) (h0 : ev e x0 = v0) (h1 : ev e x1 = v1) (h : CallsR P fn (#[v0, v1] ++ cap) w K) : OpTo P ⟨d, .call { callee := .value f, args := #[x0, x1], argTypes := ts }, ty, p, af, g⟩ e w K :=
  to_calls hb hf rfl (by simp [h0, h1]) h
theorem to_call4 (hb : kBody P fn = true) (hf : ev e f = .func (.func fn) #[] cap) (h0 : ev e x0 = v0) (h1 : ev e x1 = v1) (h2 : ev e x2 = v2) (h3 : ev e x3 = v3) (h : CallsR P fn (#[v0, v1, v2, v3] ++ cap) w K) : OpTo P ⟨d, .call { callee := .value f, args := #[x0, x1, x2, x3], argTypes := ts }, ty, p, af, g⟩ e w K :=
  to_calls hb hf rfl (by simp [h0, h1, h2, h3]) h
end

/-! ### the code round the regions -/
def argEnv (l : List Value) : Nat → Value := fun i => l.getD i undef
theorem fr_args {N : Nat} (l : List Value) (h : l.length ≤ N) : (⟨l.toArray ++ Array.replicate (N - l.toArray.size) undef, []⟩ : Act) = Fr N (argEnv l) := by
  simp only [Fr]
  congr 1
  apply Array.ext
  · simp; omega
  · intro i h1 h2
    simp only [Array.size_ofFn] at h2
    simp only [Array.getElem_ofFn, argEnv]
    by_cases hi : i < l.length
    · rw [Array.getElem_append_left (by simpa using hi)]; simp [hi]
    · rw [Array.getElem_append_right (by simpa using hi)]; simp [List.getD, show l[i]? = none by simp; omega]

theorem enter {P : Program} {f : Nat} {fn : Func} {c : Code} {l : List Value} {w : World} {R : Value → World → Prop} (N : Nat) (hf : P.funcs[f]? = some fn) (hb : fn.body = some c) (hN : fn.ntmps = N) (hl : l.length ≤ N)
    (h : c.wpIn (Fw none) 0 P (bodyPost P fn (Ret R)) (FrD N (argEnv l) []) w) : CallsR P f l.toArray w R := by
  refine calls_of_wp hf hb ?_
  rw [hN, fr_args l hl]; exact wpIn_wide.1 h

section
variable {ro : Option Nat} {m : Nat} {ds : List Deferred} {P : Program} {N : Nat} {Q : Exit → Act → World → Prop} {e : Nat → Value} {w : World} {a : Act} {X Y : Code} {fn : Func} {R : Value → World → Prop} {Kn : Act → World → Prop}
theorem c_seq (h : X.wpIn (Fw ro) m P (Exit.then (Y.wpIn (Fw ro) m P Q) Q) a w) : (Code.seq X Y).wpIn (Fw ro) m P Q a w := wpIn_seq h
theorem c_skip (h : Q .normal a w) : Code.skip.wpIn (Fw ro) m P Q a w := wpIn_skip h
theorem c_ret (h : Q .ret a w) : Code.ret.wpIn (Fw ro) m P Q a w := wpIn_ret h
theorem c_label {l : Nat} (h : Q .normal a w) : (Code.label l).wpIn (Fw ro) m P Q a w := wpIn_label h
theorem c_exit {i : Nat} (h : Q (.exit i) a w) : (Code.exit i).wpIn (Fw ro) m P Q a w := wpIn_exit h
theorem c_scope (h : X.wpIn (Fw none) m P (Exit.noGoto Q) a w) : (Code.scope X).wpIn (Fw none) m P Q a w := wpIn_wide.2 (wp_scope_straight (wpIn_wide.1 h))
theorem c_block {i : Nat} (h : X.wpIn (Fw ro) m P (Exit.inBlock i Q) a w) : (Code.block i X).wpIn (Fw ro) m P Q a w := wpIn_block h
theorem n_then (h : Kn a w) : Exit.then Kn Q .normal a w := h
theorem r_then (h : Q .ret a w) : Exit.then Kn Q .ret a w := h
theorem x_then {i : Nat} (h : Q (.exit i) a w) : Exit.then Kn Q (.exit i) a w := h
theorem n_blk {i : Nat} (h : Q .normal a w) : Exit.inBlock i Q .normal a w := h
theorem r_blk {i : Nat} (h : Q .ret a w) : Exit.inBlock i Q .ret a w := h
theorem x_hit {i : Nat} (h : Q .normal a w) : Exit.inBlock i Q (.exit i) a w := by simp only [Exit.inBlock, if_true]; exact h
theorem r_scp (h : Q .ret a w) : Exit.noGoto Q .ret a w := h
theorem c_cond {c : Operand} {b : Bool} (hl : Operand.lt N c = true) (hc : ev e c = .bool b) (ht : b = true → X.wpIn (Fw ro) m P Q (FrD N e ds) w) (hf : b = false → Y.wpIn (Fw ro) m P Q (FrD N e ds) w) : (Code.cond c X Y).wpIn (Fw ro) m P Q (FrD N e ds) w :=
  wpIn_cond_split (by rw [frD_eval hl]; exact hc) ht hf
theorem ret1 {t : Tmp} (hr : fn.results = #[.tmp t]) (ht : t < N) (h : R (e t) w) : bodyPost P fn (Ret R) .ret (FrD N e []) w :=
  ⟨rfl, e t, by rw [results_tmp hr]; simp [FrD, Fr, Array.getD, ht], e t, rfl, h⟩
theorem ret2 {t u : Tmp} (hr : fn.results = #[.tmp t, .tmp u]) (ht : t < N) (hu : u < N) (h : R (.tuple #[e t, e u]) w) : bodyPost P fn (Ret R) .ret (FrD N e []) w :=
  ⟨rfl, _, by rw [results_tmp2 hr]; simp [FrD, Fr, Array.getD, ht, hu], _, rfl, h⟩
theorem ret0 (hr : fn.results = #[]) (h : R (.tuple #[]) w) : bodyPost P fn (Ret R) .ret (FrD N e []) w :=
  ⟨rfl, _, by rw [results_none hr], _, rfl, h⟩
theorem end0 (hr : fn.results = #[]) (h : R (.tuple #[]) w) : bodyPost P fn (Ret R) .normal (FrD N e []) w :=
  ⟨rfl, _, by rw [results_none hr], _, rfl, h⟩
end

/-! ### loops -/
def inL (m : List Nat) (i : Nat) : Bool := m.any (Nat.beq i)
/-- the frame outside the slots m is as it was -/
def Off (m : List Nat) (e e' : Nat → Value) : Prop := ∀ i, inL m i = false → e' i = e i
theorem Off.refl (m : List Nat) (e : Nat → Value) : Off m e e := fun _ _ => rfl
theorem Off.upd {m : List Nat} {e e' : Nat → Value} (h : Off m e e') {d : Nat} (hd : inL m d = true) (v : Value) : Off m e (upd e' d v) := fun i hi => by
  by_cases hid : i = d
  · subst hid; rw [hd] at hi; cases hi
  · rw [upd_ne _ _ hid]; exact h i hi
theorem Off.updo {m : List Nat} {e e' : Nat → Value} (h : Off m e e') {d : Option Tmp} (hd : ∀ t, d = some t → inL m t = true) (v : Value) : Off m e (updo e' d v) := by
  cases d with
  | none => exact h
  | some t => exact h.upd (hd t rfl) v
def over (e0 : Nat → Value) (m : List Nat) (j : Nat → Value) : Nat → Value := fun i => bif inL m i then j i else e0 i
theorem Off.over {m : List Nat} {e e' : Nat → Value} (h : Off m e e') : e' = over e m e' := by
  funext i
  simp only [Vc.over]
  cases hi : inL m i with
  | true => rfl
  | false => rw [h i hi]; rfl
theorem Off.of_over (m : List Nat) (e j : Nat → Value) : Off m e (Vc.over e m j) := fun i hi => by simp only [Vc.over, hi, cond_false]
theorem at_upd {e : Nat → Value} {d : Nat} {v : Value} (h : e d = v) : e = upd e d v := by
  funext i
  by_cases hi : i = d
  · subst hi; rw [upd_same]; exact h
  · rw [upd_ne _ _ hi]
/-- slots and what they hold -/
def Holds : List (Nat × Value) → (Nat → Value) → Prop
  | [], _ => True
  | (d, v) :: l, e => e d = v ∧ Holds l e
def updL : List (Nat × Value) → (Nat → Value) → Nat → Value
  | [], e => e
  | (d, v) :: l, e => updL l (upd e d v)
theorem Holds.upd {l : List (Nat × Value)} {e : Nat → Value} (h : Holds l e) : e = updL l e := by
  induction l with
  | nil => rfl
  | cons x l ih =>
    obtain ⟨d, v⟩ := x
    obtain ⟨h1, h2⟩ := h
    simp only [updL]
    rw [← at_upd h1]; exact ih h2
/-- the head of a loop: a frame of which the slots of the relation are known -/
theorem head {m : List Nat} {e0 e : Nat → Value} {l : List (Nat × Value)} (ho : Off m e0 e) (hh : Holds l e) : ∃ j, e = updL l (over e0 m j) := ⟨e, by rw [← ho.over]; exact hh.upd⟩

def LoopK {τ : Type} (N : Nat) (ds : List Deferred) (m : List Nat) (e0 : Nat → Value) (sl : τ → List (Nat × Value)) (I : τ → World → Prop) (μ : τ → Nat) (t : τ) : Act → World → Prop :=
  fun a w => ∃ t' e', a = FrD N e' ds ∧ Off m e0 e' ∧ Holds (sl t') e' ∧ I t' w ∧ μ t' < μ t

/-- a loop: t: what it has come to; sl: the slots that hold that; I: what is known of the world; μ goes down -/
theorem c_loop {ro : Option Nat} {n : Nat} {ds : List Deferred} {P : Program} {N : Nat} {c : Code} {Q : Exit → Act → World → Prop} {e0 : Nat → Value} {w : World} {τ : Type} (m : List Nat) (sl : τ → List (Nat × Value)) (I : τ → World → Prop) (μ : τ → Nat) (t0 : τ)
    (hs : Holds (sl t0) e0) (hi : I t0 w)
    (round : ∀ t w j, I t w → c.wpIn (Fw ro) n P (Exit.then (LoopK N ds m e0 sl I μ t) Q) (FrD N (updL (sl t) (over e0 m j)) ds) w) : (Code.loop c).wpIn (Fw ro) n P Q (FrD N e0 ds) w := by
  refine wpIn_loop_ghost (fun n a w => ∃ t e, μ t = n ∧ a = FrD N e ds ∧ Off m e0 e ∧ Holds (sl t) e ∧ I t w) (μ t0) ⟨t0, e0, rfl, rfl, Off.refl _ _, hs, hi⟩ ?_
  rintro n a w ⟨t, e, rfl, rfl, ho, hh, hI⟩
  obtain ⟨j, hj⟩ := head ho hh
  rw [hj]
  refine wpIn_mono (round t w j hI) ?_
  intro ex a' w' hq
  cases ex with
  | normal =>
    obtain ⟨t', e', h1, h2, h3, h4, h5⟩ := hq
    exact ⟨μ t', h5, t', e', rfl, h1, h2, h3, h4⟩
  | _ => exact hq
end Go.Vc

namespace Go.Vc
set_option linter.unusedVariables false
set_option linter.unusedSimpArgs false

theorem wr_i64 {x : Int} (h1 : -9223372036854775808 ≤ x) (h2 : x ≤ 9223372036854775807) : IntKind.i64.wrap x = x := by rw [IntKind.wrap_i64]; omega
theorem wr_u64 {x : Int} (h1 : 0 ≤ x) (h2 : x ≤ 18446744073709551615) : IntKind.u64.wrap x = x := by rw [IntKind.wrap_u64]; omega
theorem wr_u8m {x : Int} : IntKind.u8.wrap x = x % 256 := IntKind.wrap_u8' x
theorem tm_nn {a b : Int} (h : 0 ≤ a) : a.tmod b = a % b := Int.tmod_eq_emod_of_nonneg h
section
variable {P : Program} {N : Nat} {ops : Array Oper} {Q : Exit → Act → World → Prop} {e : Nat → Value} {w : World} {rest : List Oper} {α : Type} {K : Value → World → Prop}
variable {d : Option Tmp} {ty : TypeId} {p : String} {af : Array Edge} {g : Option (Nat × Bool)} {x y : Operand} {x0 x1 x2 x3 x4 x5 : Operand} {v0 v1 v2 v3 v4 v5 : Value} {fn : Nat} {ts : Array TypeId}
theorem to_f0 (hb : kBody P fn = true) (h : CallsR P fn #[] w K) : OpTo P ⟨d, .call { callee := .value (.func fn), args := #[], argTypes := ts }, ty, p, af, g⟩ e w K :=
  to_calls (vs := #[]) hb rfl rfl (by simp) (by simpa using h)
theorem to_f1 (hb : kBody P fn = true) (h0 : ev e x0 = v0) (h : CallsR P fn #[v0] w K) : OpTo P ⟨d, .call { callee := .value (.func fn), args := #[x0], argTypes := ts }, ty, p, af, g⟩ e w K :=
  to_calls hb rfl rfl (by simp [h0]; rfl) (by simpa using h)
theorem to_f2 (hb : kBody P fn = true) (h0 : ev e x0 = v0) (h1 : ev e x1 = v1) (h : CallsR P fn #[v0, v1] w K) : OpTo P ⟨d, .call { callee := .value (.func fn), args := #[x0, x1], argTypes := ts }, ty, p, af, g⟩ e w K :=
  to_calls hb rfl rfl (by simp [h0, h1]; rfl) (by simpa using h)
theorem to_f3 (hb : kBody P fn = true) (h0 : ev e x0 = v0) (h1 : ev e x1 = v1) (h2 : ev e x2 = v2) (h : CallsR P fn #[v0, v1, v2] w K) : OpTo P ⟨d, .call { callee := .value (.func fn), args := #[x0, x1, x2], argTypes := ts }, ty, p, af, g⟩ e w K :=
  to_calls hb rfl rfl (by simp [h0, h1, h2]; rfl) (by simpa using h)
theorem to_f4 (hb : kBody P fn = true) (h0 : ev e x0 = v0) (h1 : ev e x1 = v1) (h2 : ev e x2 = v2) (h3 : ev e x3 = v3) (h : CallsR P fn #[v0, v1, v2, v3] w K) : OpTo P ⟨d, .call { callee := .value (.func fn), args := #[x0, x1, x2, x3], argTypes := ts }, ty, p, af, g⟩ e w K :=
  to_calls hb rfl rfl (by simp [h0, h1, h2, h3]; rfl) (by simpa using h)
/-- the address of an element, and what lies there -/
theorem to_index {t : Ty α} {T et k : Nat} {kk : IntKind} {i : Int} {F : Nat → Prop} {v : Value} {xs : List α} {xx : α} (ht : kSlice P T et = true) (hs : kSize P et t.sz = true) (hx : ev e x = v) (hv : SlV t w F v xs) (hy : ev e y = .int kk i) (hi : i = (k : Nat)) (hk : xs[k]? = some xx)
    (r : ∀ q cs, F q.block → Pv w q cs → t.rep w F cs xx → K (.pointer (some q)) w) : OpTo P ⟨d, .indexAddr T x y, ty, p, af, g⟩ e w K := by
  obtain ⟨a, c, rfl, h1, h2, h3, h4⟩ := hv
  obtain ⟨q, cs, ha, hF, hp, hr⟩ := h4 k xx hk
  subst ha
  have hlt := (List.getElem?_eq_some_iff.1 hk).1
  exact OpTo.of_v (v_indexAddr ht hs hx hy hi hlt) (r _ cs (by rw [add_block]; exact hF) hp hr)
theorem pv_u8 {w : World} {F : Nat → Prop} {q : Addr} {cs : List Value} {b : UInt8} (h : Pv w q cs) (hr : tU8.rep w F cs b) : w.cell? q = some (.int .u8 b.toNat) := by
  have hr' : cs = [.int .u8 b.toNat] := hr
  subst hr'
  have := h 0 _ rfl
  rwa [add_zero] at this
theorem pv_1 {w : World} {q : Addr} {v : Value} (h : Pv w q [v]) : w.cell? q = some v := by
  have := h 0 _ rfl
  rwa [add_zero] at this
end
/-- a type whose values lead nowhere -/
def Flat {α : Type} (t : Ty α) : Prop := ∀ w F cs x w' F', t.rep w F cs x → t.rep w' F' cs x
theorem flat_u8 : Flat tU8 := fun _ _ _ _ _ _ h => h
theorem Flat.to {α : Type} {t : Ty α} (h : Flat t) {w w' : World} {F F' : Nat → Prop} : ∀ cs x, t.rep w F cs x → t.rep w' F' cs x := fun cs x hr => h _ _ _ _ _ _ hr
/-- elements that lead somewhere: apart from the row that is written -/
theorem deepF {α : Type} {t : Ty α} {w : World} {F F' : Nat → Prop} {v : Value} (h : ∀ b, b < w.heap.size → F' b → F b ∧ v.ownBlock ≠ some b) : ∀ cs x, t.rep w F' cs x → t.rep w (fun b => F b ∧ v.ownBlock ≠ some b) cs x := fun cs x hr => t.mono hr h
theorem Keep.step {K K' : Nat → Prop} {a b c : World} (h : Keep K a b) (k : Keep K' b c) (hk : ∀ i, i < a.heap.size → K' i → K i) : Keep K a c :=
  ⟨k.os.trans h.os, k.tape.trans h.tape, k.output.trans h.output, Nat.le_trans h.size k.size, fun i hi hn => (k.block i (Nat.lt_of_lt_of_le hi h.size) (fun x => hn (hk i hi x))).trans (h.block i hi hn)⟩
theorem rep_u8 {w : World} {F : Nat → Prop} {x : Int} (b : UInt8) (h : x = (b.toNat : Int)) : tU8.rep w F (Value.int .u8 x).cells.toList b := by subst h; rfl
theorem dtrue {p : Prop} [Decidable p] (h : decide p = true) : p := of_decide_eq_true h
theorem dfalse {p : Prop} [Decidable p] (h : decide p = false) : ¬ p := of_decide_eq_false h
end Go.Vc

namespace Go.Vc
theorem dj1 {P : Prop} (h : P := by intro i _ hi he; (try dsimp only [NoK, AllB] at hi he); first | exact hi.elim | exact he.elim | omega | (rcases hi with hi | hi <;> omega) | (rcases he with he | he <;> omega)) : P := h
theorem dj4 {P : Prop} (h : P := by intro h; (try dsimp only at h); first | omega) : P := h
theorem dj3 {P : Prop} (h : P := by intro i hi he; (try dsimp only [NoK] at hi he ⊢); first | exact he.elim | omega | exact he) : P := h
theorem dj5 {P : Prop} (h : P := by first | exact of_decide_eq_true rfl | (simp; done) | decide | (simp only [List.length_set, hlen]; exact of_decide_eq_true rfl)) : P := h
theorem dj6 {P : Prop} (h : P := by first | exact one_all (by rfl) | (simp [slice_one]; done) | (simp only [List.forall_mem_cons, List.cons_append, List.nil_append]; repeat' (first | exact rfl | apply And.intro | (intro u hu; cases hu; done)))) : P := h
theorem dj2 {P : Prop} (h : P := by first | exact fun h => h | (intro h; have he0 := h; have h := h; (try dsimp only at h); (try simp only [Value.ownBlock, Option.some.injEq] at h); (try simp only [add_block] at h); (try simp only [add_block] at he0); first | omega) | (intro i _ hi he; have he0 := he; have hi := hi; have he := he; (try dsimp only [NoK, AllB] at hi he); (try simp only [Value.ownBlock, Option.some.injEq] at he); first | exact hi.elim | exact he.elim | omega | (rcases hi with hi | hi <;> omega) | (rcases he with he | he <;> omega))) : P := h
theorem zk {P : Prop} (h : P := by kernel_rfl) : P := h
theorem zd {P : Prop} (h : P := by decide +kernel) : P := h
theorem zq {P : Prop} (h : P := by decide) : P := h
theorem zo {P : Prop} (h : P := by omega) : P := h
theorem zvS {x : Value} {a n c} (h : x = .slice a n c) : x = .slice a n c := h
theorem zvI {x : Value} {k n} (h : x = .int k n) : x = .int k n := h
theorem zvA {x : Value} {a} (h : x = .agg a) : x = .agg a := h
theorem zvP {x : Value} {a} (h : x = .pointer a) : x = .pointer a := h
theorem zvB {x : Value} {a} (h : x = .bool a) : x = .bool a := h
theorem zvG {x : Value} {a} (h : x = .string a) : x = .string a := h
theorem zmS {P : Program} {d : Option Tmp} {ty : TypeId} {p : String} {af : Array Edge} {g : Option (Nat × Bool)} {e : Nat → Value} {w : World} {x : Operand} {a n c} (hx : ev e x = .slice a n c) : OpVat P ⟨d, .move x, ty, p, af, g⟩ e w (.slice a n c) := v_move hx
theorem zmI {P : Program} {d : Option Tmp} {ty : TypeId} {p : String} {af : Array Edge} {g : Option (Nat × Bool)} {e : Nat → Value} {w : World} {x : Operand} {k n} (hx : ev e x = .int k n) : OpVat P ⟨d, .move x, ty, p, af, g⟩ e w (.int k n) := v_move hx
theorem zmB {P : Program} {d : Option Tmp} {ty : TypeId} {p : String} {af : Array Edge} {g : Option (Nat × Bool)} {e : Nat → Value} {w : World} {x : Operand} {a} (hx : ev e x = .bool a) : OpVat P ⟨d, .move x, ty, p, af, g⟩ e w (.bool a) := v_move hx
theorem zmP {P : Program} {d : Option Tmp} {ty : TypeId} {p : String} {af : Array Edge} {g : Option (Nat × Bool)} {e : Nat → Value} {w : World} {x : Operand} {a} (hx : ev e x = .pointer a) : OpVat P ⟨d, .move x, ty, p, af, g⟩ e w (.pointer a) := v_move hx
theorem zmT {P : Program} {d : Option Tmp} {ty : TypeId} {p : String} {af : Array Edge} {g : Option (Nat × Bool)} {e : Nat → Value} {w : World} {x : Operand} {a} (hx : ev e x = .tuple a) : OpVat P ⟨d, .move x, ty, p, af, g⟩ e w (.tuple a) := v_move hx
theorem zmF {P : Program} {d : Option Tmp} {ty : TypeId} {p : String} {af : Array Edge} {g : Option (Nat × Bool)} {e : Nat → Value} {w : World} {x : Operand} {a b c} (hx : ev e x = .func a b c) : OpVat P ⟨d, .move x, ty, p, af, g⟩ e w (.func a b c) := v_move hx
theorem zaS {P : Program} {d : Option Tmp} {ty : TypeId} {p : String} {af : Array Edge} {g : Option (Nat × Bool)} {e : Nat → Value} {w : World} {x : Operand} {a n c} (hx : ev e x = .slice a n c) : OpVat P ⟨d, .assign x, ty, p, af, g⟩ e w (.slice a n c) := v_assign hx
theorem zaI {P : Program} {d : Option Tmp} {ty : TypeId} {p : String} {af : Array Edge} {g : Option (Nat × Bool)} {e : Nat → Value} {w : World} {x : Operand} {k n} (hx : ev e x = .int k n) : OpVat P ⟨d, .assign x, ty, p, af, g⟩ e w (.int k n) := v_assign hx
theorem zaB {P : Program} {d : Option Tmp} {ty : TypeId} {p : String} {af : Array Edge} {g : Option (Nat × Bool)} {e : Nat → Value} {w : World} {x : Operand} {a} (hx : ev e x = .bool a) : OpVat P ⟨d, .assign x, ty, p, af, g⟩ e w (.bool a) := v_assign hx
theorem zaP {P : Program} {d : Option Tmp} {ty : TypeId} {p : String} {af : Array Edge} {g : Option (Nat × Bool)} {e : Nat → Value} {w : World} {x : Operand} {a} (hx : ev e x = .pointer a) : OpVat P ⟨d, .assign x, ty, p, af, g⟩ e w (.pointer a) := v_assign hx
theorem zaF {P : Program} {d : Option Tmp} {ty : TypeId} {p : String} {af : Array Edge} {g : Option (Nat × Bool)} {e : Nat → Value} {w : World} {x : Operand} {a b c} (hx : ev e x = .func a b c) : OpVat P ⟨d, .assign x, ty, p, af, g⟩ e w (.func a b c) := v_assign hx
end Go.Vc
