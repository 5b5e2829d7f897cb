/- A part of the proof: steps and lemmas for the walks through the given program. -/
import Derived.WalkKit
import Derived.WalkLawsBesides
import Derived.WalkSpells
import Derived.RangeFuncNested
import Derived.RangeFuncBound
import Derived.RangeFuncCalls
import Derived.RangeFuncLeaves
import Derived.RangeFuncFrom
import Derived.OwnWalkIn
import Derived.TacticsInMore
import Derived.LoopNIn
import Derived.LoopIn
import Derived.OrdersIn
namespace Go.Vc
set_option linter.unusedVariables false

/-! frames -/
def upd (e : Nat → Value) (d : Nat) (v : Value) : Nat → Value := fun i => bif Nat.beq i d then v else e i
def updo (e : Nat → Value) (d : Option Tmp) (v : Value) : Nat → Value := match d with | some d => upd e d v | none => e
def Fr (N : Nat) (e : Nat → Value) : Act := ⟨Array.ofFn (n := N) fun i => e i.val, []⟩
def ev (e : Nat → Value) : Operand → Value
  | .tmp t => e t
  | .const v => v
  | .global g => .pointer (some ⟨g, 0, none⟩)
  | .func f => .func (.func f) #[] #[]

theorem upd_same (e : Nat → Value) (d : Nat) (v : Value) : upd e d v d = v := by simp [upd]
theorem upd_ne (e : Nat → Value) {d t : Nat} (v : Value) (h : t ≠ d) : upd e d v t = e t := by
  have : Nat.beq t d = false := by
    cases hb : Nat.beq t d with
    | false => rfl
    | true => exact absurd (Nat.eq_of_beq_eq_true hb) h
  simp only [upd, this, cond_false]

def Operand.lt (N : Nat) : Operand → Bool
  | .tmp t => Nat.blt t N
  | _ => true

theorem fr_eval {N : Nat} {e : Nat → Value} {x : Operand} (h : Operand.lt N x = true) : (Fr N e).eval x = ev e x := by
  cases x with
  | tmp t =>
    have ht : t + 1 ≤ N := by simpa [Operand.lt, Nat.blt] using h
    have ht : t < N := ht
    simp [Act.eval, Fr, ev, Array.getD, ht]
  | _ => rfl

theorem fr_put {N : Nat} {e : Nat → Value} {d : Nat} (h : d < N) (v : Value) : (Fr N e).put (some d) v = Fr N (upd e d v) := by
  simp only [Fr, Act.put]
  congr 1
  apply Array.ext
  · simp
  · intro i h1 h2
    simp only [Array.size_ofFn] at h2
    rw [Array.getElem_setIfInBounds (by simpa using h2)]
    by_cases hd : d = i
    · subst hd; simp [upd_same]
    · simp [hd, upd_ne e v (Ne.symm hd)]

def dstLt (N : Nat) : Option Tmp → Bool
  | some d => Nat.blt d N
  | none => true

theorem fr_puto {N : Nat} {e : Nat → Value} {d : Option Tmp} (h : dstLt N d = true) (v : Value) : (Fr N e).put d v = Fr N (updo e d v) := by
  cases d with
  | none => rfl
  | some d =>
    have h' : d + 1 ≤ N := by simpa [dstLt, Nat.blt] using h
    exact fr_put h' v

/-- the wide fence, or a round within it -/
def Fw : Option Nat → Fence
  | none => Fence.wide
  | some l => Fence.wide.inRound l
theorem Fw_fn (ro : Option Nat) (f : FuncId) : (Fw ro).fn f := by cases ro <;> trivial
theorem Fw_depth (ro : Option Nat) : (Fw ro).depth = none := by cases ro <;> rfl
theorem Fw_round (ro : Option Nat) : (Fw ro).round = ro := by cases ro <;> rfl
theorem callsIn_Fw {ro : Option Nat} {n : Nat} {P : Program} {f : FuncId} {args : Array Value} {w : World} {R : Ending → World → Prop} (h : Calls P f args w R) : CallsIn (Fw ro) n P f args w R := by
  cases ro with
  | none => exact callsIn_wide.2 h
  | some l => exact CallsIn.inRound l (callsIn_wide.2 h)
/-- a frame with deferred calls -/
abbrev FrD (N : Nat) (e : Nat → Value) (ds : List Deferred) : Act := ⟨(Fr N e).tmps, ds⟩
theorem frD_eval {N : Nat} {e : Nat → Value} {ds : List Deferred} {x : Operand} (h : Operand.lt N x = true) : (FrD N e ds).eval x = ev e x := by
  have := fr_eval (e := e) h
  cases x <;> simpa [Act.eval, FrD] using this
theorem frD_puto {N : Nat} {e : Nat → Value} {ds : List Deferred} {d : Option Tmp} (h : dstLt N d = true) (v : Value) : (FrD N e ds).put d v = FrD N (updo e d v) ds := by
  have := fr_puto (e := e) h v
  cases d with
  | none => rfl
  | some d =>
    have h2 := congrArg Act.tmps this
    simp only [Act.put, FrD] at h2 ⊢
    rw [h2]
def notSel : Op → Bool
  | .select .. => false
  | .defer _ => false
  | _ => true

/-- operands and target lie in the frame -/
def opLt (N : Nat) (o : Oper) : Bool := o.op.operands.toList.all (Operand.lt N) && dstLt N o.dst && notSel o.op

theorem opLt_exec {N : Nat} {o : Oper} (h : opLt N o = true) (e : Nat → Value) : execOp (Fr N e).eval o = execOp (ev e) o := by
  simp only [opLt, Bool.and_eq_true, List.all_eq_true] at h
  refine execOp_congr o (fun cs b hs => ?_) (fun x hx => fr_eval (h.1.1 x (by simpa using hx)))
  have := h.2
  rw [hs] at this
  simp [notSel] at this

theorem frD_exec {N : Nat} {o : Oper} (h : opLt N o = true) (e : Nat → Value) (ds : List Deferred) : execOp (FrD N e ds).eval o = execOp (ev e) o := by
  simp only [opLt, Bool.and_eq_true, List.all_eq_true] at h
  refine execOp_congr o (fun cs b hs => ?_) (fun x hx => frD_eval (h.1.1 x (by simpa using hx)))
  have := h.2
  rw [hs] at this
  simp [notSel] at this
theorem semAt_Fw {ro : Option Nat} {ρ : Operand → Value} {o : Oper} (h : notSel o.op = true) : Oper.semAt (Fw ro).round ρ o = execOp ρ o := by
  rw [Fw_round]
  cases ro with
  | none => rfl
  | some l => exact Oper.semAt_some l ρ o (fun c hc => by rw [hc] at h; cases h)
theorem roundIn_Fw {ro : Option Nat} {n : Nat} {P : Program} {l f : Nat} {tmps : Array Value} {assign body : Code} {w : World} {R : Ending → World → Prop} (h : RoundIn Fence.wide 0 P l f tmps assign body w R) : RoundIn (Fw ro) n P l f tmps assign body w R := by
  cases ro with
  | none => exact ⟨h.1, fun c cs _ => h.2 c cs (room_wide _)⟩
  | some l => exact ⟨h.1, fun c cs _ => h.2 c cs (room_wide _)⟩

/-! one operation -/
/-- the operation yields v in the world w, which stays -/
def OpVat (P : Program) (o : Oper) (e : Nat → Value) (w : World) (v : Value) : Prop := (execOp (ev e) o).run P w = .ok (.value v) w

def Ret (R : Value → World → Prop) : Ending → World → Prop := fun e w => ∃ v, e = .returned v ∧ R v w
/-- f called with args returns, with R -/
def CallsR (P : Program) (f : FuncId) (args : Array Value) (w : World) (R : Value → World → Prop) : Prop := Calls P f args w (Ret R)
theorem CallsR.mono {P : Program} {f : FuncId} {args : Array Value} {w : World} {R R' : Value → World → Prop} (h : CallsR P f args w R) (hr : ∀ v w', R v w' → R' v w') : CallsR P f args w R' :=
  Calls.mono h fun _ _ ⟨v, he, hv⟩ => ⟨v, he, hr _ _ hv⟩

/-- what an operation leads to -/
def OpTo (P : Program) (o : Oper) (e : Nat → Value) (w : World) (K : Value → World → Prop) : Prop :=
  match (execOp (ev e) o).run P w with
  | .ok (.value v) w' => K v w'
  | .ok .skip w' => K undef w'
  | .ok (.enter f args) w' => CallsR P f args w' K
  | .ok (.round l f tmps assign body) w' => RoundIn Fence.wide 0 P l f tmps assign body w' (Ret K)
  | _ => False

theorem OpTo.of_v {P : Program} {o : Oper} {e : Nat → Value} {w : World} {v : Value} {K : Value → World → Prop} (h : OpVat P o e w v) (k : K v w) : OpTo P o e w K := by
  unfold OpTo; rw [h]; exact k

theorem OpTo.mono {P : Program} {o : Oper} {e : Nat → Value} {w : World} {K K' : Value → World → Prop} (h : OpTo P o e w K) (hk : ∀ v w', K v w' → K' v w') : OpTo P o e w K' := by
  unfold OpTo at *
  split at h
  · exact hk _ _ h
  · exact hk _ _ h
  · exact CallsR.mono h hk
  · exact RoundIn.mono h fun _ _ ⟨v, he, hv⟩ => ⟨v, he, hk _ _ hv⟩
  · exact h.elim

theorem OpTo.wpIn {ro : Option Nat} {n : Nat} {P : Program} {o : Oper} {N : Nat} {e : Nat → Value} {ds : List Deferred} {w : World} {K : Value → World → Prop} {next : Act → World → Prop} {Q : Exit → Act → World → Prop} (hl : opLt N o = true)
    (h : OpTo P o e w K) (hk : ∀ v w', K v w' → next (FrD N (updo e o.dst v) ds) w') : o.wpIn (Fw ro) n P (FrD N e ds) w next Q := by
  have hd : dstLt N o.dst = true := by simp only [opLt, Bool.and_eq_true] at hl; exact hl.1.2
  have hnd : notSel o.op = true := by simp only [opLt, Bool.and_eq_true] at hl; exact hl.2
  unfold Oper.wpIn
  refine ⟨fun f _ => Fw_fn ro f, ?_⟩
  rw [semAt_Fw hnd, frD_exec hl]
  unfold OpTo at h
  split at h
  · rename_i hr; rw [hr, Oper.uponIn_value, frD_puto hd]; exact hk _ _ h
  · rename_i hr; rw [hr, Oper.uponIn_skip, frD_puto hd]; exact hk _ _ h
  · rename_i hr; rw [hr, Oper.uponIn_enter]
    refine ⟨(fun hh => by rw [Fw_depth] at hh; simp at hh), callsIn_Fw (Calls.mono h ?_)⟩
    rintro e' w'' ⟨v, rfl, hv⟩
    show next ((FrD N e ds).put o.dst v) w''
    rw [frD_puto hd]; exact hk _ _ hv
  · rename_i hr; rw [hr, Oper.uponIn_round]
    refine ⟨(fun hh => by rw [Fw_depth] at hh; simp at hh), roundIn_Fw (RoundIn.mono h ?_)⟩
    rintro e' w'' ⟨v, rfl, hv⟩
    show next ((FrD N e ds).put o.dst v) w''
    rw [frD_puto hd]; exact hk _ _ hv
  · exact h.elim

/-! guards -/
def yieldE (ops : Array Oper) (e : Nat → Value) (j : Nat) : Option Bool :=
  match (ops[j]?).bind (·.dst) with
  | some t => match e t with | .bool b => some b | _ => none
  | none => none
def wantedE (ops : Array Oper) (e : Nat → Value) (o : Oper) : Bool := Region.wanted o (yieldE ops e)

def opsLt (N : Nat) (ops : Array Oper) : Bool := ops.toList.all (opLt N)

theorem opsLt_at {N : Nat} {ops : Array Oper} (h : opsLt N ops = true) {j : Nat} {o : Oper} (hj : ops[j]? = some o) : opLt N o = true := by
  simp only [opsLt, List.all_eq_true] at h
  refine h o ?_
  have := Array.mem_of_getElem? hj
  simpa using this

theorem yielded_fr {N : Nat} {ops : Array Oper} (h : opsLt N ops = true) (e : Nat → Value) : yielded ops (Fr N e).tmps = yieldE ops e := by
  funext j
  unfold yielded yieldE
  cases hj : ops[j]? with
  | none => simp
  | some o =>
    cases hd : o.dst with
    | none => simp [hd]
    | some t =>
      have hl := opsLt_at h hj
      simp only [opLt, Bool.and_eq_true, hd, dstLt] at hl
      have ht : t + 1 ≤ N := by simpa [Nat.blt] using hl.1.2
      have ht : t < N := ht
      simp [hd, Fr, ht]
      split <;> simp_all

/-- a list of operations, in the order of the text -/
def wpL (P : Program) (N : Nat) (ops : Array Oper) (Q : Exit → Act → World → Prop) : List Oper → (Nat → Value) → World → Prop
  | [], e, w => Q .normal (Fr N e) w
  | o :: rest, e, w => if wantedE ops e o then OpTo P o e w (fun v w' => wpL P N ops Q rest (updo e o.dst v) w') else wpL P N ops Q rest (updo e o.dst undef) w

theorem yielded_frD {N : Nat} {ops : Array Oper} (h : opsLt N ops = true) (e : Nat → Value) (ds : List Deferred) : yielded ops (FrD N e ds).tmps = yieldE ops e := yielded_fr h e
abbrev Qd (ds : List Deferred) (Q : Exit → Act → World → Prop) : Exit → Act → World → Prop := fun ex a w => Q ex ⟨a.tmps, ds⟩ w
theorem wpL_sound {ro : Option Nat} {n : Nat} {P : Program} {N : Nat} {ops : Array Oper} {Q : Exit → Act → World → Prop} {ds : List Deferred} (hl : opsLt N ops = true) : ∀ (l : List Oper), (∀ o ∈ l, opLt N o = true) → ∀ (e : Nat → Value) (w : World), wpL P N ops (Qd ds Q) l e w → wpListIn (Fw ro) n P ops Q l (FrD N e ds) w
  | [], _, e, w, h => h
  | o :: rest, hm, e, w, h => by
    have ho := hm o (by simp)
    have hd : dstLt N o.dst = true := by simp only [opLt, Bool.and_eq_true] at ho; exact ho.1.2
    refine wpListIn_step fun K hK => ?_
    have hr : ∀ e w, wpL P N ops (Qd ds Q) rest e w → K (FrD N e ds) w := fun e w h => hK _ _ (wpL_sound hl rest (fun o h' => hm o (by simp [h'])) e w h)
    rw [yielded_frD hl]
    unfold wpL at h
    unfold wantedE at h
    split
    · rename_i hw; rw [if_pos hw] at h; exact OpTo.wpIn ho h fun v w' hv => hr _ _ hv
    · rename_i hw; rw [if_neg hw] at h; rw [frD_puto hd]; exact ⟨fun f _ => Fw_fn ro f, hr _ _ h⟩

theorem wp_reg {ro : Option Nat} {n : Nat} {P : Program} {N : Nat} {ops : List Oper} {id : Nat} {Q : Exit → Act → World → Prop} {e : Nat → Value} {ds : List Deferred} {w : World} (hl : opsLt N ops.toArray = true) (h : wpL P N ops.toArray (Qd ds Q) ops e w) : (Code.region id ops.toArray false).wpIn (Fw ro) n P Q (FrD N e ds) w :=
  wpIn_region_lit (wpL_sound hl ops (by simpa [opsLt] using hl) e w h)

section
variable {P : Program} {N : Nat} {ops : Array Oper} {Q : Exit → Act → World → Prop} {e : Nat → Value} {w : World} {rest : List Oper}

theorem l_nil (h : Q .normal (Fr N e) w) : wpL P N ops Q [] e w := h

/-- a step whose value is known -/
theorem l_v {d : Option Tmp} {op : Op} {ty : TypeId} {p : String} {af : Array Edge} {t : Value} (h : OpVat P ⟨d, op, ty, p, af, none⟩ e w t) (k : wpL P N ops Q rest (updo e d t) w) :
    wpL P N ops Q (⟨d, op, ty, p, af, none⟩ :: rest) e w := by
  unfold wpL
  simp only [wantedE, Region.wanted, if_true]
  exact OpTo.of_v h k

/-- a step with an effect -/
theorem l_to {d : Option Tmp} {op : Op} {ty : TypeId} {p : String} {af : Array Edge} (h : OpTo P ⟨d, op, ty, p, af, none⟩ e w (fun v w' => wpL P N ops Q rest (updo e d v) w')) :
    wpL P N ops Q (⟨d, op, ty, p, af, none⟩ :: rest) e w := by
  unfold wpL
  simp only [wantedE, Region.wanted, if_true]
  exact h

theorem yieldE_of {g : Nat} {t : Tmp} {c : Bool} (hg : (ops[g]?).bind (·.dst) = some t) (hc : e t = .bool c) : yieldE ops e g = some c := by
  unfold yieldE; rw [hg]; simp [hc]

/-- a guarded step: its value is known where the guard holds -/
theorem l_gv {d : Tmp} {op : Op} {ty : TypeId} {p : String} {af : Array Edge} {g : Nat} {b : Bool} {t : Tmp} {c : Bool} {v : Value} (hg : (ops[g]?).bind (·.dst) = some t) (hc : e t = .bool c)
    (h : c = b → OpVat P ⟨some d, op, ty, p, af, some (g, b)⟩ e w v) (k : ∀ u, (c = b → u = v) → wpL P N ops Q rest (upd e d u) w) :
    wpL P N ops Q (⟨some d, op, ty, p, af, some (g, b)⟩ :: rest) e w := by
  unfold wpL
  simp only [wantedE, Region.wanted, yieldE_of hg hc]
  by_cases hb : c = b
  · subst hb; simp only [beq_self_eq_true, if_true]; exact OpTo.of_v (h rfl) (k v fun _ => rfl)
  · have : (some c == some b) = false := by simpa using hb
    simp only [this]; exact k undef fun h => absurd h hb

/-- a guarded step whose guard is known to hold -/
theorem l_gt {d : Option Tmp} {op : Op} {ty : TypeId} {p : String} {af : Array Edge} {g : Nat} {b : Bool} {t : Tmp} (hg : (ops[g]?).bind (·.dst) = some t) (hc : e t = .bool b)
    (h : OpTo P ⟨d, op, ty, p, af, some (g, b)⟩ e w (fun v w' => wpL P N ops Q rest (updo e d v) w')) :
    wpL P N ops Q (⟨d, op, ty, p, af, some (g, b)⟩ :: rest) e w := by
  unfold wpL
  simp only [wantedE, Region.wanted, yieldE_of hg hc, beq_self_eq_true, if_true]
  exact h

/-- a guarded step whose guard is known not to hold -/
theorem l_gf {d : Option Tmp} {op : Op} {ty : TypeId} {p : String} {af : Array Edge} {g : Nat} {b c : Bool} {t : Tmp} (hg : (ops[g]?).bind (·.dst) = some t) (hc : e t = .bool c) (hb : (c == b) = false)
    (h : wpL P N ops Q rest (updo e d undef) w) :
    wpL P N ops Q (⟨d, op, ty, p, af, some (g, b)⟩ :: rest) e w := by
  unfold wpL
  have : (some c == some b) = false := by simpa using hb
  simp only [wantedE, Region.wanted, yieldE_of hg hc, this]
  exact h

end
end Go.Vc
