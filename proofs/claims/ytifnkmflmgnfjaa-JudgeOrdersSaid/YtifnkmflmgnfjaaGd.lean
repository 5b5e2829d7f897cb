/- A part of the proof: steps and lemmas for the walks through the given program. -/
import Derived.Test.YtifnkmflmgnfjaaGb
import GoSem.Extern.BytealgCompare
import Derived.Lib.AppendZerosOnto
namespace Go.Vc
set_option linter.unusedVariables false
set_option linter.unusedSimpArgs false

/-! the order of bytes -/
theorem ltB_eq : ∀ x y : List UInt8, Op.bytesLess x y = decide (x < y)
  | [], [] => by simp [Op.bytesLess]
  | _ :: _, [] => by simp [Op.bytesLess]
  | [], _ :: _ => by simp [Op.bytesLess]
  | a :: x, b :: y => by
    have ih := ltB_eq x y
    simp only [Op.bytesLess, ih, List.cons_lt_cons_iff]
    by_cases h1 : a < b
    · simp [h1]
    · by_cases h2 : a = b
      · subst h2; simp [h1]
      · simp [h1, h2]
theorem lb_irrefl (x : List UInt8) : ¬ x < x := List.lt_irrefl x
theorem lb_trans {x y z : List UInt8} (h : x < y) (k : y < z) : x < z := List.lt_trans h k
theorem lb_tri (x y : List UInt8) : x < y ∨ x = y ∨ y < x := by
  induction x generalizing y with
  | nil => cases y with
    | nil => exact .inr (.inl rfl)
    | cons b y => exact .inl (List.nil_lt_cons _ _)
  | cons a x ih => cases y with
    | nil => exact .inr (.inr (List.nil_lt_cons _ _))
    | cons b y =>
      simp only [List.cons_lt_cons_iff]
      rcases Nat.lt_trichotomy a.toNat b.toNat with h | h | h
      · exact .inl (.inl (UInt8.lt_iff_toNat_lt.2 h))
      · have : a = b := UInt8.toNat_inj.1 h
        subst this
        rcases ih y with h | h | h
        · exact .inl (.inr ⟨rfl, h⟩)
        · exact .inr (.inl (by rw [h]))
        · exact .inr (.inr (.inr ⟨rfl, h⟩))
      · exact .inr (.inr (.inl (UInt8.lt_iff_toNat_lt.2 h)))
theorem lb_asymm {x y : List UInt8} (h : x < y) : ¬ y < x := fun k => lb_irrefl x (lb_trans h k)
theorem lb_not {x y : List UInt8} (h : ¬ x < y) : y < x ∨ y = x := by
  rcases lb_tri x y with a | a | a
  · exact absurd a h
  · exact .inr a.symm
  · exact .inl a
/-- what a comparison of bytes tells -/
def cmpB (x y : List UInt8) : Int := if x < y then -1 else if x = y then 0 else 1
def cmpG (x y : List UInt8) : Int :=
  match (List.range (min x.length y.length)).find? fun i => x.getD i 0 != y.getD i 0 with
  | some i => if x.getD i 0 < y.getD i 0 then -1 else 1
  | none => if x.length < y.length then -1 else if x.length > y.length then 1 else 0
theorem cmpG_eq : ∀ x y : List UInt8, cmpG x y = cmpB x y
  | [], [] => by simp [cmpG, cmpB]
  | _ :: _, [] => by simp [cmpG, cmpB]
  | [], _ :: _ => by simp [cmpG, cmpB]
  | a :: x, b :: y => by
    have ih := cmpG_eq x y
    unfold cmpG at ih ⊢
    have hm : min (a :: x).length (b :: y).length = min x.length y.length + 1 := by simp [Nat.succ_min_succ]
    rw [hm, List.range_succ_eq_map, List.find?_cons]
    by_cases hab : a = b
    · subst hab
      simp only [List.getD_cons_zero, bne_self_eq_false]
      rw [List.find?_map]
      have he : ((fun i => (a :: x).getD i 0 != (a :: y).getD i 0) ∘ Nat.succ) = fun i => x.getD i 0 != y.getD i 0 := by
        funext i; simp
      rw [he]
      have h1 : cmpB (a :: x) (a :: y) = cmpB x y := by
        have : ¬ a < a := by simp
        simp [cmpB, List.cons_lt_cons_iff, this]
      rw [h1, ← ih]
      cases (List.range (min x.length y.length)).find? fun i => x.getD i 0 != y.getD i 0 with
      | none => simp
      | some i => simp
    · have hb : (a != b) = true := by simpa using hab
      simp only [List.getD_cons_zero, hb]
      by_cases hlt : a < b
      · simp [cmpB, List.cons_lt_cons_iff, hlt]
      · simp [cmpB, List.cons_lt_cons_iff, hlt, hab]
theorem ba_getD (x : List UInt8) (i : Nat) (h : i < x.length) : (⟨x.toArray⟩ : ByteArray)[i]! = x.getD i 0 := by
  have h2 : i < (⟨x.toArray⟩ : ByteArray).size := by simpa [ByteArray.size] using h
  rw [getElem!_pos (⟨x.toArray⟩ : ByteArray) i h2]
  simp [h]
  rfl
theorem cmp_list (x y : List UInt8) : Extern.BytealgCompare.cmp ⟨x.toArray⟩ ⟨y.toArray⟩ = cmpB x y := by
  rw [← cmpG_eq]
  unfold Extern.BytealgCompare.cmp cmpG
  have hx : (⟨x.toArray⟩ : ByteArray).size = x.length := by simp [ByteArray.size]
  have hy : (⟨y.toArray⟩ : ByteArray).size = y.length := by simp [ByteArray.size]
  rw [hx, hy]
  have hf : (List.range (min x.length y.length)).find? (fun i => (⟨x.toArray⟩ : ByteArray)[i]! != (⟨y.toArray⟩ : ByteArray)[i]!) = (List.range (min x.length y.length)).find? (fun i => x.getD i 0 != y.getD i 0) := by
    have : ∀ l : List Nat, (∀ i ∈ l, i < min x.length y.length) → l.find? (fun i => (⟨x.toArray⟩ : ByteArray)[i]! != (⟨y.toArray⟩ : ByteArray)[i]!) = l.find? (fun i => x.getD i 0 != y.getD i 0) := by
      intro l hl
      induction l with
      | nil => rfl
      | cons i l ih =>
        have hi := hl i List.mem_cons_self
        rw [List.find?_cons, List.find?_cons, ba_getD x i zo, ba_getD y i zo, ih (fun j hj => hl j (List.mem_cons_of_mem _ hj))]
    exact this _ (fun i hi => by simpa using hi)
  rw [hf]
  cases h : (List.range (min x.length y.length)).find? fun i => x.getD i 0 != y.getD i 0 with
  | none => simp
  | some i =>
    have := List.mem_of_find?_eq_some h
    have hi : i < min x.length y.length := by simpa using this
    simp only [ba_getD x i zo, ba_getD y i zo]
end Go.Vc

namespace Go.Vc
set_option linter.unusedVariables false
set_option linter.unusedSimpArgs false
/-! ### a function without a body: the comparison of bytes -/
theorem run_loadB {P : Program} {w : World} : ∀ (l : List UInt8) (a : Addr) (acc : ByteArray), (∀ (j : Nat) (x : UInt8), l[j]? = some x → w.cell? (a.add j) = some (.int .u8 x.toNat)) →
    (Extern.Bytes.loadBytes a l.length acc).run P w = .ok ⟨acc.data ++ l.toArray⟩ w
  | [], a, acc, _ => by simp [Extern.Bytes.loadBytes]
  | x :: l, a, acc, h => by
    have h0 := h 0 x rfl
    rw [add_zero] at h0
    have ih := run_loadB (P := P) l (a.add 1) (acc.push x) (fun j y hj => by
      have := h (j + 1) y (by simpa using hj)
      rwa [add_add, Nat.add_comm 1 j])
    have hx : (x.toNat : Int).toNat.toUInt8 = x := by simp
    simp only [List.length_cons, Extern.Bytes.loadBytes, Sem.run_bind, load, Sem.run, h0, Result.andThen, hx]
    rw [ih]
    congr 1
    congr 1
    simp [ByteArray.push]
theorem run_bytesOf {P : Program} {w : World} {F : Nat → Prop} {v : Value} {l : List UInt8} (h : Bv w F v l) : (Extern.Bytes.bytesOf v).run P w = .ok ⟨l.toArray⟩ w := by
  obtain ⟨a, c, rfl, h1, h2, h3, h4⟩ := h
  cases a with
  | none =>
    have : l = [] := List.eq_nil_of_length_eq_zero (by have := h3 rfl; omega)
    subst this; rfl
  | some a =>
    have := run_loadB (P := P) (w := w) l a .empty (fun j x hx => by
      obtain ⟨q, cs, hq, _, hp, hr⟩ := h4 j x hx
      cases hq
      have := pv_u8 hp hr
      simpa [tU8] using this)
    simp only [Extern.Bytes.bytesOf]
    rw [this]
    have e0 : ByteArray.empty.data = #[] := rfl
    rw [e0]; simp
def kCmp (P : Program) (f : Nat) : Prop := ∃ fn, P.funcs[f]? = some fn ∧ (fn.name == "runtime.NumGoroutine") = false ∧ fn.body.isNone = true ∧ (Extern.findNext fn).isNone = true ∧ Extern.find fn = some Extern.BytealgCompare.compare
theorem to_cmp {P : Program} {d : Option Tmp} {ty : TypeId} {p : String} {af : Array Edge} {g : Option (Nat × Bool)} {e : Nat → Value} {w : World} {x0 x1 : Operand} {v0 v1 : Value} {fn : Nat} {ts : Array TypeId} {F G : Nat → Prop} {x y : List UInt8}
    (hk : kCmp P fn) (h0 : ev e x0 = v0) (h1 : ev e x1 = v1) (hx : Bv w F v0 x) (hy : Bv w G v1 y) :
    OpVat P ⟨d, .call { callee := .value (.func fn), args := #[x0, x1], argTypes := ts }, ty, p, af, g⟩ e w (.int .i64 (cmpB x y)) := by
  obtain ⟨f, hf, hn, hb, h3, h4⟩ := hk
  have h3' : Extern.findNext f = none := by simpa using h3
  have h5 : (Extern.BytealgCompare.compare #[v0, v1]).run P w = .ok (.int .i64 (cmpB x y)) w := by
    show Sem.run P (do pure (goInt (Extern.BytealgCompare.cmp (← Extern.Bytes.bytesOf v0) (← Extern.Bytes.bytesOf v1)))) w = _
    simp [run_bytesOf hx, run_bytesOf hy, cmp_list, goInt]
  have hn' : ¬ f.name = "runtime.NumGoroutine" := by simpa using hn
  have hb' : f.body = none := by simpa using hb
  have hf0 : ev e (.func fn) = .func (.func fn) #[] #[] := rfl
  unfold OpVat
  simp [execOp, resolve, hf0, h0, h1, Deferred.ofValue, invoke, callFunc, hf, hn', hb', h3', h4, h5]
section
variable {P : Program} {d : Option Tmp} {ty : TypeId} {p : String} {af : Array Edge} {g : Option (Nat × Bool)} {e : Nat → Value} {w : World} {x y c : Operand} {a b : List UInt8} {xt yt : TypeId}
/-! ### texts compared -/
theorem v_slt (hx : ev e x = .string ⟨a.toArray⟩) (hy : ev e y = .string ⟨b.toArray⟩) : OpVat P ⟨d, .binOp .lss xt x y yt, ty, p, af, g⟩ e w (.bool (decide (a < b))) := by
  simp [OpVat, execOp, hx, hy, eqGuard, binOp, Op.stringOp, baList, ltB_eq]
theorem v_sge (hx : ev e x = .string ⟨a.toArray⟩) (hy : ev e y = .string ⟨b.toArray⟩) : OpVat P ⟨d, .binOp .geq xt x y yt, ty, p, af, g⟩ e w (.bool (!decide (a < b))) := by
  simp [OpVat, execOp, hx, hy, eqGuard, binOp, Op.stringOp, baList, ltB_eq]
theorem lb_gt (a b : List UInt8) : (!(decide (a < b) || decide (a = b))) = decide (b < a) := by
  rcases lb_tri a b with h | h | h
  · have := lb_asymm h
    simp [h, this]
  · subst h; have := lb_irrefl a; simp [this]
  · have h2 := lb_asymm h
    have h3 : a ≠ b := fun he => by subst he; exact lb_irrefl a h
    simp [h, h2, h3]
theorem v_sle (hx : ev e x = .string ⟨a.toArray⟩) (hy : ev e y = .string ⟨b.toArray⟩) : OpVat P ⟨d, .binOp .leq xt x y yt, ty, p, af, g⟩ e w (.bool (!decide (b < a))) := by
  have e0 : (a == b) = decide (a = b) := by rw [Bool.eq_iff_iff]; simp
  have := lb_gt a b
  simp only [OpVat, execOp, hx, hy, eqGuard, binOp, Op.stringOp, baList, ltB_eq, e0]
  rw [← this]; simp
/-! ### the less, the greater -/
theorem v_min {k : IntKind} {i j : Int} (hx : ev e x = .int k i) (hy : ev e y = .int k j) {ts : Array TypeId} : OpVat P ⟨d, .call { callee := .builtin .min, args := #[x, y], argTypes := ts }, ty, p, af, g⟩ e w (.int k (if j < i then j else i)) := by
  simp [OpVat, execOp, resolve, hx, hy, invoke, builtin, Builtin.min_, Builtin.min2, pure, List.foldlM]
theorem v_max {k : IntKind} {i j : Int} (hx : ev e x = .int k i) (hy : ev e y = .int k j) {ts : Array TypeId} : OpVat P ⟨d, .call { callee := .builtin .max, args := #[x, y], argTypes := ts }, ty, p, af, g⟩ e w (.int k (if j > i then j else i)) := by
  simp [OpVat, execOp, resolve, hx, hy, invoke, builtin, Builtin.max_, Builtin.max2, pure, List.foldlM]
end
theorem pv_at {w : World} {b i : Nat} {cs : List Value} (off : Nat) (h : Pv w ⟨b, i, none⟩ cs) : Pv w ((⟨b, i, none⟩ : Addr).add off) (cs.drop off) := fun j u hu => by
  rw [add_add]; exact h _ _ (by simpa using hu)
end Go.Vc

namespace Go.Vc
set_option linter.unusedVariables false
set_option linter.unusedSimpArgs false
/-! ### ranges over functions -/
/-- blocks that are no cells, from B on, may turn -/
def Turn (B : Nat) (W W' : World) : Prop := ∃ K : Nat → Prop, Keep K W W' ∧ ∀ b, b < W.heap.size → K b → B ≤ b ∧ ∃ o : Obj, W.heap[b]? = some o ∧ o.isCells = false
theorem Keep.of_grownBy {W W' : World} {row : Option Nat} (hg : W.grownBy W' row) : Keep (fun b => row = some b) W W' := ⟨hg.os, hg.tape, hg.output, hg.size, fun k hk hK => hg.block k hk (fun e => hK e.symm)⟩
theorem Turn.of_grownBy {B : Nat} {W W' : World} {row : Option Nat} (hg : W.grownBy W' row) (hr : ∀ r, row = some r → B ≤ r ∧ ∃ o : Obj, W.heap[r]? = some o ∧ o.isCells = false) : Turn B W W' :=
  ⟨_, Keep.of_grownBy hg, fun b _ h => hr b h⟩
theorem Blk.turn {B : Nat} {w w' : World} {b : Nat} {cs : List Value} {T : TypeId} (h : Blk w b cs T) (t : Turn B w w') : Blk w' b cs T := by
  obtain ⟨K, k, hK⟩ := t
  refine h.keep k (fun hb => ?_)
  obtain ⟨_, o, ho, hc⟩ := hK b h.lt hb
  rw [Blk] at h
  rw [h] at ho; cases ho; cases hc
theorem SlV.turn {α : Type} {t : Ty α} {B : Nat} {w w' : World} {F : Nat → Prop} {v : Value} {xs : List α} (h : SlV t w F v xs) (tn : Turn B w w') (hF : ∀ b, b < w.heap.size → F b → b < B) : SlV t w' F v xs := by
  obtain ⟨K, k, hK⟩ := tn
  exact h.keep k fun b hb hf hk => by have := hF b hb hf; have := (hK b hb hk).1; omega
theorem Pv.turn {B : Nat} {w w' : World} {q : Addr} {cs : List Value} (h : Pv w q cs) (tn : Turn B w w') (hF : q.block < B) : Pv w' q cs := by
  obtain ⟨K, k, hK⟩ := tn
  by_cases hlt : q.block < w.heap.size
  · exact h.keep k fun hk => by have := (hK _ hlt hk).1; omega
  · intro j u hu
    have := World.block_lt_of_cell? w _ (h j u hu)
    rw [add_block] at this; exact absurd this hlt
theorem Keep.turn {K : Nat → Prop} {B : Nat} {w0 w w' : World} (h : Keep K w0 w) (tn : Turn B w w') (hB : w0.heap.size ≤ B) : Keep K w0 w' := by
  obtain ⟨K', k, hK⟩ := tn
  refine ⟨k.os.trans h.os, k.tape.trans h.tape, k.output.trans h.output, Nat.le_trans h.size k.size, fun i hi hn => (k.block i (Nat.lt_of_lt_of_le hi h.size) (fun hk => ?_)).trans (h.block i hi hn)⟩
  have := (hK i (Nat.lt_of_lt_of_le hi h.size) hk).1
  omega
theorem OwV.turn {α : Type} {t : Ty α} {e : TypeId} {B B' : Nat} {w w' : World} {F : Nat → Prop} {v : Value} {xs : List α} (h : OwV t e w B' F v xs) (tn : Turn B w w') (hF : ∀ b, b < w.heap.size → F b → b < B) : OwV t e w' B' F v xs := by
  obtain ⟨K, k, hK⟩ := tn
  refine h.keep k (fun b hb hk => ?_) (fun b hb hf _ hk => by have := hF b hb hf; have := (hK b hb hk).1; omega)
  obtain ⟨_, hlt⟩ := h.own_lt hb
  obtain ⟨_, o, ho, hc⟩ := hK b hlt hk
  obtain ⟨cells, h1, _⟩ := h
  rcases h1.2 with ⟨rfl, _⟩ | ⟨g, cap, cur, rfl, _, hg, _⟩
  · simp [Value.ownBlock] at hb
  · simp [Value.ownBlock] at hb
    subst hb
    rw [hg] at ho; cases ho; cases hc
abbrev DefB (w : World) (D : Nat) : Prop := w.heap[D]? = some (.deferred (some []))
theorem defB_keep {K : Nat → Prop} {w w' : World} {D : Nat} (h : DefB w D) (k : Keep K w w') (hk : ¬ K D) : DefB w' D := by
  have hlt : D < w.heap.size := (Array.getElem?_eq_some_iff.1 h).1
  exact (k.block D hlt hk).trans h
/-- behind a range over a function: the block of its rounds' deferred calls, empty -/
abbrev mk1 (D : Nat) : List Deferred := [{ target := .collected D, args := #[] }]
def updz (e : Nat → Value) : List Nat → List Value → Nat → Value
  | p :: ps, v :: vs => updz (upd e p v) ps vs
  | _, _ => e
theorem fold_updz {N : Nat} : ∀ (ps : List Nat) (vs : List Value) (e : Nat → Value), ps.all (fun p => Nat.blt p N) = true →
    (ps.zip vs).foldl (fun t (x : Nat × Value) => t.setIfInBounds x.1 x.2) (Fr N e).tmps = (Fr N (updz e ps vs)).tmps
  | [], vs, e, _ => by simp [updz]
  | p :: ps, [], e, _ => by simp [updz]
  | p :: ps, v :: vs, e, h => by
    simp only [List.all_cons, Bool.and_eq_true] at h
    have hp : p + 1 ≤ N := by simpa [Nat.blt] using h.1
    have h1 : (Fr N e).tmps.setIfInBounds p v = (Fr N (upd e p v)).tmps := congrArg Act.tmps (fr_put hp v)
    rw [List.zip_cons_cons, List.foldl_cons, h1, fold_updz ps vs _ h.2]
    rfl
/-- how a round's body is left -/
def RPost {α : Type} (K : Nat → Prop) (I : List α → World → Prop) (Ix : Code → List α → World → Prop) (xs : List α) (W : World) : Exit → Act → World → Prop
  | .normal, _, W' => Keep K W W' ∧ I xs W'
  | .ret, _, W' => Keep K W W' ∧ Ix .ret xs W'
  | .exit i, _, W' => Keep K W W' ∧ Ix (.exit i) xs W'
  | _, _, _ => False
/-- a call of yield -/
theorem to_yield {P : Program} {d : Option Tmp} {ty : TypeId} {p : String} {af : Array Edge} {g : Option (Nat × Bool)} {e : Nat → Value} {w : World} {K : Value → World → Prop} {f : Operand} {args : Array Operand} {ts : Array TypeId} {l m : Nat} {vs : Array Value}
    (hf : ev e f = .func (.yield l) #[] #[]) (ha : args.map (ev e) = vs) (h : YieldAt Fence.wide m P l vs w (fun en w' => ∃ v, en = .returned v ∧ K v w')) : OpTo P ⟨d, .call { callee := .value f, args := args, argTypes := ts }, ty, p, af, g⟩ e w K := by
  obtain ⟨fn, tmps, assign, body, hy, hR⟩ := h
  subst ha
  have hr : (execOp (ev e) ⟨d, .call { callee := .value f, args := args, argTypes := ts }, ty, p, af, g⟩).run P w = .ok (.round l fn tmps assign body) w := by
    simp only [execOp, resolve, hf, Deferred.ofValue]
    simp [invoke, hy]
  unfold OpTo
  rw [hr]
  exact ⟨hR.1, fun c cs _ => hR.2 c cs (room_wide _)⟩
theorem to_yield2 {P : Program} {d : Option Tmp} {ty : TypeId} {p : String} {af : Array Edge} {g : Option (Nat × Bool)} {e : Nat → Value} {w : World} {K : Value → World → Prop} {f x0 x1 : Operand} {ts : Array TypeId} {l m : Nat} {v0 v1 : Value}
    (hf : ev e f = .func (.yield l) #[] #[]) (h0 : ev e x0 = v0) (h1 : ev e x1 = v1) (h : YieldAt Fence.wide m P l #[v0, v1] w (fun en w' => ∃ v, en = .returned v ∧ K v w')) : OpTo P ⟨d, .call { callee := .value f, args := #[x0, x1], argTypes := ts }, ty, p, af, g⟩ e w K := to_yield hf (by simp [h0, h1]) h
theorem enterM {P : Program} {f : Nat} {fn : Func} {c : Code} {l : List Value} {w : World} {R : Value → World → Prop} (N : Nat) (hf : P.funcs[f]? = some fn) (hb : fn.body = some c) (hN : fn.ntmps = N) (hl : l.length ≤ N)
    (h : c.wpIn (Fw none) 0 P (bodyPostM (Fw none) 0 P fn (Ret R)) (FrD N (argEnv l) []) w) : CallsR P f l.toArray w R := by
  refine callsIn_wide.1 (callsIn_of_wp_marks (F := Fence.wide) (n := 0) hf hb trivial ?_)
  rw [hN, fr_args l hl]; exact h
section
variable {n : Nat} {P : Program} {fn : Func} {N : Nat} {e : Nat → Value} {w : World} {R : Value → World → Prop}
end
theorem keep_put {K : Nat → Prop} {w0 w : World} {D : Nat} (h : Keep K w0 w) (hD : w0.heap.size ≤ D) (o : Obj) : Keep K w0 (w.putObj D o) :=
  h.step (Keep.of_grownBy (grownBy_putObj' w D o)) (fun i hi he => by cases he; omega)
theorem turn_put {w : World} {B D : Nat} (hD : DefB w D) (hB : B ≤ D) (o : Obj) : Turn B w (w.putObj D o) :=
  Turn.of_grownBy (grownBy_putObj' w D o) (fun r e => by cases e; exact ⟨hB, _, hD, rfl⟩)

/-! ### stores into one block, one behind the other, in a region of any order -/
def sv (s : Option Nat) (v : Value) (vals : Nat → Value) : Value := match s with
  | some k => vals k
  | none => v
def conts (cs : List Value) (vals : Nat → Value) : List (Nat × Nat × Option Nat × Value) → List Value
  | [] => cs
  | a :: l => conts (cs.set a.2.1 (sv a.2.2.1 a.2.2.2 vals)) vals l
theorem conts_congr {vals vals' : Nat → Value} : ∀ (l : List (Nat × Nat × Option Nat × Value)) (cs : List Value), (∀ a ∈ l, ∀ k, a.2.2.1 = some k → vals k = vals' k) → conts cs vals l = conts cs vals' l
  | [], _, _ => rfl
  | a :: l, cs, h => by
    have h0 : sv a.2.2.1 a.2.2.2 vals = sv a.2.2.1 a.2.2.2 vals' := by
      cases hs : a.2.2.1 with
      | none => rfl
      | some k => exact h a List.mem_cons_self k hs
    simp only [conts, h0]
    exact conts_congr l _ (fun b hb => h b (List.mem_cons_of_mem _ hb))
theorem conts_snoc {vals : Nat → Value} (a : Nat × Nat × Option Nat × Value) : ∀ (l : List (Nat × Nat × Option Nat × Value)) (cs : List Value), conts cs vals (l ++ [a]) = (conts cs vals l).set a.2.1 (sv a.2.2.1 a.2.2.2 vals)
  | [], _ => rfl
  | b :: l, cs => conts_snoc a l _
def StJ (b : Nat) (T : TypeId) (cs : List Value) (as : List (Nat × Nat × Option Nat × Value)) (done : Nat → Bool) (vals : Nat → Value) (w : World) : Prop :=
  ∃ c, c ≤ as.length ∧ (∀ i a, as[i]? = some a → (done a.1 = true ↔ i < c)) ∧ (∀ i a, as[i]? = some a → i < c → ∀ k, a.2.2.1 = some k → done k = true) ∧ Blk w b (conts cs vals (as.take c)) T
def dSt (as : List (Nat × Nat × Option Nat × Value)) (i : Nat) : Bool := as.any fun a => Nat.beq a.1 i || (match a.2.2.1 with | some k => Nat.beq k i | none => false)
section
variable {b : Nat} {T : TypeId} {cs : List Value} {as : List (Nat × Nat × Option Nat × Value)} {done : Nat → Bool} {vals : Nat → Value} {w w' : World}
theorem dSt_op {i : Nat} {a : Nat × Nat × Option Nat × Value} (h : as[i]? = some a) : dSt as a.1 = true := List.any_eq_true.2 ⟨a, List.mem_of_getElem? h, by simp⟩
theorem dSt_src {a : Nat × Nat × Option Nat × Value} {k : Nat} (h : a ∈ as) (hk : a.2.2.1 = some k) : dSt as k = true := List.any_eq_true.2 ⟨a, h, by simp [hk]⟩
theorem StJ.on : JOn (dSt as) (StJ b T cs as) := by
  rintro done vals done' vals' w h ⟨c, hc, h1, h2, h3⟩
  refine ⟨c, hc, fun i a ha => ?_, fun i a ha hi k hk => ?_, ?_⟩
  · rw [← (h a.1 (dSt_op ha)).1]; exact h1 i a ha
  · rw [← (h k (dSt_src (List.mem_of_getElem? ha) hk)).1]; exact h2 i a ha hi k hk
  · rw [← conts_congr (vals := vals) _ _ (fun a ha k hk => (h k (dSt_src (List.mem_of_mem_take ha) hk)).2)]; exact h3
theorem StJ.start (h : Blk w b cs T) (hd : ∀ a ∈ as, done a.1 = false) : StJ b T cs as done vals w :=
  ⟨0, Nat.zero_le _, fun i a ha => by rw [hd a (List.mem_of_getElem? ha)]; simp, fun i a _ hi => by omega, by simpa [conts] using h⟩
/-- what is no store -/
theorem StJ.src {k : Nat} {v : Value} (j : StJ b T cs as done vals w) (e : Ext w w') (hd : done k = false) (hk : (as.all fun a => !(Nat.beq a.1 k)) = true) : StJ b T cs as (don done k) (setv vals k v) w' := by
  obtain ⟨c, hc, h1, h2, h3⟩ := j
  have hne : ∀ (i : Nat) (a : Nat × Nat × Option Nat × Value), as[i]? = some a → a.1 ≠ k := fun i a ha he => by
    have := List.all_eq_true.1 hk a (List.mem_of_getElem? ha)
    rw [he] at this; simp at this
  refine ⟨c, hc, fun i a ha => ?_, fun i a ha hi s hs => ?_, ?_⟩
  · have := hne i a ha
    simp only [don, if_neg this]; exact h1 i a ha
  · have := h2 i a ha hi s hs
    simp only [don]; split
    · rfl
    · exact this
  · rw [conts_congr (vals := setv vals k v) (vals' := vals) _ _ (fun a ha s hs => ?_)]
    · exact h3.ext e
    · obtain ⟨i, hi⟩ := List.mem_iff_getElem?.1 ha
      have hil : i < c := by
        have := (List.getElem?_eq_some_iff.1 hi).1
        simp at this; omega
      rw [List.getElem?_take_of_lt hil] at hi
      have := h2 i a hi hil s hs
      have : s ≠ k := fun he => by subst he; rw [hd] at this; cases this
      simp [setv, this]
theorem StJ.at {n k off : Nat} {s : Option Nat} {v : Value} (j : StJ b T cs as done vals w) (hk : as[n]? = some (k, off, s, v)) (hd : done k = false) (hp : ∀ m, n = m + 1 → ∃ a, as[m]? = some a ∧ done a.1 = true) : Blk w b (conts cs vals (as.take n)) T := by
  obtain ⟨c, hc, h1, h2, h3⟩ := j
  have a1 : ¬ n < c := fun h => by have := (h1 n _ hk).2 h; rw [hd] at this; cases this
  have a2 : n ≤ c := by
    cases n with
    | zero => exact Nat.zero_le _
    | succ m => obtain ⟨a, ha, hda⟩ := hp m rfl; exact (h1 m a ha).1 hda
  have : c = n := by omega
  subst this; exact h3
theorem StJ.step {n k off : Nat} {s : Option Nat} {v u : Value} (j : StJ b T cs as done vals w) (hk : as[n]? = some (k, off, s, v)) (hd : done k = false) (hp : ∀ m, n = m + 1 → ∃ a, as[m]? = some a ∧ done a.1 = true) (hs : ∀ k', s = some k' → done k' = true)
    (hone : ∀ i a, as[i]? = some a → a.1 = k → i = n) (hns : (as.all fun a => match a.2.2.1 with | some q => !(Nat.beq q k) | none => true) = true)
    (hB : Blk w' b ((conts cs vals (as.take n)).set off (sv s v vals)) T) : StJ b T cs as (don done k) (setv vals k u) w' := by
  obtain ⟨c, hc, h1, h2, h3⟩ := j
  have a1 : ¬ n < c := fun h => by have := (h1 n _ hk).2 h; rw [hd] at this; cases this
  have a2 : n ≤ c := by
    cases n with
    | zero => exact Nat.zero_le _
    | succ m => obtain ⟨a, ha, hda⟩ := hp m rfl; exact (h1 m a ha).1 hda
  have : c = n := by omega
  subst this
  have hlt := (List.getElem?_eq_some_iff.1 hk).1
  have hq : ∀ a ∈ as, ∀ q, a.2.2.1 = some q → q ≠ k := fun a ha q hq he => by
    have := List.all_eq_true.1 hns a ha
    subst he; simp [hq] at this
  refine ⟨c + 1, by omega, fun i a ha => ?_, fun i a ha hi q hq' => ?_, ?_⟩
  · by_cases hak : a.1 = k
    · have := hone i a ha hak; subst this; simp [don, hak]
    · simp only [don, if_neg hak]
      rw [h1 i a ha]
      constructor
      · intro h; omega
      · intro h
        rcases Nat.lt_or_ge i c with h' | h'
        · exact h'
        · have : i = c := by omega
          subst this; rw [hk] at ha; cases ha; exact absurd rfl hak
  · have hne := hq a (List.mem_of_getElem? ha) q hq'
    simp only [don, if_neg hne]
    rcases Nat.lt_or_ge i c with h' | h'
    · exact h2 i a ha h' q hq'
    · have : i = c := by omega
      subst this; rw [hk] at ha; cases ha; exact hs q hq'
  · have e1 : as.take (c + 1) = as.take c ++ [(k, off, s, v)] := by
      rw [List.take_add_one, hk]; rfl
    rw [conts_congr (vals := setv vals k u) (vals' := vals) _ _ (fun a ha q hq' => by simp [setv, hq a (List.mem_of_mem_take ha) q hq']), e1, conts_snoc]
    exact hB
theorem StJ.fin (j : StJ b T cs as (fun _ => true) vals w) : Blk w b (conts cs vals as) T := by
  obtain ⟨c, hc, h1, h2, h3⟩ := j
  have : c = as.length := by
    rcases Nat.lt_or_ge c as.length with h | h
    · have := (h1 c as[c] (by simp [h])).1 rfl; omega
    · omega
  subst this; simpa using h3
end
theorem SlV.one {α : Type} {t : Ty α} {w : World} {F : Nat → Prop} {v : Value} {xs : List α} (h : SlV t w F v xs) : v.oneCell' = true := by
  obtain ⟨a, c, rfl⟩ := h.shape; rfl
section
variable {P : Program} {N : Nat} {ops : Array Oper} {Q : Exit → Act → World → Prop} {K : Nat → Prop} {J : (Nat → Bool) → (Nat → Value) → World → Prop} {D : Nat → Bool} {e0 : Nat → Value} {w0 : World} {l : List Oper} {k : Nat} {S : Nat → Value → World → Prop}
theorem rj_vJ {d : Option Tmp} {op : Op} {ty : TypeId} {p : String} {af : Array Edge} {t : Value}
    (h : ∀ done vals w, Keep K w0 w → Closed ops done → done k = false → J done vals w → (∀ j, edgeOn ⟨d, op, ty, p, af, none⟩ j = true → done j = true) → (∀ j, edgeOn ⟨d, op, ty, p, af, none⟩ j = true → S j (vals j) w) → OpVat P ⟨d, op, ty, p, af, none⟩ (envA ops vals e0 k) w t)
    (hj : ∀ done vals w, done k = false → J done vals w → J (don done k) (setv vals k t) w)
    (r : RegJ P N ops Q K J e0 w0 l (k + 1) (setS S k (fun v _ => v = t))) : RegJ P N ops Q K J e0 w0 (⟨d, op, ty, p, af, none⟩ :: l) k S := by
  refine ⟨_, fun _ _ _ h _ => h, fun done vals w hR hcl hdk hJ hdn hd => ?_, r⟩
  simp only [OpG, wantedE, Region.wanted, if_true]
  exact OpTo.of_v (h done vals w hR hcl hdk hJ hdn hd) ⟨Keep.refl _, rfl, hj done vals w hdk hJ⟩
theorem rj_to {d : Option Tmp} {op : Op} {ty : TypeId} {p : String} {af : Array Edge} (Sk : Value → World → Prop) (hs : ∀ v w w', Sk v w → Keep K w w' → Sk v w')
    (h : ∀ done vals w, Keep K w0 w → Closed ops done → done k = false → J done vals w → (∀ j, edgeOn ⟨d, op, ty, p, af, none⟩ j = true → done j = true) → (∀ j, edgeOn ⟨d, op, ty, p, af, none⟩ j = true → S j (vals j) w) → OpTo P ⟨d, op, ty, p, af, none⟩ (envA ops vals e0 k) w (fun v w' => Keep K w w' ∧ Sk v w' ∧ J (don done k) (setv vals k v) w'))
    (r : RegJ P N ops Q K J e0 w0 l (k + 1) (setS S k Sk)) : RegJ P N ops Q K J e0 w0 (⟨d, op, ty, p, af, none⟩ :: l) k S := by
  refine ⟨Sk, hs, fun done vals w hR hcl hdk hJ hdn hd => ?_, r⟩
  simp only [OpG, wantedE, Region.wanted, if_true]
  exact h done vals w hR hcl hdk hJ hdn hd
end
theorem results_cell {fn : Func} {p : Tmp} {ty : TypeId} (h : fn.results = #[.cell p ty]) (tmps : Array Value) (P : Program) (w : World) :
    (results fn tmps).run P w = ((asAddr (tmps.getD p undef)).run P w).andThen fun a w₁ => (loadVar ty a).run P w₁ := by
  simp only [results, h]
  simp [Sem.run_bind, Result.andThen]
section
variable {P : Program} {fn : Func} {N : Nat} {e : Nat → Value} {w : World} {R : Value → World → Prop}
theorem ret1c {t : Tmp} {ty : TypeId} {n : Nat} {a : Addr} {cs : List Value} (hr : fn.results = #[.cell t ty]) (ht : t < N) (hp : e t = .pointer (some a)) (hk : kAgg P ty n = true) (hc : Pv w a cs) (hn : cs.length = n)
    (h : R (.agg cs.toArray) w) : bodyPost P fn (Ret R) .ret (FrD N e []) w := by
  have h1 : (FrD N e []).tmps.getD t undef = .pointer (some a) := by simp [FrD, Fr, Array.getD, ht, hp]
  refine ⟨rfl, .agg cs.toArray, ?_, _, rfl, h⟩
  rw [results_cell hr, h1]
  have h3 : (asAddr (.pointer (some a))).run P w = .ok a w := rfl
  rw [h3]
  simp only [Result.andThen_ok]
  rw [run_loadVarA hk hc hn]
end
section
variable {P : Program} {N : Nat} {ops : Array Oper} {Q : Exit → Act → World → Prop} {K : Nat → Prop} {e0 : Nat → Value} {w0 : World} {l : List Oper} {k : Nat} {S : Nat → Value → World → Prop}
/-- a call whose answer is known -/
theorem rt_vf {d : Option Tmp} {op : Op} {ty : TypeId} {p : String} {af : Array Edge} {t : Value}
    (h : ∀ vals w, Keep K w0 w → (∀ j, edgeOn ⟨d, op, ty, p, af, none⟩ j = true → S j (vals j) w) → OpTo P ⟨d, op, ty, p, af, none⟩ (envA ops vals e0 k) w (fun v w' => v = t ∧ Ext w w'))
    (r : RegT P N ops Q K e0 w0 l (k + 1) (setS S k (fun v _ => v = t))) : RegT P N ops Q K e0 w0 (⟨d, op, ty, p, af, none⟩ :: l) k S := by
  refine ⟨_, fun _ _ _ h _ => h, fun vals w hR hd => ?_, r⟩
  simp only [OpG, wantedE, Region.wanted, if_true]
  exact (h vals w hR hd).mono fun v w' hv => ⟨Ext.keep hv.2, hv.1⟩
theorem rt_g1f {d : Option Tmp} {op : Op} {ty : TypeId} {p : String} {af : Array Edge} {g : Nat} {b c : Bool} {tt : Tmp} {t : Value} (hg : (ops[g]?).bind (·.dst) = some tt)
    (hc : ∀ vals w, (∀ j, edgeOn ⟨d, op, ty, p, af, some (g, b)⟩ j = true → S j (vals j) w) → envA ops vals e0 k tt = .bool c)
    (h : ∀ vals w, Keep K w0 w → (∀ j, edgeOn ⟨d, op, ty, p, af, some (g, b)⟩ j = true → S j (vals j) w) → (c == b) = true → OpTo P ⟨d, op, ty, p, af, some (g, b)⟩ (envA ops vals e0 k) w (fun v w' => v = t ∧ Ext w w'))
    (r : RegT P N ops Q K e0 w0 l (k + 1) (setS S k (fun v _ => v = bif (c == b) then t else undef))) : RegT P N ops Q K e0 w0 (⟨d, op, ty, p, af, some (g, b)⟩ :: l) k S := by
  refine ⟨_, fun _ _ _ h _ => h, fun vals w hR hd => ?_, r⟩
  unfold OpG
  rw [wanted1 hg (hc vals w hd)]
  cases hcb : (c == b) with
  | true => exact (h vals w hR hd hcb).mono fun v w' hv => ⟨Ext.keep hv.2, hv.1⟩
  | false => exact ⟨Keep.refl _, rfl⟩
theorem rt_g2f {d : Option Tmp} {op : Op} {ty : TypeId} {p : String} {af : Array Edge} {g : Nat} {b c G : Bool} {tt : Tmp} {t : Value} (hg : (ops[g]?).bind (·.dst) = some tt)
    (hc : ∀ vals w, (∀ j, edgeOn ⟨d, op, ty, p, af, some (g, b)⟩ j = true → S j (vals j) w) → envA ops vals e0 k tt = bif G then .bool c else undef)
    (h : ∀ vals w, Keep K w0 w → (∀ j, edgeOn ⟨d, op, ty, p, af, some (g, b)⟩ j = true → S j (vals j) w) → (G && (c == b)) = true → OpTo P ⟨d, op, ty, p, af, some (g, b)⟩ (envA ops vals e0 k) w (fun v w' => v = t ∧ Ext w w'))
    (r : RegT P N ops Q K e0 w0 l (k + 1) (setS S k (fun v _ => v = bif (G && (c == b)) then t else undef))) : RegT P N ops Q K e0 w0 (⟨d, op, ty, p, af, some (g, b)⟩ :: l) k S := by
  refine ⟨_, fun _ _ _ h _ => h, fun vals w hR hd => ?_, r⟩
  unfold OpG
  rw [wanted2 hg (hc vals w hd)]
  cases hcb : (G && (c == b)) with
  | true => exact (h vals w hR hd hcb).mono fun v w' hv => ⟨Ext.keep hv.2, hv.1⟩
  | false => exact ⟨Keep.refl _, rfl⟩
end
section
variable {P : Program} {fn : Func} {N : Nat} {e : Nat → Value} {w : World} {R : Value → World → Prop} {v1 v2 v3 : Value}
theorem ret1v {t : Tmp} (hr : fn.results = #[.tmp t]) (ht : t < N) (h1 : e t = v1) (h : R v1 w) : bodyPost P fn (Ret R) .ret (FrD N e []) w := by subst h1; exact ret1 hr ht h
theorem ret2v {t u : Tmp} (hr : fn.results = #[.tmp t, .tmp u]) (ht : t < N) (hu : u < N) (h1 : e t = v1) (h2 : e u = v2) (h : R (.tuple #[v1, v2]) w) : bodyPost P fn (Ret R) .ret (FrD N e []) w := by subst h1 h2; exact ret2 hr ht hu h
end
section
variable {P : Program} {d : Option Tmp} {ty : TypeId} {p : String} {af : Array Edge} {g : Option (Nat × Bool)} {e : Nat → Value} {w : World} {x y : Operand}
/-- 's[:h]' -/
theorem v_slicePre {T et sz : Nat} {a : Option Addr} {n c h : Nat} {kk : IntKind} {i : Int} (hk : kSlice P T et = true) (hs : kSize P et sz = true) (hx : ev e x = .slice a n c) (hy : ev e y = .int kk i) (hi : i = (h : Nat)) (hc : h ≤ c) :
    OpVat P ⟨d, .slice T x none (some y) none, ty, p, af, g⟩ e w (.slice a h c) := by
  subst hi
  have h1 : (Instr.sliceBound (.int kk (h : Int)) c .sliceAcap).run P w = .ok h w := by
    simp [Instr.sliceBound, asIntOf]; omega
  have hb : (Instr.sliceBounds true n c none (some (.int kk (h : Int))) none).run P w = .ok (0, h, c) w := by
    unfold Instr.sliceBounds
    simp [h1]
  have hv : (if c = 0 then a else a.map (·.add (0 * sz))) = a := by
    split
    · rfl
    · cases a with
      | none => rfl
      | some q => simp [Addr.add]
  simp [OpVat, execOp, hx, hy, Instr.sliceAt, Instr.slice, run_underlying (kSlice_of hk), hb, run_sizeOf hs]
  intro _
  cases a <;> simp [add_zero]
end
theorem OwV.pre {α : Type} {t : Ty α} {e : TypeId} {w : World} {B b n c m : Nat} {F : Nat → Prop} {xs : List α} (h : OwV t e w B F (.slice (some ⟨b, 0, none⟩) n c) xs) (hm : m ≤ xs.length) : OwV t e w B F (.slice (some ⟨b, 0, none⟩) m c) (xs.take m) := by
  obtain ⟨cells, h1, h2⟩ := h
  obtain ⟨hl, h1'⟩ := h1
  rcases h1' with ⟨h0, _⟩ | ⟨g, cap, cur, hv, hB, hg, h3, h4, h5, h6⟩
  · cases h0
  · cases hv
    refine ⟨cells.take (m * t.sz), ⟨?_, .inr ⟨b, c, cur, ?_, hB, hg, ?_, h4, h5, ?_⟩⟩, fun i x hx => ?_⟩
    · rw [List.length_take, hl, List.length_take, Nat.min_eq_left hm, Nat.min_eq_left (Nat.mul_le_mul_right _ hm)]
    · rw [List.length_take, Nat.min_eq_left hm]
    · rw [List.length_take, Nat.min_eq_left hm]; omega
    · rw [List.length_take, Nat.min_eq_left hm, ← h6, List.take_take, Nat.min_eq_left (Nat.mul_le_mul_right _ hm)]
    · have hi : i < m := by have := (List.getElem?_eq_some_iff.1 hx).1; rw [List.length_take] at this; omega
      rw [List.getElem?_take_of_lt hi] at hx
      have h7 := h2 i x hx
      have he : ((cells.take (m * t.sz)).drop (i * t.sz)).take t.sz = (cells.drop (i * t.sz)).take t.sz := by
        rw [List.drop_take, List.take_take]
        have : (i + 1) * t.sz ≤ m * t.sz := Nat.mul_le_mul_right _ hi
        rw [Nat.succ_mul] at this
        rw [Nat.min_eq_left zo]
      rw [he]; exact h7
theorem OwV.one {α : Type} {t : Ty α} {e : TypeId} {w : World} {B : Nat} {F : Nat → Prop} {v : Value} {xs : List α} (h : OwV t e w B F v xs) : v.oneCell' = true := by
  obtain ⟨a, c, rfl⟩ := h.shape; rfl
theorem OwV.len_max {α : Type} {t : Ty α} {e : TypeId} {w : World} {B : Nat} {F : Nat → Prop} {v : Value} {xs : List α} (h : OwV t e w B F v xs) : xs.length ≤ 9223372036854775807 := by have := h.max; simpa [maxLen] using this
theorem OwV.cap {α : Type} {t : Ty α} {e : TypeId} {w : World} {B n c : Nat} {F : Nat → Prop} {a : Option Addr} {xs : List α} (h : OwV t e w B F (.slice a n c) xs) : xs.length ≤ c := by
  obtain ⟨cells, ⟨_, h1⟩, _⟩ := h
  rcases h1 with ⟨h0, h2⟩ | ⟨g, cap, cur, hv, hB, hg, h3, _⟩
  · omega
  · cases hv; exact h3
theorem OwV.addr {α : Type} {t : Ty α} {e : TypeId} {w : World} {B n c : Nat} {F : Nat → Prop} {a : Option Addr} {xs : List α} (h : OwV t e w B F (.slice a n c) xs) (hne : xs ≠ []) : ∃ b, a = some ⟨b, 0, none⟩ ∧ B ≤ b ∧ b < w.heap.size := by
  have h' := h
  obtain ⟨cells, ⟨_, h1⟩, _⟩ := h
  rcases h1 with ⟨h0, h2⟩ | ⟨g, cap, cur, hv, hB, hg, h3, _⟩
  · exact absurd (List.eq_nil_of_length_eq_zero h2) hne
  · cases hv; exact ⟨g, rfl, h'.own_lt rfl⟩
/-! ### an iterator over a slice -/
theorem SlV.pick {α : Type} {t : Ty α} {w : World} {F : Nat → Prop} {a : Option Addr} {n c : Nat} {xs : List α} (h : SlV t w F (.slice a n c) xs) : ∃ css : Nat → List Value, ∀ i x, xs[i]? = some x → ∃ q, a = some q ∧ F q.block ∧ q.block < w.heap.size ∧ Pv w (q.add (i * t.sz)) (css i) ∧ t.rep w F (css i) x := by
  have h1 : ∀ i, ∃ cs : List Value, ∀ x, xs[i]? = some x → ∃ q, a = some q ∧ F q.block ∧ q.block < w.heap.size ∧ Pv w (q.add (i * t.sz)) cs ∧ t.rep w F cs x := by
    intro i
    cases hx : xs[i]? with
    | none => exact ⟨[], fun x h => by cases h⟩
    | some y =>
      obtain ⟨a', c', hv, h1, h2, h3, h4⟩ := h
      cases hv
      obtain ⟨q, cs, h5, h6, h7, h8⟩ := h4 i y hx
      have hl := rep_lt h7 h8
      rw [add_block] at hl
      exact ⟨cs, fun x hh => by cases hh; exact ⟨q, h5, h6, hl, h7, h8⟩⟩
  exact ⟨fun i => Classical.choose (h1 i), fun i => Classical.choose_spec (h1 i)⟩
theorem yb {A B : Prop} {v : Value} (h : (v = .bool true ∧ A) ∨ (v = .bool false ∧ B)) : ∃ b, v = .bool b ∧ (b = true → A) ∧ (b = false → B) := by
  rcases h with ⟨h, a⟩ | ⟨h, a⟩
  · exact ⟨true, h, (fun _ => a), (fun h => by cases h)⟩
  · exact ⟨false, h, (fun h => by cases h), (fun _ => a)⟩
theorem setAt_all {cs0 cs : List Value} (h : cs0.length = cs.length) : setAt cs0 0 cs = cs := by
  simp [setAt, ← h]
end Go.Vc

namespace Go.Vc
set_option linter.unusedVariables false
set_option linter.unusedSimpArgs false
/-! ### a region of any order, cut where all that follows comes after all that went before -/
def bnd (o : Oper) : List Nat := o.after.toList.filterMap fun e => if Region.binds .any e then some e.on else none
theorem cnt_top (f : Nat → Bool) : ∀ n, cnt f n ≤ n
  | 0 => Nat.le_refl _
  | n + 1 => by have := cnt_top f n; simp only [cnt]; split <;> omega
theorem bnd_iff {o : Oper} {j : Nat} : j ∈ bnd o ↔ ∃ e, e ∈ o.after ∧ Region.binds .any e = true ∧ e.on = j := by
  simp only [bnd, List.mem_filterMap]
  constructor
  · rintro ⟨e, he, h⟩
    split at h
    · rename_i hb; cases h; exact ⟨e, by simpa using he, hb, rfl⟩
    · cases h
  · rintro ⟨e, he, hb, rfl⟩
    exact ⟨e, by simpa using he, by rw [hb]; rfl⟩
def rowOf (rows : List Nat) (o : Oper) : Nat := (bnd o).foldl (fun acc j => Nat.lor acc (Nat.lor (rows.getD j 0) (2 ^ j))) 0
def clo (ops : Array Oper) : Nat → List Nat
  | 0 => []
  | n + 1 => let r := clo ops n
             r ++ [match ops[n]? with | some o => rowOf r o | none => 0]
theorem clo_len (ops : Array Oper) : ∀ n, (clo ops n).length = n
  | 0 => rfl
  | n + 1 => by simp [clo, clo_len ops n]
theorem clo_at {ops : Array Oper} : ∀ n k, k < n → ∀ o, ops[k]? = some o → (clo ops n).getD k 0 = rowOf (clo ops k) o
  | 0, k, h, _, _ => by omega
  | n + 1, k, h, o, ho => by
    by_cases hk : k = n
    · subst hk
      simp only [clo, List.getD_eq_getElem?_getD]
      rw [List.getElem?_append_right (by rw [clo_len]; omega), clo_len]
      simp [ho]
    · have ih := clo_at n k zo o ho
      rw [← ih]
      simp only [clo, List.getD_eq_getElem?_getD]
      rw [List.getElem?_append_left (by rw [clo_len]; omega)]
theorem foldl_bit (rows : List Nat) (t : Nat) : ∀ (l : List Nat) (acc : Nat), (l.foldl (fun acc j => Nat.lor acc (Nat.lor (rows.getD j 0) (2 ^ j))) acc).testBit t = true → acc.testBit t = true ∨ ∃ j ∈ l, (rows.getD j 0).testBit t = true ∨ j = t
  | [], acc, h => .inl h
  | j :: l, acc, h => by
    rcases foldl_bit rows t l _ h with h1 | ⟨i, hi, h1⟩
    · have h2 : (acc ||| ((rows.getD j 0) ||| (2 ^ j))).testBit t = true := h1
      rw [Nat.testBit_or, Nat.testBit_or, Nat.testBit_two_pow] at h2
      simp only [Bool.or_eq_true, decide_eq_true_eq] at h2
      rcases h2 with h2 | h2 | h2
      · exact .inl h2
      · exact .inr ⟨j, List.mem_cons_self, .inl h2⟩
      · exact .inr ⟨j, List.mem_cons_self, .inr h2⟩
    · exact .inr ⟨i, List.mem_cons_of_mem _ hi, h1⟩
def barB (ops : Array Oper) (m : Nat) : Bool :=
  let r := clo ops ops.size
  (List.range ops.size).all fun k => Nat.blt k m || Nat.beq (Nat.land (r.getD k 0) (2 ^ m - 1)) (2 ^ m - 1)
theorem clo_sound {ops : Array Oper} (hok : okR ops = true) {L : Nat → Prop} (hL : ∀ j oj, L j → ops[j]? = some oj → ∀ i ∈ bnd oj, L i) : ∀ k o, ops[k]? = some o → (∀ i ∈ bnd o, L i) → ∀ t, ((clo ops ops.size).getD k 0).testBit t = true → L t := by
  intro k
  induction k using Nat.strongRecOn with
  | ind k ih =>
    intro o ho hd t ht
    have hlt : k < ops.size := (Array.getElem?_eq_some_iff.1 ho).1
    rw [clo_at ops.size k hlt o ho] at ht
    rcases foldl_bit _ t _ _ ht with h | ⟨j, hj, h⟩
    · simp at h
    · have hjk : j < k := by
        obtain ⟨e, he, hb, rfl⟩ := bnd_iff.1 hj
        exact okR_edges hok ho e he hb
      rcases h with h | rfl
      · obtain ⟨oj, hoj⟩ : ∃ oj, ops[j]? = some oj := ⟨ops[j], by simp [show j < ops.size by omega]⟩
        refine ih j hjk oj hoj (hL j oj (hd j hj) hoj) t ?_
        rw [clo_at ops.size j zo oj hoj]
        rwa [clo_at k j hjk oj hoj] at h
      · exact hd j hj
theorem barB_sound {ops : Array Oper} {m : Nat} (hok : okR ops = true) (hb : barB ops m = true) {L : Nat → Prop} (hL : ∀ j oj, L j → ops[j]? = some oj → ∀ i ∈ bnd oj, L i) {k : Nat} {o : Oper} (ho : ops[k]? = some o) (hkm : m ≤ k) (hd : ∀ i ∈ bnd o, L i) : ∀ t, t < m → L t := by
  intro t ht
  have hlt : k < ops.size := (Array.getElem?_eq_some_iff.1 ho).1
  have h1 := List.all_eq_true.1 hb k (List.mem_range.2 hlt)
  have h2 : Nat.blt k m = false := by
    cases h : Nat.blt k m with
    | false => rfl
    | true => have : k + 1 ≤ m := by simpa [Nat.blt] using h
              omega
  rw [h2, Bool.false_or] at h1
  have h3 : ((clo ops ops.size).getD k 0 &&& (2 ^ m - 1)) = 2 ^ m - 1 := Nat.eq_of_beq_eq_true h1
  have h4 := congrArg (fun x => Nat.testBit x t) h3
  simp only [Nat.testBit_and, Nat.testBit_two_pow_sub_one, ht, decide_true, Bool.and_true] at h4
  exact clo_sound hok hL k o ho hd t h4
theorem getD_set {L : Array Bool} {i j : Nat} {d : Bool} (h : i < L.size) : (L.setIfInBounds i true).getD j d = if j = i then true else L.getD j d := by
  by_cases hji : j = i
  · subst hji; simp [Array.getD, h]
  · by_cases hlt : j < L.size
    · simp [Array.getD, hlt, hji, Ne.symm hji]
    · simp [Array.getD, hlt, hji]
def shE (m : Nat) (e : Edge) : Option Edge := if Nat.blt e.on m then none else some { e with on := e.on - m }
def shO (m : Nat) (o : Oper) : Oper := { o with after := (o.after.toList.filterMap (shE m)).toArray, guard := o.guard.map fun g => (g.1 - m, g.2) }
/-- no guard of the later part is in the earlier one, and the other way round -/
def gB (m : Nat) (l1 l2 : List Oper) : Bool := (l1.all fun o => match o.guard with | none => true | some g => Nat.blt g.1 m) && (l2.all fun o => match o.guard with | none => true | some g => Nat.ble m g.1)
section
variable {ro : Option Nat} {n : Nat} {P : Program} {Q : Exit → Act → World → Prop}
theorem wpAnyIn_more {F : Fence} {md : Region.Mode} {ops : Array Oper} : ∀ (f f' : Nat) (L : Array Bool) (a : Act) (w : World), f ≤ f' → wpAnyIn F n P md ops Q f L a w → wpAnyIn F n P md ops Q f' L a w
  | 0, 0, _, _, _, _, h => h
  | 0, f' + 1, L, a, w, _, h => ⟨fun _ => h.2, fun i hi => by rw [h.1] at hi; cases hi⟩
  | f + 1, 0, _, _, _, h0, _ => by omega
  | f + 1, f' + 1, L, a, w, h0, h => ⟨h.1, fun i hi => by
      have h1 := h.2 i hi
      unfold wpOpIn at h1 ⊢
      split
      · rename_i ho; rw [ho] at h1; exact wpAnyIn_more f f' _ _ _ zo h1
      · rename_i o ho
        rw [ho] at h1
        simp only [] at h1
        split
        · rename_i hw; rw [if_pos hw] at h1; exact Oper.wpIn_mono (fun a w h => wpAnyIn_more f f' _ a w zo h) h1
        · rename_i hw; rw [if_neg hw] at h1; exact ⟨h1.1, wpAnyIn_more f f' _ _ _ zo h1.2⟩⟩
theorem wpIn_thenQ {F : Fence} {o : Oper} {a : Act} {w : World} {K M : Act → World → Prop} (h : o.wpIn F n P a w K (Exit.then M Q)) : o.wpIn F n P a w K Q := by
  unfold Oper.wpIn at *
  refine ⟨h.1, ?_⟩
  have h2 := h.2
  generalize (o.semAt F.round a.eval).run P w = r at *
  revert h2
  unfold Oper.uponIn
  split
  · exact id
  · exact id
  · exact id
  · rintro ⟨h3, h4⟩
    refine ⟨h3, h4.mono fun e w' he => ?_⟩
    cases e with
    | returned v => exact he
    | panicked c => exact he
    | outgrown => obtain ⟨a', w'', h⟩ := he; exact ⟨a', w'', h⟩
  · exact id
  · rintro ⟨h3, h4⟩
    refine ⟨h3, h4.mono fun e w' he => ?_⟩
    cases e with
    | returned v => exact he
    | panicked c => exact he
    | outgrown => obtain ⟨a', w'', h⟩ := he; exact ⟨a', w'', h⟩
  · exact id
  · exact id
theorem wanted_shO {m : Nat} {ops Bs : Array Oper} {o : Oper} {tmps : Array Value} (hB : ∀ j, Bs[j]? = (ops[m + j]?).map (shO m)) (hg : match o.guard with | none => True | some g => m ≤ g.1) : Region.wanted (shO m o) (yielded Bs tmps) = Region.wanted o (yielded ops tmps) := by
  cases hgd : o.guard with
  | none => simp [Region.wanted, shO, hgd]
  | some g =>
    obtain ⟨i, b⟩ := g
    rw [hgd] at hg
    have hm : m + (i - m) = i := by omega
    have hy : yielded Bs tmps (i - m) = yielded ops tmps i := by
      unfold yielded
      have : ((Bs[i - m]?).bind (·.dst)) = ((ops[i]?).bind (·.dst)) := by
        rw [hB, hm]; cases ops[i]? <;> rfl
      rw [this]
    simp [Region.wanted, shO, hgd, hy]
theorem phB {m : Nat} {ops Bs : Array Oper} (hs : ops.size = m + Bs.size) (hB : ∀ j, Bs[j]? = (ops[m + j]?).map (shO m)) (hg : ∀ j o, ops[m + j]? = some o → match o.guard with | none => True | some g => m ≤ g.1) :
    ∀ (f : Nat) (L lB : Array Bool) (a : Act) (w : World), L.size = ops.size → lB.size = Bs.size → (∀ i, i < m → L.getD i true = true) → (∀ j d, j < Bs.size → L.getD (m + j) d = lB.getD j d) →
      wpAnyIn (Fw ro) n P .any Bs Q f lB a w → wpAnyIn (Fw ro) n P .any ops Q f L a w := by
  have rdy : ∀ (L lB : Array Bool), L.size = ops.size → lB.size = Bs.size → (∀ i, i < m → L.getD i true = true) → (∀ j d, j < Bs.size → L.getD (m + j) d = lB.getD j d) → ∀ i, i ∈ Region.ready .any ops L → ∃ j o, i = m + j ∧ j < Bs.size ∧ ops[m + j]? = some o ∧ j ∈ Region.ready .any Bs lB := by
    intro L lB h1 h2 h3 h4 i hi
    obtain ⟨hu, o, ho, hd⟩ := mem_ready.1 hi
    have hlt : i < ops.size := (Array.getElem?_eq_some_iff.1 ho).1
    have him : m ≤ i := by
      rcases Nat.lt_or_ge i m with h | h
      · rw [h3 i h] at hu; cases hu
      · exact h
    obtain ⟨j, rfl⟩ : ∃ j, i = m + j := ⟨i - m, by omega⟩
    refine ⟨j, o, rfl, by omega, ho, mem_ready.2 ⟨by rw [← h4 j true zo]; exact hu, shO m o, by rw [hB, ho]; rfl, fun e he hb => ?_⟩⟩
    simp only [shO, List.mem_toArray, List.mem_filterMap] at he
    obtain ⟨e0, he0, hs0⟩ := he
    unfold shE at hs0
    split at hs0
    · cases hs0
    · rename_i hge
      have hge' : m ≤ e0.on := by
        rcases Nat.lt_or_ge e0.on m with h | h
        · exact absurd (by simpa [Nat.blt] using (show e0.on + 1 ≤ m from h)) hge
        · exact h
      cases hs0
      have := hd e0 (by simpa using he0) (by simpa [Region.binds] using hb)
      have hlt2 : e0.on < ops.size := by
        rcases Nat.lt_or_ge e0.on ops.size with h | h
        · exact h
        · have : L.getD e0.on false = false := by simp [Array.getD, show ¬ e0.on < L.size by omega]
          simp_all
      have h5 := h4 (e0.on - m) false zo
      rw [show m + (e0.on - m) = e0.on by omega] at h5
      simp only []
      rw [← h5]; exact this
  intro f
  induction f with
  | zero =>
    intro L lB a w h1 h2 h3 h4 h
    refine ⟨?_, h.2⟩
    cases hr : Region.ready .any ops L with
    | nil => rfl
    | cons i l =>
      obtain ⟨j, o, _, _, _, hj⟩ := rdy L lB h1 h2 h3 h4 i (by rw [hr]; exact List.mem_cons_self)
      rw [h.1] at hj; cases hj
  | succ f ih =>
    intro L lB a w h1 h2 h3 h4 h
    refine ⟨fun hn => ?_, fun i hi => ?_⟩
    · refine h.1 ?_
      cases hr : Region.ready .any Bs lB with
      | nil => rfl
      | cons j l =>
        obtain ⟨hu, o', ho', hd⟩ := mem_ready.1 (show j ∈ Region.ready .any Bs lB by rw [hr]; exact List.mem_cons_self)
        have hjB : j < Bs.size := (Array.getElem?_eq_some_iff.1 ho').1
        rw [hB] at ho'
        cases ho : ops[m + j]? with
        | none => rw [ho] at ho'; cases ho'
        | some o =>
          rw [ho] at ho'; cases ho'
          have : m + j ∈ Region.ready .any ops L := mem_ready.2 ⟨by rw [h4 j true hjB]; exact hu, o, ho, fun e he hb => by
            rcases Nat.lt_or_ge e.on m with h5 | h5
            · have h6 := h3 e.on h5
              have h7 : e.on < L.size := by omega
              simp only [Array.getD, h7, dif_pos] at h6 ⊢; exact h6
            · have h6 := hd { e with on := e.on - m } (by
                simp only [shO, List.mem_toArray, List.mem_filterMap]
                refine ⟨e, by simpa using he, ?_⟩
                unfold shE
                have : Nat.blt e.on m = false := by
                  cases hh : Nat.blt e.on m with
                  | false => rfl
                  | true => have : e.on + 1 ≤ m := by simpa [Nat.blt] using hh
                            omega
                rw [this]; rfl) (by simpa [Region.binds] using hb)
              simp only [] at h6
              have h7 : e.on - m < Bs.size := by
                rcases Nat.lt_or_ge (e.on - m) Bs.size with h | h
                · exact h
                · have : lB.getD (e.on - m) false = false := by simp [Array.getD, show ¬ e.on - m < lB.size by omega]
                  simp_all
              have h8 := h4 (e.on - m) false h7
              rw [show m + (e.on - m) = e.on by omega] at h8
              rw [h8]; exact h6⟩
          rw [hn] at this; cases this
    · obtain ⟨j, o, rfl, hjB, ho, hj⟩ := rdy L lB h1 h2 h3 h4 i hi
      have h5 := h.2 j hj
      unfold wpOpIn at h5 ⊢
      have hoB : Bs[j]? = some (shO m o) := by rw [hB, ho]; rfl
      rw [hoB] at h5
      rw [ho]
      simp only [] at h5 ⊢
      rw [wanted_shO hB (hg j o ho)] at h5
      have nxt : ∀ a w, wpAnyIn (Fw ro) n P .any Bs Q f (lB.setIfInBounds j true) a w → wpAnyIn (Fw ro) n P .any ops Q f (L.setIfInBounds (m + j) true) a w := fun a w h6 =>
        ih _ _ a w (by simpa using h1) (by simpa using h2) (fun i hi => by
          rw [getD_set zo, if_neg zo]; exact h3 i hi) (fun i d hi => by
          rw [getD_set zo, getD_set zo]
          by_cases hij : i = j
          · subst hij; simp
          · rw [if_neg zo, if_neg hij]; exact h4 i d hi) h6
      split
      · rename_i hw; rw [if_pos hw] at h5; exact Oper.wpIn_mono nxt h5
      · rename_i hw; rw [if_neg hw] at h5; exact ⟨h5.1, nxt _ _ h5.2⟩
theorem phA {m : Nat} {ops As Bs : Array Oper} (hok : okR ops = true) (hbar : barB ops m = true) (hA : As.size = m) (hs : ops.size = m + Bs.size) (hAt : ∀ j, j < m → As[j]? = ops[j]?) (hB : ∀ j, Bs[j]? = (ops[m + j]?).map (shO m))
    (hg : ∀ j o, ops[m + j]? = some o → match o.guard with | none => True | some g => m ≤ g.1) (hgA : ∀ j o, j < m → ops[j]? = some o → match o.guard with | none => True | some g => g.1 < m) :
    ∀ (fA : Nat) (lA L : Array Bool) (a : Act) (w : World) (f : Nat), lA.size = m → L.size = ops.size → (∀ i d, i < m → L.getD i d = lA.getD i d) → (∀ i d, m ≤ i → i < ops.size → L.getD i d = false) →
      (∀ j oj, L.getD j false = true → ops[j]? = some oj → ∀ i ∈ bnd oj, L.getD i false = true) → cnt (fun i => !lA.getD i true) m ≤ fA → fA + Bs.size ≤ f →
      wpAnyIn (Fw ro) n P .any As (Exit.then (wpR ro n P Bs Q) Q) fA lA a w → wpAnyIn (Fw ro) n P .any ops Q f L a w := by
  have edge : ∀ (j : Nat) (o : Oper), ops[j]? = some o → ∀ i ∈ bnd o, i < j := fun j o ho i hi => by
    obtain ⟨e, he, hb, rfl⟩ := bnd_iff.1 hi
    exact okR_edges hok ho e he hb
  intro fA
  induction fA with
  | zero =>
    intro lA L a w f h1 h2 h3 h4 h5 hc hf h
    have hall := cnt_zero m (Nat.le_zero.1 hc)
    exact phB hs hB hg f L (Array.replicate Bs.size false) a w h2 (by simp) (fun i hi => by rw [h3 i true hi]; have := hall i hi; simpa using this) (fun j d hj => by rw [h4 (m + j) d zo zo]; simp [Array.getD, hj]) (wpAnyIn_more _ f _ a w zo h.2)
  | succ fA ih =>
    intro lA L a w f h1 h2 h3 h4 h5 hc hf h
    by_cases hall : ∀ i, i < m → lA.getD i true = true
    · have hn : Region.ready .any As lA = [] := by
        cases hr : Region.ready .any As lA with
        | nil => rfl
        | cons i l =>
          obtain ⟨hu, o, ho, _⟩ := mem_ready.1 (show i ∈ Region.ready .any As lA by rw [hr]; exact List.mem_cons_self)
          have : i < m := by rw [← hA]; exact (Array.getElem?_eq_some_iff.1 ho).1
          rw [hall i this] at hu; cases hu
      exact phB hs hB hg f L (Array.replicate Bs.size false) a w h2 (by simp) (fun i hi => by rw [h3 i true hi]; exact hall i hi) (fun j d hj => by rw [h4 (m + j) d zo zo]; simp [Array.getD, hj]) (wpAnyIn_more _ f _ a w zo (h.1 hn))
    · obtain ⟨f, rfl⟩ : ∃ f', f = f' + 1 := ⟨f - 1, by omega⟩
      have hex : ∃ i, i < m ∧ (fun i => !lA.getD i true) i = true := by
        apply Classical.byContradiction
        intro hne
        refine hall fun i hi => ?_
        cases hh : lA.getD i true with
        | true => rfl
        | false => exact absurd ⟨i, hi, by simp only [hh]; rfl⟩ hne
      refine ⟨fun hn => ?_, fun i hi => ?_⟩
      · obtain ⟨k, hk, hfk, hmin⟩ := least m hex
        obtain ⟨o, ho⟩ : ∃ o, ops[k]? = some o := ⟨ops[k], by simp [show k < ops.size by omega]⟩
        have : k ∈ Region.ready .any ops L := mem_ready.2 ⟨by rw [h3 k true hk]; simpa using hfk, o, ho, fun e he hb => by
          have hlt := okR_edges hok ho e he hb
          have h6 := hmin e.on hlt
          have h7 : lA.getD e.on true = true := by simpa using h6
          rw [h3 e.on false zo]
          have h8 : e.on < lA.size := by omega
          simp only [Array.getD, h8, dif_pos] at h7 ⊢
          exact h7⟩
        rw [hn] at this; cases this
      · obtain ⟨hu, o, ho, hd⟩ := mem_ready.1 hi
        have hilt : i < ops.size := (Array.getElem?_eq_some_iff.1 ho).1
        have hd' : ∀ j ∈ bnd o, L.getD j false = true := fun j hj => by
          obtain ⟨e, he, hb, rfl⟩ := bnd_iff.1 hj
          exact hd e he hb
        have him : i < m := by
          rcases Nat.lt_or_ge i m with h6 | h6
          · exact h6
          · exfalso
            refine hall fun t ht => ?_
            have := barB_sound hok hbar (L := fun j => L.getD j false = true) h5 ho h6 hd' t ht
            rw [h3 t false ht] at this
            have h8 : t < lA.size := by omega
            simp only [Array.getD, h8, dif_pos] at this ⊢
            exact this
        have hoA : As[i]? = some o := by rw [hAt i him, ho]
        have hiA : i ∈ Region.ready .any As lA := mem_ready.2 ⟨by rw [← h3 i true him]; exact hu, o, hoA, fun e he hb => by
          have hlt := okR_edges hok ho e he hb
          rw [← h3 e.on false zo]; exact hd e he hb⟩
        have h6 := h.2 i hiA
        unfold wpOpIn at h6 ⊢
        rw [hoA] at h6
        rw [ho]
        simp only [] at h6 ⊢
        have hwt : Region.wanted o (yielded As a.tmps) = Region.wanted o (yielded ops a.tmps) := by
          have hgg := hgA i o him ho
          unfold Region.wanted
          cases hgd : o.guard with
          | none => rfl
          | some g =>
            rw [hgd] at hgg
            simp only []
            have : yielded As a.tmps g.1 = yielded ops a.tmps g.1 := by unfold yielded; rw [hAt g.1 hgg]
            rw [this]
        rw [hwt] at h6
        have nxt : ∀ a w, wpAnyIn (Fw ro) n P .any As (Exit.then (wpR ro n P Bs Q) Q) fA (lA.setIfInBounds i true) a w → wpAnyIn (Fw ro) n P .any ops Q f (L.setIfInBounds i true) a w := fun a w h7 => by
          refine ih _ _ a w f (by simpa using h1) (by simpa using h2) (fun j d hj => ?_) (fun j d hj hj2 => ?_) (fun j oj hj hoj k hk => ?_) ?_ zo h7
          · rw [getD_set zo, getD_set zo, h3 j d hj]
          · rw [getD_set zo, if_neg zo]; exact h4 j d hj hj2
          · rw [getD_set zo] at hj ⊢
            by_cases hji : j = i
            · subst hji
              rw [ho] at hoj; cases hoj
              split
              · rfl
              · exact hd' k hk
            · rw [if_neg hji] at hj
              split
              · rfl
              · exact h5 j oj hj hoj k hk
          · have h8 : lA.getD i true = false := by rw [← h3 i true him]; exact hu
            have := cnt_lt (f := fun i => !lA.getD i true) (g := fun j => !(lA.setIfInBounds i true).getD j true) (i := i) (fun j hj => by
              rw [getD_set zo] at hj
              by_cases hji : j = i
              · simp [hji] at hj
              · simpa [hji] using hj) (by simp only [h8]; rfl) (by rw [getD_set zo]; simp) m him
            omega
        split
        · rename_i hw; rw [if_pos hw] at h6; exact Oper.wpIn_mono nxt (wpIn_thenQ h6)
        · rename_i hw; rw [if_neg hw] at h6; exact ⟨h6.1, nxt _ _ h6.2⟩
/-- the cut -/
theorem r_cut {l : List Oper} {a : Act} {w : World} (m : Nat) (hm : Nat.ble m l.length = true) (hok : okR l.toArray = true) (hbar : barB l.toArray m = true) (hg : gB m (l.take m) (l.drop m) = true)
    (h : wpR ro n P (l.take m).toArray (Exit.then (wpR ro n P ((l.drop m).map (shO m)).toArray Q) Q) a w) : wpR ro n P l.toArray Q a w := by
  have hm' : m ≤ l.length := Nat.le_of_ble_eq_true hm
  simp only [gB, Bool.and_eq_true] at hg
  have hsz : (l.take m).length = m := by simp; omega
  refine phA (ops := l.toArray) (As := (l.take m).toArray) (Bs := ((l.drop m).map (shO m)).toArray) hok hbar (by simpa using hsz) (by simp; omega) (fun j hj => by simp [List.getElem?_take_of_lt hj]) (fun j => by simp) (fun j o ho => ?_) (fun j o hj ho => ?_)
    m (Array.replicate (l.take m).toArray.size false) (Array.replicate l.toArray.size false) a w l.toArray.size (by simp; omega) (by simp) (fun i d hi => ?_) (fun i d hi hi2 => ?_) (fun j oj hj _ => ?_) (cnt_top _ _) ?_ (by simpa [wpR, hsz, Nat.min_eq_left hm'] using h)
  · have := List.all_eq_true.1 hg.2 o (List.mem_of_getElem? (i := j) (by simpa using ho))
    cases hgd : o.guard with
    | none => trivial
    | some g => rw [hgd] at this; exact Nat.le_of_ble_eq_true this
  · have := List.all_eq_true.1 hg.1 o (List.mem_of_getElem? (i := j) (by simpa [List.getElem?_take_of_lt hj] using ho))
    cases hgd : o.guard with
    | none => trivial
    | some g => rw [hgd] at this; have h2 : g.1 + 1 ≤ m := by simpa [Nat.blt] using this
                exact h2
  · have h1 : i < l.length := by omega
    have h2 : i < (l.take m).length := by omega
    simp [Array.getD, h1, h2, hi]
    intro h3; omega
  · have h1 : i < l.length := by simpa using hi2
    simp [Array.getD, h1]
  · exfalso
    by_cases h1 : j < l.length
    · simp [Array.getD, h1] at hj
    · simp [Array.getD, h1] at hj
  · simp; omega
theorem wp_any {id : Nat} {ops : Array Oper} {a : Act} {w : World} (hm : P.follows .mixedOrders = true) (h : wpR ro n P ops Q a { w with drawn := w.drawn + 1 }) : (Code.region id ops true).wpIn (Fw ro) n P Q a w := wpIn_region_any hm h
/-- one operation alone -/
theorem r_one {N : Nat} {ds : List Deferred} {o : Oper} {e : Nat → Value} {w : World} (hl : opsLt N #[o] = true) (hb : bnd o = []) (h : wpL P N #[o] (Qd ds Q) [o] e w) : wpR ro n P #[o] Q (FrD N e ds) w := by
  have h1 := wpL_sound (ro := ro) (n := n) hl [o] (by simpa [opsLt] using hl) e w h
  have hrd : ∀ (L : Array Bool), L.size = 1 → ∀ i, i ∈ Region.ready .any #[o] L → i = 0 ∧ L.getD 0 true = false := fun L hL i hi => by
    obtain ⟨hu, o', ho, _⟩ := mem_ready.1 hi
    have := (Array.getElem?_eq_some_iff.1 ho).1
    have : i = 0 := by simpa using this
    subst this; exact ⟨rfl, hu⟩
  have fin : ∀ a w, Q .normal a w → wpAnyIn (Fw ro) n P .any #[o] Q 0 ((Array.replicate 1 false).setIfInBounds 0 true) a w := fun a w hq => by
    refine ⟨?_, hq⟩
    cases hr : Region.ready .any #[o] ((Array.replicate 1 false).setIfInBounds 0 true) with
    | nil => rfl
    | cons i l =>
      obtain ⟨_, h2⟩ := hrd ((Array.replicate 1 false).setIfInBounds 0 true) (by simp) i (by rw [hr]; exact List.mem_cons_self)
      simp [Array.getD] at h2
  refine ⟨fun hn => ?_, fun i hi => ?_⟩
  · exfalso
    have : 0 ∈ Region.ready .any #[o] (Array.replicate 1 false) := mem_ready.2 ⟨by simp [Array.getD], o, rfl, fun e he hbb => by
      have : e.on ∈ bnd o := bnd_iff.2 ⟨e, he, hbb, rfl⟩
      rw [hb] at this; cases this⟩
    have h2 : Region.ready .any #[o] (Array.replicate 1 false) = [] := hn
    rw [h2] at this; cases this
  · obtain ⟨rfl, _⟩ := hrd _ (by simp) i hi
    unfold wpOpIn
    rw [show (#[o] : Array Oper)[0]? = some o from rfl]
    dsimp only
    unfold wpListIn at h1
    split
    · rename_i hw
      rw [if_pos hw] at h1
      exact Oper.wpIn_mono (fun a w hq => fin a w (by simpa [wpListIn] using hq)) h1
    · rename_i hw
      rw [if_neg hw] at h1
      exact ⟨h1.1, fin _ _ (by simpa [wpListIn] using h1.2)⟩
end
end Go.Vc

namespace Go.Vc
set_option linter.unusedVariables false
set_option linter.unusedSimpArgs false
/-! ### new variables, and what is stored in them, in a region of any order -/
/-- al: the operation that makes it; st: the one that stores; z, c: its cells ahead of that, and behind -/
structure AlE where
  al : Nat
  st : Option Nat
  T : TypeId
  z : List Value
  c : List Value
def stD (done : Nat → Bool) (a : AlE) : Bool := match a.st with
  | some s => done s
  | none => false
def AlJ (n0 : Nat) (as : List AlE) (done : Nat → Bool) (vals : Nat → Value) (w : World) : Prop :=
  (∀ a ∈ as, done a.al = true → ∃ b, vals a.al = .pointer (some ⟨b, 0, none⟩) ∧ n0 ≤ b ∧ Blk w b (bif stD done a then a.c else a.z) a.T) ∧
  (∀ a ∈ as, ∀ a' ∈ as, a.al ≠ a'.al → done a.al = true → done a'.al = true → vals a.al ≠ vals a'.al) ∧ n0 ≤ w.heap.size
def dAl (as : List AlE) (i : Nat) : Bool := as.any fun a => Nat.beq a.al i || (match a.st with | some s => Nat.beq s i | none => false)
theorem dAl_al {as : List AlE} {a : AlE} (h : a ∈ as) : dAl as a.al = true := List.any_eq_true.2 ⟨a, h, by simp⟩
theorem dAl_st {as : List AlE} {a : AlE} {s : Nat} (h : a ∈ as) (hs : a.st = some s) : dAl as s = true := List.any_eq_true.2 ⟨a, h, by simp [hs]⟩
section
variable {n0 : Nat} {as : List AlE} {done : Nat → Bool} {vals : Nat → Value} {w w' : World}
theorem AlJ.on : JOn (dAl as) (AlJ n0 as) := by
  rintro done vals done' vals' w h ⟨h1, h2, h3⟩
  have hst : ∀ a ∈ as, stD done a = stD done' a := fun a ha => by
    unfold stD
    cases hs : a.st with
    | none => rfl
    | some s => exact (h s (dAl_st ha hs)).1
  refine ⟨fun a ha hd => ?_, fun a ha a' ha' hne hd hd' => ?_, h3⟩
  · have h4 := h a.al (dAl_al ha)
    rw [← h4.1] at hd
    rw [← h4.2, ← hst a ha]; exact h1 a ha hd
  · have h4 := h a.al (dAl_al ha)
    have h5 := h a'.al (dAl_al ha')
    rw [← h4.2, ← h5.2]
    exact h2 a ha a' ha' hne (by rw [h4.1]; exact hd) (by rw [h5.1]; exact hd')
theorem AlJ.ext (j : AlJ n0 as done vals w) (e : Ext w w') : AlJ n0 as done vals w' := by
  obtain ⟨h1, h2, h3⟩ := j
  exact ⟨fun a ha hd => by obtain ⟨b, hb, hn, hB⟩ := h1 a ha hd; exact ⟨b, hb, hn, hB.ext e⟩, h2, Nat.le_trans h3 e.size⟩
theorem AlJ.start (h : n0 ≤ w.heap.size) (hd : ∀ a ∈ as, done a.al = false) : AlJ n0 as done vals w := by
  refine ⟨fun a ha h => ?_, fun a ha a' ha' _ h _ => ?_, h⟩
  · rw [hd a ha] at h; cases h
  · rw [hd a ha] at h; cases h
/-- what neither makes nor stores -/
theorem AlJ.src {k : Nat} {v : Value} (j : AlJ n0 as done vals w) (e : Ext w w') (hk : dAl as k = false) : AlJ n0 as (don done k) (setv vals k v) w' := AlJ.on.step hk (j.ext e)
theorem AlJ.al {ops : Array Oper} {i k b : Nat} {a : AlE} (j : AlJ n0 as done vals w) (hi : as[i]? = some a) (hk : a.al = k) (hd : done k = false) (hcl : Closed ops done)
    (hone : ∀ m a', as[m]? = some a' → a'.al = k → m = i) (hst : ∀ a' ∈ as, a'.st ≠ some k) (hs : ∀ s, a.st = some s → ∃ o, ops[s]? = some o ∧ edgeOn o k = true)
    (hb : b = w.heap.size) (hB : Blk w' b a.z a.T) (e : Ext w w') : AlJ n0 as (don done k) (setv vals k (.pointer (some ⟨b, 0, none⟩))) w' := by
  obtain ⟨h1, h2, h3⟩ := j
  have hns : stD done a = false := by
    unfold stD
    cases hh : a.st with
    | none => rfl
    | some s =>
      obtain ⟨o, ho, he⟩ := hs s hh
      cases hds : done s with
      | false => exact hds
      | true => have := hcl s o hds ho k he; rw [hd] at this; cases this
  have hstd : ∀ a' ∈ as, stD (don done k) a' = stD done a' := fun a' ha' => by
    unfold stD
    cases hh : a'.st with
    | none => rfl
    | some s =>
      have : s ≠ k := fun he => hst a' ha' (by rw [hh, he])
      simp [don, this]
  have hoth : ∀ a' ∈ as, a'.al ≠ k → don done k a'.al = true → done a'.al = true := fun a' _ hne h => by simpa [don, hne] using h
  have hlt : ∀ a' ∈ as, a'.al ≠ k → done a'.al = true → vals a'.al ≠ .pointer (some ⟨b, 0, none⟩) := fun a' ha' hne hda he => by
    obtain ⟨b', hb', _, hB'⟩ := h1 a' ha' hda
    rw [he] at hb'; cases hb'
    have := hB'.lt; omega
  refine ⟨fun a' ha' hda => ?_, fun a1 ha1 a2 ha2 hne hd1 hd2 => ?_, Nat.le_trans h3 e.size⟩
  · rw [hstd a' ha']
    by_cases hak : a'.al = k
    · obtain ⟨m, hm⟩ := List.mem_iff_getElem?.1 ha'
      have := hone m a' hm hak
      subst this
      rw [hi] at hm; cases hm
      refine ⟨b, by simp [setv, hak], by omega, ?_⟩
      rw [hns]; exact hB
    · obtain ⟨b', hb', hn, hB'⟩ := h1 a' ha' (hoth a' ha' hak hda)
      exact ⟨b', by simp [setv, hak]; exact hb', hn, hB'.ext e⟩
  · by_cases h1k : a1.al = k
    · have h2k : a2.al ≠ k := fun h => hne (by rw [h1k, h])
      simp only [setv, h1k, if_true, if_neg h2k]
      exact fun h => hlt a2 ha2 h2k (hoth a2 ha2 h2k hd2) h.symm
    · by_cases h2k : a2.al = k
      · simp only [setv, h2k, if_true, if_neg h1k]
        exact hlt a1 ha1 h1k (hoth a1 ha1 h1k hd1)
      · simp only [setv, if_neg h1k, if_neg h2k]
        exact h2 a1 ha1 a2 ha2 hne (hoth a1 ha1 h1k hd1) (hoth a2 ha2 h2k hd2)
/-- ahead of the store -/
theorem AlJ.at {i k : Nat} {a : AlE} (j : AlJ n0 as done vals w) (hi : as[i]? = some a) (hs : a.st = some k) (hd : done k = false) (hal : done a.al = true) : ∃ b, vals a.al = .pointer (some ⟨b, 0, none⟩) ∧ n0 ≤ b ∧ Blk w b a.z a.T := by
  obtain ⟨b, hb, hn, hB⟩ := j.1 a (List.mem_of_getElem? hi) hal
  have : stD done a = false := by unfold stD; rw [hs]; exact hd
  rw [this] at hB
  exact ⟨b, hb, hn, hB⟩
theorem AlJ.st {i k b : Nat} {a : AlE} {u : Value} (j : AlJ n0 as done vals w) (hi : as[i]? = some a) (hs : a.st = some k) (hd : done k = false) (hal : done a.al = true)
    (hone : ∀ m a', as[m]? = some a' → a'.st = some k → m = i) (hna : ∀ a' ∈ as, a'.al ≠ k) (hu : (as.all fun x => as.all fun y => Nat.beq x.al y.al == false || true) = true) (hinj : ∀ m a', as[m]? = some a' → a'.al = a.al → m = i)
    (hb : vals a.al = .pointer (some ⟨b, 0, none⟩)) (hB : Blk w' b a.c a.T) (kk : Keep (fun x => x = b) w w') : AlJ n0 as (don done k) (setv vals k u) w' := by
  obtain ⟨h1, h2, h3⟩ := j
  have hv : ∀ a' ∈ as, setv vals k u a'.al = vals a'.al ∧ don done k a'.al = done a'.al := fun a' ha' => by
    have := hna a' ha'
    simp [setv, don, this]
  refine ⟨fun a' ha' hda => ?_, fun a1 ha1 a2 ha2 hne hd1 hd2 => ?_, Nat.le_trans h3 kk.size⟩
  · rw [(hv a' ha').2] at hda
    rw [(hv a' ha').1]
    obtain ⟨m, hm⟩ := List.mem_iff_getElem?.1 ha'
    by_cases hmi : m = i
    · subst hmi
      rw [hi] at hm; cases hm
      obtain ⟨b', hb', hn, hB'⟩ := h1 a ha' hda
      rw [hb] at hb'; cases hb'
      refine ⟨b, hb, hn, ?_⟩
      have : stD (don done k) a = true := by unfold stD; rw [hs]; simp [don]
      rw [this]; exact hB
    · have hne : a'.al ≠ a.al := fun h => hmi (hinj m a' hm h)
      obtain ⟨b', hb', hn, hB'⟩ := h1 a' ha' hda
      have hbb : b' ≠ b := fun h => h2 a' ha' a (List.mem_of_getElem? hi) hne hda hal (by rw [hb', hb, h])
      refine ⟨b', hb', hn, ?_⟩
      have : stD (don done k) a' = stD done a' := by
        unfold stD
        cases hh : a'.st with
        | none => rfl
        | some s =>
          have : s ≠ k := fun he => hmi (hone m a' hm (by rw [hh, he]))
          simp [don, this]
      rw [this]; exact hB'.keep kk hbb
  · rw [(hv a1 ha1).1, (hv a2 ha2).1]
    rw [(hv a1 ha1).2] at hd1
    rw [(hv a2 ha2).2] at hd2
    exact h2 a1 ha1 a2 ha2 hne hd1 hd2
theorem AlJ.fin (j : AlJ n0 as (fun _ => true) vals w) {i : Nat} {a : AlE} (hi : as[i]? = some a) : ∃ b, vals a.al = .pointer (some ⟨b, 0, none⟩) ∧ n0 ≤ b ∧ Blk w b (match a.st with | some _ => a.c | none => a.z) a.T := by
  obtain ⟨b, hb, hn, hB⟩ := j.1 a (List.mem_of_getElem? hi) rfl
  refine ⟨b, hb, hn, ?_⟩
  unfold stD at hB
  cases hs : a.st with
  | none => rw [hs] at hB; exact hB
  | some s => rw [hs] at hB; exact hB
theorem AlJ.ne (j : AlJ n0 as (fun _ => true) vals w) {i m : Nat} {a a' : AlE} (hi : as[i]? = some a) (hm : as[m]? = some a') (hne : a.al ≠ a'.al) {b b' : Nat} (hb : vals a.al = .pointer (some ⟨b, 0, none⟩)) (hb' : vals a'.al = .pointer (some ⟨b', 0, none⟩)) : b ≠ b' :=
  fun h => j.2.1 a (List.mem_of_getElem? hi) a' (List.mem_of_getElem? hm) hne rfl rfl (by rw [hb, hb', h])
end
def alOne (as : List AlE) : Bool := (List.range as.length).all fun i => (List.range as.length).all fun m => Nat.beq i m || (match as[i]?, as[m]? with
  | some a, some a' => !(Nat.beq a.al a'.al) && (match a.st, a'.st with | some s, some s' => !(Nat.beq s s') | _, _ => true) && (match a.st with | some s => !(Nat.beq s a'.al) && !(Nat.beq s a.al) | none => true)
  | _, _ => true)
theorem alOne_al {as : List AlE} (h : alOne as = true) {i m : Nat} {a a' : AlE} (hi : as[i]? = some a) (hm : as[m]? = some a') (he : a'.al = a.al) : m = i := by
  have h1 := List.all_eq_true.1 h m (List.mem_range.2 (List.getElem?_eq_some_iff.1 hm).1)
  have h2 := List.all_eq_true.1 h1 i (List.mem_range.2 (List.getElem?_eq_some_iff.1 hi).1)
  rw [hi, hm] at h2
  simp only [he, Nat.beq_refl, Bool.not_true, Bool.false_and, Bool.or_false] at h2
  exact Nat.eq_of_beq_eq_true h2
theorem alOne_st {as : List AlE} (h : alOne as = true) {i m k : Nat} {a a' : AlE} (hi : as[i]? = some a) (hm : as[m]? = some a') (hs : a.st = some k) (he : a'.st = some k) : m = i := by
  have h1 := List.all_eq_true.1 h m (List.mem_range.2 (List.getElem?_eq_some_iff.1 hm).1)
  have h2 := List.all_eq_true.1 h1 i (List.mem_range.2 (List.getElem?_eq_some_iff.1 hi).1)
  rw [hi, hm] at h2
  simp only [hs, he, Nat.beq_refl, Bool.not_true, Bool.false_and, Bool.and_false, Bool.or_false] at h2
  exact Nat.eq_of_beq_eq_true h2
def alSt (as : List AlE) : Bool := as.all fun a => as.all fun a' => match a.st with | some s => !(Nat.beq s a'.al) | none => true
theorem alSt_ne {as : List AlE} (h : alSt as = true) {a a' : AlE} (ha : a ∈ as) (ha' : a' ∈ as) : a.st ≠ some a'.al := fun hs => by
  have h1 := List.all_eq_true.1 (List.all_eq_true.1 h a ha) a' ha'
  simp [hs] at h1
theorem al_lt {as : List AlE} {n : Nat} (h : (as.all fun a => Nat.blt a.al n) = true) : ∀ a ∈ as, a.al < n := fun a ha => by
  have := List.all_eq_true.1 h a ha
  have h2 : a.al + 1 ≤ n := by simpa [Nat.blt] using this
  exact h2
end Go.Vc

namespace Go.Vc
set_option linter.unusedVariables false
set_option linter.unusedSimpArgs false
/-- the address of a part of a slice -/
def slA (a : Option Addr) (c l sz : Nat) : Option Addr := if c = l then a else a.map (·.add (l * sz))
theorem SlV.sub {α : Type} {t : Ty α} {w : World} {F : Nat → Prop} {a : Option Addr} {n c l h : Nat} {xs : List α} (hv : SlV t w F (.slice a n c) xs) (hlh : l ≤ h) (hhx : h ≤ xs.length) : SlV t w F (.slice (slA a c l t.sz) (h - l) (c - l)) ((xs.take h).drop l) := by
  obtain ⟨a', c', hv', h1, h2, h3, h4⟩ := hv
  cases hv'
  have hlen : ((xs.take h).drop l).length = h - l := by simp; omega
  refine ⟨_, _, by rw [hlen], by rw [hlen]; omega, by omega, ?_, ?_⟩
  · intro hn
    unfold slA at hn
    split at hn
    · have := h3 hn; omega
    · have : a = none := by cases a <;> simp_all
      have := h3 this; omega
  · intro i y hy
    have hi : i < h - l := by have := (List.getElem?_eq_some_iff.1 hy).1; rw [hlen] at this; exact this
    rw [List.getElem?_drop, List.getElem?_take, if_pos zo] at hy
    obtain ⟨q, cs, ha, hF, hp, hr⟩ := h4 _ _ hy
    have hne : ¬ c = l := by omega
    refine ⟨q.add (l * t.sz), cs, by unfold slA; rw [if_neg hne, ha]; rfl, by rw [add_block]; exact hF, ?_, hr⟩
    rw [add_add, ← Nat.add_mul]; exact hp
section
variable {P : Program} {d : Option Tmp} {ty : TypeId} {p : String} {af : Array Edge} {g : Option (Nat × Bool)} {e : Nat → Value} {w : World} {x y : Operand} {K : Value → World → Prop} {α : Type}
/-- 's[lo:hi]': its value -/
theorem v_slice {T et sz n c l h : Nat} {a : Option Addr} {lo hi : Option Operand} (hk : kSlice P T et = true) (hs : kSize P et sz = true) (hx : ev e x = .slice a n c)
    (hl : match lo with | some o => ∃ k, ev e o = .int k (l : Nat) | none => l = 0) (hh : match hi with | some o => ∃ k, ev e o = .int k (h : Nat) | none => h = n) (hlh : l ≤ h) (hhc : h ≤ c) :
    OpVat P ⟨d, .slice T x lo hi none, ty, p, af, g⟩ e w (.slice (slA a c l sz) (h - l) (c - l)) := by
  have hlo : ∀ (y : Nat), l ≤ y → (match lo.map (ev e) with | some v => Instr.sliceBound v y .sliceB | none => pure 0).run P w = .ok l w := by
    intro y hy
    cases lo with
    | none => simp at hl; subst hl; rfl
    | some o =>
      obtain ⟨kk, ho⟩ := hl
      simp [ho, Instr.sliceBound, asIntOf]
      have : ¬ (y : Int) < (l : Int) := by omega
      omega
  have hi' : (match hi.map (ev e) with | some v => Instr.sliceBound v c .sliceAcap | none => pure n).run P w = .ok h w := by
    cases hi with
    | none => simp at hh; subst hh; rfl
    | some o =>
      obtain ⟨kk, ho⟩ := hh
      simp [ho, Instr.sliceBound, asIntOf]
      omega
  have hb : (Instr.sliceBounds true n c (lo.map (ev e)) (hi.map (ev e)) none).run P w = .ok (l, h, c) w := by
    unfold Instr.sliceBounds
    cases hi with
    | none =>
      simp only [Option.map_none] at hi' ⊢
      have := hlo h hlh
      cases lo with
      | none => simp at this hi' ⊢; exact ⟨this, hi'⟩
      | some o => simp at this hi' ⊢; rw [hi']; simp [this]
    | some oh =>
      simp only [Option.map_some] at hi' ⊢
      have := hlo h hlh
      cases lo with
      | none => simp at this hi' ⊢; rw [hi']; simp [this]
      | some o => simp at this hi' ⊢; rw [hi']; simp [this]
  simp [OpVat, execOp, hx, Instr.sliceAt, Instr.slice, run_underlying (kSlice_of hk), hb, run_sizeOf hs, slA]
theorem v_cap {T et n c : Nat} {a : Option Addr} (ht : kSlice P T et = true) (hx : ev e x = .slice a n c) : OpVat P ⟨d, .call { callee := .builtin .cap, args := #[x], argTypes := #[T] }, ty, p, af, g⟩ e w (.int .i64 c) := by
  simp [OpVat, execOp, hx, resolve, invoke, builtin, Builtin.cap_, run_underlying (kSlice_of ht), goInt]
/-- 'append(nil, make([]T, k)...)', cut to nothing: room -/
theorem to_appendZ {t : Ty α} {T tn et bytes k : Nat} {kq kn : IntKind} (hk : kElem P T et t.sz bytes = true) (htn : P.underlying tn = some (.int kn)) (hx : ev e x = .slice none 0 0) (hy : ev e y = .int kq (k : Nat)) (h0 : 0 < k) (hb : k * bytes ≤ 140737488355328) (hm : k ≤ maxLen)
    (r : ∀ b cc w', b = w.heap.size → OwV t et w' b NoK (.slice (some ⟨b, 0, none⟩) 0 cc) [] → Ext w w' → w'.heap.size = b + 1 → K (.slice (some ⟨b, 0, none⟩) k cc) w') :
    OpTo P ⟨d, .call { callee := .builtin .append, args := #[x, y], argTypes := #[T, tn] }, ty, p, af, g⟩ e w K := by
  obtain ⟨ht, i, z, hi, hz, hzs, his, hib⟩ := kElem_of hk
  have hold : (Builtin.firstCells i.size 0 (.slice none 0 0)).run P w.drew = .ok (([] : List Value).toArray) w.drew := by
    simp [Builtin.firstCells]
  have hr := Lib.run_append_grow_zeros (P := P) w T tn ty et i z kq kn ht htn hi hz none 0 0 [] hold k h0 (by rw [his]; exact t.pos) zo (by simp only [maxLen] at hm; omega) (by rw [hib]; omega) (by
    have : Builtin.nextslicecap (0 + k) 0 = k := by
      unfold Builtin.nextslicecap
      rw [if_pos zo, Nat.zero_add]
    rw [this, hib]; omega)
  have hr' : (execOp (ev e) ⟨d, .call { callee := .builtin .append, args := #[x, y], argTypes := #[T, tn] }, ty, p, af, g⟩).run P w = .ok (.value (.slice (some ⟨w.heap.size, 0, none⟩) (0 + k) (grownCap w (0 + k) 0 et))) (w.drew.alloc (.cells (([] : List Value).toArray ++ Builtin.zeroCells z.cells k ++ Builtin.zeroCells z.cells (grownCap w (0 + k) 0 et - (0 + k))) et)) := by
    simp [execOp, resolve, hx, hy, invoke, builtin, hr]
  have hge := grownCap_ge w (0 + k) 0 et
  have hle := grownCap_le_maxLen w (0 + k) 0 et zo
  unfold OpTo
  rw [hr', Nat.zero_add]
  rw [Nat.zero_add] at hge hle
  refine r w.heap.size _ _ rfl ?_ ((Keep.drawn w _).trans (Ext.alloc _ _)) (by rw [World.size_alloc]; rfl)
  refine ⟨[], ⟨by simp, .inr ⟨w.heap.size, _, _, rfl, Nat.le_refl _, heap_alloc_new w.drew _, by simp, hle, ?_, by simp⟩⟩, fun i x hx => by simp at hx⟩
  simp only [Builtin.zeroCells, Array.size_append, Array.size_map, Array.size_range, List.size_toArray, List.length_nil, Nat.zero_add]
  rw [hzs]
  rw [← Nat.add_mul]
  congr 1
  omega
end
theorem parts2 {e : Nat → Value} {i0 i1 : Nat} {x0 x1 : Operand} {v0 v1 : Value} (h0 : ev e x0 = v0) (h1 : ev e x1 = v1) : (#[(i0, x0), (i1, x1)] : Array (Nat × Operand)).toList.map (fun x => (x.1, ev e x.2)) = [(i0, v0), (i1, v1)] := by simp [h0, h1]
theorem parts3 {e : Nat → Value} {i0 i1 i2 : Nat} {x0 x1 x2 : Operand} {v0 v1 v2 : Value} (h0 : ev e x0 = v0) (h1 : ev e x1 = v1) (h2 : ev e x2 = v2) : (#[(i0, x0), (i1, x1), (i2, x2)] : Array (Nat × Operand)).toList.map (fun x => (x.1, ev e x.2)) = [(i0, v0), (i1, v1), (i2, v2)] := by simp [h0, h1, h2]
theorem one_cells {v : Value} (h : v.oneCell' = true) : v.cells = #[v] := by cases v <;> first | rfl | simp [Value.oneCell'] at h
end Go.Vc

namespace Go.Vc
set_option linter.unusedVariables false
set_option linter.unusedSimpArgs false
/-! ### bytes of a constant -/
theorem freeze_keep (w : World) (a : Addr) (n : Nat) : Keep (fun i => i = a.block) w (w.freeze a n) ∧ (w.freeze a n).heap.size = w.heap.size := by
  unfold World.freeze
  split
  · exact ⟨Keep.refl _, rfl⟩
  · refine ⟨⟨rfl, rfl, rfl, by simp, fun k hk hne => ?_⟩, by simp⟩
    simp only [Array.getElem?_modify]
    rw [if_neg (fun h => hne h.symm)]
section
variable {P : Program} {d : Option Tmp} {ty : TypeId} {p : String} {af : Array Edge} {g : Option (Nat × Bool)} {e : Nat → Value} {w : World} {x y : Operand} {K : Value → World → Prop}
end
end Go.Vc

namespace Go.Vc
set_option linter.unusedVariables false
set_option linter.unusedSimpArgs false
section
variable {P : Program} {d : Option Tmp} {ty : TypeId} {p : String} {af : Array Edge} {g : Option (Nat × Bool)} {e : Nat → Value} {w : World} {x y : Operand} {K : Value → World → Prop} {α : Type}
/-- 'append(nil, ys...)': a copy of one's own -/
theorem to_appNil {t : Ty α} {T et bytes : Nat} {F F' : Nat → Prop} {u : Value} {ys : List α} (hk : kElem P T et t.sz bytes = true) (hx : ev e x = .slice none 0 0) (hy : ev e y = u) (hu : SlV t w F' u ys) (hF : ∀ cs z, t.rep w F' cs z → t.rep w F cs z) (hn : ys.length * bytes ≤ 140737488355328)
    (k : ∀ v w', OwV t et w' w.heap.size F v ys → Ext w w' → K v w') : OpTo P ⟨d, .call { callee := .builtin .append, args := #[x, y], argTypes := #[T, T] }, ty, p, af, g⟩ e w K := by
  refine to_append (B := w.heap.size) (F := F) hk hx (OwV.nil t et w w.heap.size F) hy hu (fun cs z h => t.mono (hF cs z h) fun b _ hb => ⟨hb, by simp [Value.ownBlock]⟩) (by simpa using hn) (by simpa using hu.max) (Nat.le_refl _) fun a n cc w' h1 _ h3 _ _ => k _ _ (by simpa using h1) (h3.mono fun b _ hb => by simp [Value.ownBlock] at hb)
end
end Go.Vc

namespace Go.Vc
set_option linter.unusedVariables false
set_option linter.unusedSimpArgs false
section
variable {α : Type} {t : Ty α} {et : TypeId} {B0 B : Nat} {F G : Nat → Prop} {v0 : Value} {l0 : List α} {as : List Nat} {ps : List (Option Nat)} {xs : List (List α)}
/-- a producer whose elements may point at what was there before -/
theorem ChainJ.prodO {w w' : World} {done : Nat → Bool} {vals : Nat → Value} {k : Nat} {r : Value} {n : Nat} {x : List α} (j : ChainJ t et B0 B F G v0 l0 as ps xs done vals w) (e : Ext w w') (hk : ps[n]? = some (some k)) (hx : xs[n]? = some x) (hone : ∀ i, ps[i]? = some (some k) → i = n) (has : ∀ a ∈ as, a ≠ k)
    (hr : SlV t w' (fun b => G b ∧ (w.heap.size ≤ b ∨ (b < B0 ∧ v0.ownBlock ≠ some b))) r x) : ChainJ t et B0 B F G v0 l0 as ps xs (don done k) (setv vals k r) w' := by
  obtain ⟨c, hc, h1, h2, hB, h3⟩ := j
  have hv : accV v0 as (setv vals k r) c = accV v0 as vals c := accV_congr hc fun i a ha => by simp [setv, has a (List.mem_of_getElem? ha)]
  have hs := e.size
  refine ⟨c, hc, fun i a ha => by simp only [don, if_neg (has a (List.mem_of_getElem? ha))]; exact h1 i a ha, by rw [hv]; exact h2.ext e, by rw [hv]; exact ⟨by omega, by omega, hB.2.2⟩, fun i p y hi hp hy hd => ?_⟩
  rw [hv]
  by_cases hpk : p = k
  · subst hpk
    have := hone i hp
    subst this
    rw [hx] at hy
    cases hy
    simp only [setv, if_true]
    exact hr.mono fun b hb hF => ⟨hF.1, fun ho => by
      have h5 := (h2.own_lt ho).2
      rcases hF.2 with h | ⟨h, h'⟩
      · omega
      · rcases hB.2.2 b ho with h6 | h6
        · exact h' h6
        · omega, hb⟩
  · simp only [don, setv, if_neg hpk] at hd ⊢
    exact ((h3 i p y hi hp hy hd).ext e).mono fun b hb h => ⟨h.1, h.2.1, hb⟩
end
end Go.Vc

namespace Go.Vc
set_option linter.unusedVariables false
set_option linter.unusedSimpArgs false
/-- a stage with one operation that turns P0 into P1 -/
def OneJ (k : Nat) (P0 P1 : World → Prop) (done : Nat → Bool) (_ : Nat → Value) (w : World) : Prop := (done k = true → P1 w) ∧ (done k = false → P0 w)
theorem OneJ.on {k : Nat} {P0 P1 : World → Prop} : JOn (Nat.beq k) (OneJ k P0 P1) := by
  rintro done vals done' vals' w h ⟨h1, h2⟩
  have := (h k (Nat.beq_refl k)).1
  exact ⟨fun hd => h1 (by rw [this]; exact hd), fun hd => h2 (by rw [this]; exact hd)⟩
theorem OneJ.start {k : Nat} {P0 P1 : World → Prop} {done : Nat → Bool} {vals : Nat → Value} {w : World} (h : P0 w) (hd : done k = false) : OneJ k P0 P1 done vals w := ⟨fun h1 => absurd (hd.symm.trans h1) zq, fun _ => h⟩
theorem OneJ.step {k : Nat} {P0 P1 : World → Prop} {done : Nat → Bool} {vals : Nat → Value} {v : Value} {w : World} (h : P1 w) : OneJ k P0 P1 (don done k) (setv vals k v) w := ⟨fun _ => h, fun h1 => by simp [don] at h1⟩
end Go.Vc
