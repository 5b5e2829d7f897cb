/- A part of the proof: steps and lemmas for the walks through the given program. -/
import Derived.Test.YtkaangdfpjkjpaaVc7
import Derived.Deep.LoopGhost
import Derived.Sort.LoopGhostIn
namespace Go.Vc
set_option linter.unusedVariables false
set_option linter.unusedSimpArgs false

/-! ### calls -/
def kBody (P : Program) (f : Nat) : Bool := match P.funcs[f]? with
  | some fn => fn.body.isSome && !(fn.name == "runtime.NumGoroutine")
  | none => false
theorem run_callFunc {P : Program} {f : Nat} (h : kBody P f = true) (args : Array Value) (w : World) : (callFunc f args).run P w = .ok (.enter f args) w := by
  unfold kBody at h
  split at h
  · rename_i fn hf
    simp only [Bool.and_eq_true, Bool.not_eq_true'] at h
    have h1 : fn.body.isNone = false := by cases hb : fn.body <;> simp_all
    have h2 : ¬ (fn.name == "runtime.NumGoroutine") = true := by rw [h.2]; simp
    unfold callFunc
    simp only [Sem.run_bind]
    simp [hf, program, Sem.run, h1, h2]
    simp at h2; simp [h2]
    intro h; rw [h] at h1; simp at h1
  · cases h
section
variable {P : Program} {d : Option Tmp} {ty : TypeId} {p : String} {af : Array Edge} {g : Option (Nat × Bool)} {e : Nat → Value} {w : World} {K : Value → World → Prop} {f : Operand} {x0 x1 x2 x3 x4 x5 : Operand} {v0 v1 v2 v3 v4 v5 : Value} {fn : Nat} {cap fst : Array Value} {ts : Array TypeId}
theorem to_calls {args : Array Operand} {vs : Array Value} (hb : kBody P fn = true) (hf : ev e f = .func (.func fn) fst cap) (hfst : fst = #[]) (ha : args.map (ev e) = vs) (h : CallsR P fn (vs ++ cap) w K) : OpTo P ⟨d, .call { callee := .value f, args := args, argTypes := ts }, ty, p, af, g⟩ e w K := by
  subst hfst
  have hr : (execOp (ev e) ⟨d, .call { callee := .value f, args := args, argTypes := ts }, ty, p, af, g⟩).run P w = .ok (.enter fn (vs ++ cap)) w := by
    simp only [execOp, resolve, hf, ha, Deferred.ofValue]
    simp [invoke, run_callFunc hb]
  unfold OpTo
  rw [hr]
  exact h
theorem to_call0 (hb : kBody P fn = true) (hf : ev e f = .func (.func fn) #[] cap) (h : CallsR P fn (#[] ++ cap) w K) : OpTo P ⟨d, .call { callee := .value f, args := #[], argTypes := ts }, ty, p, af, g⟩ e w K :=
  to_calls hb hf rfl (by simp) h
theorem to_call1 (hb : kBody P fn = true) (hf : ev e f = .func (.func fn) #[] cap) (h0 : ev e x0 = v0) (h : CallsR P fn (#[v0] ++ cap) w K) : OpTo P ⟨d, .call { callee := .value f, args := #[x0], argTypes := ts }, ty, p, af, g⟩ e w K :=
  to_calls hb hf rfl (by simp [h0]) h
theorem to_call2 (hb : kBody P fn = true) (hf : ev e f = .func (.func fn) #[] cap) (h0 : ev e x0 = v0) (h1 : ev e x1 = v1) (h : CallsR P fn (#[v0, v1] ++ cap) w K) : OpTo P ⟨d, .call { callee := .value f, args := #[x0, x1], argTypes := ts }, ty, p, af, g⟩ e w K :=
  to_calls hb hf rfl (by simp [h0, h1]) h
theorem to_call3 (hb : kBody P fn = true) (hf : ev e f = .func (.func fn) #[] cap) (h0 : ev e x0 = v0) (h1 : ev e x1 = v1) (h2 : ev e x2 = v2) (h : CallsR P fn (#[v0, v1, v2] ++ cap) w K) : OpTo P ⟨d, .call { callee := .value f, args := #[x0, x1, x2], argTypes := ts }, ty, p, af, g⟩ e w K :=
  to_calls hb hf rfl (by simp [h0, h1, h2]) h
theorem to_call4 (hb : kBody P fn = true) (hf : ev e f = .func (.func fn) #[] cap) (h0 : ev e x0 = v0) (h1 : ev e x1 = v1) (h2 : ev e x2 = v2) (h3 : ev e x3 = v3) (h : CallsR P fn (#[v0, v1, v2, v3] ++ cap) w K) : OpTo P ⟨d, .call { callee := .value f, args := #[x0, x1, x2, x3], argTypes := ts }, ty, p, af, g⟩ e w K :=
  to_calls hb hf rfl (by simp [h0, h1, h2, h3]) h
theorem to_call5 (hb : kBody P fn = true) (hf : ev e f = .func (.func fn) #[] cap) (h0 : ev e x0 = v0) (h1 : ev e x1 = v1) (h2 : ev e x2 = v2) (h3 : ev e x3 = v3) (h4 : ev e x4 = v4) (h : CallsR P fn (#[v0, v1, v2, v3, v4] ++ cap) w K) : OpTo P ⟨d, .call { callee := .value f, args := #[x0, x1, x2, x3, x4], argTypes := ts }, ty, p, af, g⟩ e w K :=
  to_calls hb hf rfl (by simp [h0, h1, h2, h3, h4]) h
end

/-! ### the code round the regions -/
def argEnv (l : List Value) : Nat → Value := fun i => l.getD i undef
theorem fr_args {N : Nat} (l : List Value) (h : l.length ≤ N) : (⟨l.toArray ++ Array.replicate (N - l.toArray.size) undef, []⟩ : Act) = Fr N (argEnv l) := by
  simp only [Fr]
  congr 1
  apply Array.ext
  · simp; omega
  · intro i h1 h2
    simp only [Array.size_ofFn] at h2
    simp only [Array.getElem_ofFn, argEnv]
    by_cases hi : i < l.length
    · rw [Array.getElem_append_left (by simpa using hi)]; simp [hi]
    · rw [Array.getElem_append_right (by simpa using hi)]; simp [List.getD, show l[i]? = none by simp; omega]

theorem enter {P : Program} {f : Nat} {fn : Func} {c : Code} {l : List Value} {w : World} {R : Value → World → Prop} (N : Nat) (hf : P.funcs[f]? = some fn) (hb : fn.body = some c) (hN : fn.ntmps = N) (hl : l.length ≤ N)
    (h : c.wpIn (Fw none) 0 P (bodyPost P fn (Ret R)) (FrD N (argEnv l) []) w) : CallsR P f l.toArray w R := by
  refine calls_of_wp hf hb ?_
  rw [hN, fr_args l hl]; exact wpIn_wide.1 h

section
variable {ro : Option Nat} {m : Nat} {ds : List Deferred} {P : Program} {N : Nat} {Q : Exit → Act → World → Prop} {e : Nat → Value} {w : World} {a : Act} {X Y : Code} {fn : Func} {R : Value → World → Prop} {Kn : Act → World → Prop}
theorem c_seq (h : X.wpIn (Fw ro) m P (Exit.then (Y.wpIn (Fw ro) m P Q) Q) a w) : (Code.seq X Y).wpIn (Fw ro) m P Q a w := wpIn_seq h
theorem c_skip (h : Q .normal a w) : Code.skip.wpIn (Fw ro) m P Q a w := wpIn_skip h
theorem c_ret (h : Q .ret a w) : Code.ret.wpIn (Fw ro) m P Q a w := wpIn_ret h
theorem c_label {l : Nat} (h : Q .normal a w) : (Code.label l).wpIn (Fw ro) m P Q a w := wpIn_label h
theorem c_exit {i : Nat} (h : Q (.exit i) a w) : (Code.exit i).wpIn (Fw ro) m P Q a w := wpIn_exit h
theorem c_scope (h : X.wpIn (Fw none) m P (Exit.noGoto Q) a w) : (Code.scope X).wpIn (Fw none) m P Q a w := wpIn_wide.2 (wp_scope_straight (wpIn_wide.1 h))
theorem c_block {i : Nat} (h : X.wpIn (Fw ro) m P (Exit.inBlock i Q) a w) : (Code.block i X).wpIn (Fw ro) m P Q a w := wpIn_block h
/-- what stands behind a piece, under a name -/
theorem c_cut (M : Act → World → Prop) (h : X.wpIn (Fw ro) m P (Exit.then M Q) a w) (h2 : ∀ a w, M a w → Y.wpIn (Fw ro) m P Q a w) : (Code.seq X Y).wpIn (Fw ro) m P Q a w :=
  wpIn_seq (wpIn_mono h fun ex a w hq => by cases ex <;> first | exact h2 _ _ hq | exact hq)
theorem n_then (h : Kn a w) : Exit.then Kn Q .normal a w := h
theorem r_then (h : Q .ret a w) : Exit.then Kn Q .ret a w := h
theorem x_then {i : Nat} (h : Q (.exit i) a w) : Exit.then Kn Q (.exit i) a w := h
theorem n_blk {i : Nat} (h : Q .normal a w) : Exit.inBlock i Q .normal a w := h
theorem r_blk {i : Nat} (h : Q .ret a w) : Exit.inBlock i Q .ret a w := h
theorem x_hit {i : Nat} (h : Q .normal a w) : Exit.inBlock i Q (.exit i) a w := by simp only [Exit.inBlock, if_true]; exact h
theorem x_miss {i j : Nat} (hne : j ≠ i) (h : Q (.exit j) a w) : Exit.inBlock i Q (.exit j) a w := by simp only [Exit.inBlock, if_neg hne]; exact h
theorem n_scp (h : Q .normal a w) : Exit.noGoto Q .normal a w := h
theorem r_scp (h : Q .ret a w) : Exit.noGoto Q .ret a w := h
theorem x_scp {i : Nat} (h : Q (.exit i) a w) : Exit.noGoto Q (.exit i) a w := h
theorem c_cond {c : Operand} {b : Bool} (hl : Operand.lt N c = true) (hc : ev e c = .bool b) (ht : b = true → X.wpIn (Fw ro) m P Q (FrD N e ds) w) (hf : b = false → Y.wpIn (Fw ro) m P Q (FrD N e ds) w) : (Code.cond c X Y).wpIn (Fw ro) m P Q (FrD N e ds) w :=
  wpIn_cond_split (by rw [frD_eval hl]; exact hc) ht hf
theorem ret1 {t : Tmp} (hr : fn.results = #[.tmp t]) (ht : t < N) (h : R (e t) w) : bodyPost P fn (Ret R) .ret (FrD N e []) w :=
  ⟨rfl, e t, by rw [results_tmp hr]; simp [FrD, Fr, Array.getD, ht], e t, rfl, h⟩
theorem ret2 {t u : Tmp} (hr : fn.results = #[.tmp t, .tmp u]) (ht : t < N) (hu : u < N) (h : R (.tuple #[e t, e u]) w) : bodyPost P fn (Ret R) .ret (FrD N e []) w :=
  ⟨rfl, _, by rw [results_tmp2 hr]; simp [FrD, Fr, Array.getD, ht, hu], _, rfl, h⟩
theorem ret3 {t u v : Tmp} (hr : fn.results = #[.tmp t, .tmp u, .tmp v]) (ht : t < N) (hu : u < N) (hv : v < N) (h : R (.tuple #[e t, e u, e v]) w) : bodyPost P fn (Ret R) .ret (FrD N e []) w :=
  ⟨rfl, _, by rw [results_tmp3 hr]; simp [FrD, Fr, Array.getD, ht, hu, hv], _, rfl, h⟩
theorem ret0 (hr : fn.results = #[]) (h : R (.tuple #[]) w) : bodyPost P fn (Ret R) .ret (FrD N e []) w :=
  ⟨rfl, _, by rw [results_none hr], _, rfl, h⟩
theorem end0 (hr : fn.results = #[]) (h : R (.tuple #[]) w) : bodyPost P fn (Ret R) .normal (FrD N e []) w :=
  ⟨rfl, _, by rw [results_none hr], _, rfl, h⟩
end

/-! ### loops -/
def inL (m : List Nat) (i : Nat) : Bool := m.any (Nat.beq i)
/-- the frame outside the slots m is as it was -/
def Off (m : List Nat) (e e' : Nat → Value) : Prop := ∀ i, inL m i = false → e' i = e i
theorem Off.refl (m : List Nat) (e : Nat → Value) : Off m e e := fun _ _ => rfl
theorem Off.upd {m : List Nat} {e e' : Nat → Value} (h : Off m e e') {d : Nat} (hd : inL m d = true) (v : Value) : Off m e (upd e' d v) := fun i hi => by
  by_cases hid : i = d
  · subst hid; rw [hd] at hi; cases hi
  · rw [upd_ne _ _ hid]; exact h i hi
theorem Off.updo {m : List Nat} {e e' : Nat → Value} (h : Off m e e') {d : Option Tmp} (hd : ∀ t, d = some t → inL m t = true) (v : Value) : Off m e (updo e' d v) := by
  cases d with
  | none => exact h
  | some t => exact h.upd (hd t rfl) v
def over (e0 : Nat → Value) (m : List Nat) (j : Nat → Value) : Nat → Value := fun i => bif inL m i then j i else e0 i
theorem Off.over {m : List Nat} {e e' : Nat → Value} (h : Off m e e') : e' = over e m e' := by
  funext i
  simp only [Vc.over]
  cases hi : inL m i with
  | true => rfl
  | false => rw [h i hi]; rfl
theorem Off.of_over (m : List Nat) (e j : Nat → Value) : Off m e (Vc.over e m j) := fun i hi => by simp only [Vc.over, hi, cond_false]
theorem at_upd {e : Nat → Value} {d : Nat} {v : Value} (h : e d = v) : e = upd e d v := by
  funext i
  by_cases hi : i = d
  · subst hi; rw [upd_same]; exact h
  · rw [upd_ne _ _ hi]
/-- slots and what they hold -/
def Holds : List (Nat × Value) → (Nat → Value) → Prop
  | [], _ => True
  | (d, v) :: l, e => e d = v ∧ Holds l e
def updL : List (Nat × Value) → (Nat → Value) → Nat → Value
  | [], e => e
  | (d, v) :: l, e => updL l (upd e d v)
theorem Holds.upd {l : List (Nat × Value)} {e : Nat → Value} (h : Holds l e) : e = updL l e := by
  induction l with
  | nil => rfl
  | cons x l ih =>
    obtain ⟨d, v⟩ := x
    obtain ⟨h1, h2⟩ := h
    simp only [updL]
    rw [← at_upd h1]; exact ih h2
/-- the head of a loop: a frame of which the slots of the relation are known -/
theorem head {m : List Nat} {e0 e : Nat → Value} {l : List (Nat × Value)} (ho : Off m e0 e) (hh : Holds l e) : ∃ j, e = updL l (over e0 m j) := ⟨e, by rw [← ho.over]; exact hh.upd⟩

def LoopK {τ : Type} (N : Nat) (ds : List Deferred) (m : List Nat) (e0 : Nat → Value) (sl : τ → List (Nat × Value)) (I : τ → World → Prop) (μ : τ → Nat) (t : τ) : Act → World → Prop :=
  fun a w => ∃ t' e', a = FrD N e' ds ∧ Off m e0 e' ∧ Holds (sl t') e' ∧ I t' w ∧ μ t' < μ t

/-- a loop: t: what it has come to; sl: the slots that hold that; I: what is known of the world; μ goes down -/
theorem c_loop {ro : Option Nat} {n : Nat} {ds : List Deferred} {P : Program} {N : Nat} {c : Code} {Q : Exit → Act → World → Prop} {e0 : Nat → Value} {w : World} {τ : Type} (m : List Nat) (sl : τ → List (Nat × Value)) (I : τ → World → Prop) (μ : τ → Nat) (t0 : τ)
    (hs : Holds (sl t0) e0) (hi : I t0 w)
    (round : ∀ t w j, I t w → c.wpIn (Fw ro) n P (Exit.then (LoopK N ds m e0 sl I μ t) Q) (FrD N (updL (sl t) (over e0 m j)) ds) w) : (Code.loop c).wpIn (Fw ro) n P Q (FrD N e0 ds) w := by
  refine wpIn_loop_ghost (fun n a w => ∃ t e, μ t = n ∧ a = FrD N e ds ∧ Off m e0 e ∧ Holds (sl t) e ∧ I t w) (μ t0) ⟨t0, e0, rfl, rfl, Off.refl _ _, hs, hi⟩ ?_
  rintro n a w ⟨t, e, rfl, rfl, ho, hh, hI⟩
  obtain ⟨j, hj⟩ := head ho hh
  rw [hj]
  refine wpIn_mono (round t w j hI) ?_
  intro ex a' w' hq
  cases ex with
  | normal =>
    obtain ⟨t', e', h1, h2, h3, h4, h5⟩ := hq
    exact ⟨μ t', h5, t', e', rfl, h1, h2, h3, h4⟩
  | _ => exact hq
end Go.Vc
