/- A part of the proof: steps and lemmas for the walks through the given program. -/
import Derived.Test.YtkaangdfpjkjpaaVc18
namespace Go.Vc
set_option linter.unusedVariables false
set_option linter.unusedSimpArgs false
/-! ### ranges over functions -/
/-- blocks that are no cells, from B on, may turn -/
def Turn (B : Nat) (W W' : World) : Prop := ∃ K : Nat → Prop, Keep K W W' ∧ ∀ b, b < W.heap.size → K b → B ≤ b ∧ ∃ o : Obj, W.heap[b]? = some o ∧ o.isCells = false
theorem Keep.of_grownBy {W W' : World} {row : Option Nat} (hg : W.grownBy W' row) : Keep (fun b => row = some b) W W' := ⟨hg.os, hg.tape, hg.output, hg.size, fun k hk hK => hg.block k hk (fun e => hK e.symm)⟩
theorem Ext.grown {W W' : World} (h : Ext W W') : W.grownBy W' none := ⟨h.os, h.tape, h.output, h.size, fun k hk _ => h.blk hk⟩
theorem Turn.of_grownBy {B : Nat} {W W' : World} {row : Option Nat} (hg : W.grownBy W' row) (hr : ∀ r, row = some r → B ≤ r ∧ ∃ o : Obj, W.heap[r]? = some o ∧ o.isCells = false) : Turn B W W' :=
  ⟨_, Keep.of_grownBy hg, fun b _ h => hr b h⟩
theorem Blk.turn {B : Nat} {w w' : World} {b : Nat} {cs : List Value} {T : TypeId} (h : Blk w b cs T) (t : Turn B w w') : Blk w' b cs T := by
  obtain ⟨K, k, hK⟩ := t
  refine h.keep k (fun hb => ?_)
  obtain ⟨_, o, ho, hc⟩ := hK b h.lt hb
  rw [Blk] at h
  rw [h] at ho; cases ho; cases hc
theorem SlV.turn {α : Type} {t : Ty α} {B : Nat} {w w' : World} {F : Nat → Prop} {v : Value} {xs : List α} (h : SlV t w F v xs) (tn : Turn B w w') (hF : ∀ b, b < w.heap.size → F b → b < B) : SlV t w' F v xs := by
  obtain ⟨K, k, hK⟩ := tn
  exact h.keep k fun b hb hf hk => by have := hF b hb hf; have := (hK b hb hk).1; omega
theorem Pv.turn {B : Nat} {w w' : World} {q : Addr} {cs : List Value} (h : Pv w q cs) (tn : Turn B w w') (hF : q.block < B) : Pv w' q cs := by
  obtain ⟨K, k, hK⟩ := tn
  by_cases hlt : q.block < w.heap.size
  · exact h.keep k fun hk => by have := (hK _ hlt hk).1; omega
  · intro j u hu
    have := World.block_lt_of_cell? w _ (h j u hu)
    rw [add_block] at this; exact absurd this hlt
theorem Keep.turn {K : Nat → Prop} {B : Nat} {w0 w w' : World} (h : Keep K w0 w) (tn : Turn B w w') (hB : w0.heap.size ≤ B) : Keep K w0 w' := by
  obtain ⟨K', k, hK⟩ := tn
  refine ⟨k.os.trans h.os, k.tape.trans h.tape, k.output.trans h.output, Nat.le_trans h.size k.size, fun i hi hn => (k.block i (Nat.lt_of_lt_of_le hi h.size) (fun hk => ?_)).trans (h.block i hi hn)⟩
  have := (hK i (Nat.lt_of_lt_of_le hi h.size) hk).1
  omega
theorem OwV.turn {α : Type} {t : Ty α} {e : TypeId} {B B' : Nat} {w w' : World} {F : Nat → Prop} {v : Value} {xs : List α} (h : OwV t e w B' F v xs) (tn : Turn B w w') (hF : ∀ b, b < w.heap.size → F b → b < B) : OwV t e w' B' F v xs := by
  obtain ⟨K, k, hK⟩ := tn
  refine h.keep k (fun b hb hk => ?_) (fun b hb hf _ hk => by have := hF b hb hf; have := (hK b hb hk).1; omega)
  obtain ⟨_, hlt⟩ := h.own_lt hb
  obtain ⟨_, o, ho, hc⟩ := hK b hlt hk
  obtain ⟨cells, h1, _⟩ := h
  rcases h1.2 with ⟨rfl, _⟩ | ⟨g, cap, cur, rfl, _, hg, _⟩
  · simp [Value.ownBlock] at hb
  · simp [Value.ownBlock] at hb
    subst hb
    rw [hg] at ho; cases ho; cases hc
abbrev DefB (w : World) (D : Nat) : Prop := w.heap[D]? = some (.deferred (some []))
theorem defB_keep {K : Nat → Prop} {w w' : World} {D : Nat} (h : DefB w D) (k : Keep K w w') (hk : ¬ K D) : DefB w' D := by
  have hlt : D < w.heap.size := (Array.getElem?_eq_some_iff.1 h).1
  exact (k.block D hlt hk).trans h
/-- behind a range over a function: the block of its rounds' deferred calls, empty -/
abbrev mk1 (D : Nat) : List Deferred := [{ target := .collected D, args := #[] }]
def updz (e : Nat → Value) : List Nat → List Value → Nat → Value
  | p :: ps, v :: vs => updz (upd e p v) ps vs
  | _, _ => e
theorem fold_updz {N : Nat} : ∀ (ps : List Nat) (vs : List Value) (e : Nat → Value), ps.all (fun p => Nat.blt p N) = true →
    (ps.zip vs).foldl (fun t (x : Nat × Value) => t.setIfInBounds x.1 x.2) (Fr N e).tmps = (Fr N (updz e ps vs)).tmps
  | [], vs, e, _ => by simp [updz]
  | p :: ps, [], e, _ => by simp [updz]
  | p :: ps, v :: vs, e, h => by
    simp only [List.all_cons, Bool.and_eq_true] at h
    have hp : p + 1 ≤ N := by simpa [Nat.blt] using h.1
    have h1 : (Fr N e).tmps.setIfInBounds p v = (Fr N (upd e p v)).tmps := congrArg Act.tmps (fr_put hp v)
    rw [List.zip_cons_cons, List.foldl_cons, h1, fold_updz ps vs _ h.2]
    rfl
theorem keepsFrom_ext {B : Nat} {W W' : World} (h : Ext W W') : KeepsFrom B W W' := ⟨h.size, fun k o _ hk _ => (h.blk (Array.getElem?_eq_some_iff.1 hk).1).trans hk⟩
/-- a body that writes cells alone, from B on -/
theorem keepsFrom_keep {B : Nat} {K : Nat → Prop} {W W' : World} (h : Keep K W W') (hK : ∀ b, B ≤ b → K b → ∃ o : Obj, W.heap[b]? = some o ∧ o.isCells = true) : KeepsFrom B W W' := ⟨h.size, fun k o hB hk ho => by
  by_cases hk' : K k
  · obtain ⟨o', h1, h2⟩ := hK k hB hk'
    rw [hk] at h1; cases h1; rw [ho] at h2; cases h2
  · exact (h.block k (Array.getElem?_eq_some_iff.1 hk).1 hk').trans hk⟩
theorem c_range {N M : Nat} {P : Program} {g : Operand} {ps : List Tmp} {assign body : Code} {Q : Exit → Act → World → Prop} {e : Nat → Value} {w : World} {n gf : Nat} {lb : Array Value}
    (hl : Operand.lt N g = true) (hg : ev e g = .func (.func gf) #[] lb) (hb : kBody P gf = true) (hps : ps.all (fun p => Nat.blt p N) = true)
    (encs : Fin M → List Value) (hsz : ∀ x, (encs x).length = ps.length) (Kp : Nat → Prop) (hKp : ∀ i, w.heap.size ≤ i → Kp i)
    (hseq : SeqStopsK Fence.wide 1 P gf lb (fun x => (encs x).toArray) (Keep Kp) (fun ys => ys = List.finRange M) (fun pre => pre <+: List.finRange M) M w)
    (I : List (Fin M) → World → Prop) (Ix : Code → List (Fin M) → World → Prop) (hI : ∀ s W W', Turn w.heap.size W W' → I s W → I s W') (hIx : ∀ c s W W', Turn w.heap.size W W' → Ix c s W → Ix c s W') (h0 : I [] w)
    (A : Fin M → (Nat → Value) → World → Prop) (hA : ∀ x e' W W', Turn w.heap.size W W' → A x e' W → A x e' W')
    (hassign : ∀ l pre x W, I pre W → assign.wpIn (Fw (some l)) 0 P (Exit.then (fun a' W' => ∃ e', a' = FrD N e' [] ∧ Ext W W' ∧ I pre W' ∧ A x e' W') (fun _ _ _ => False)) (FrD N (updz e ps (encs x)) []) W)
    (hbody : ∀ l pre x e' W, I pre W → A x e' W → pre.length < M → body.wpIn (Fw (some l)) 0 P (ownPostG w.heap.size (Keep Kp) I Ix (pre ++ [x]) W) (FrD N e' []) W)
    (hdone : ∀ D W, w.heap.size ≤ D → I (List.finRange M) W → DefB W D → Q .normal (FrD N e (mk1 D)) W)
    (hstop : ∀ D c pre W, w.heap.size ≤ D → pre <+: List.finRange M → Ix c pre W → DefB W D → c.wpIn (Fw none) n P Q (FrD N e (mk1 D)) W) :
    (Code.rangeFunc g ps.toArray assign body).wpIn (Fw none) n P Q (FrD N e []) w := by
  refine wpIn_wide.2 ((wpIn_wide (n := 2)).1 ?_)
  refine wpIn_rangeFunc_ownH (F := Fence.wide) (n := 2) rfl (by omega) (gf := gf) (lb := lb) (by rw [frD_eval hl]; exact hg) trivial (fun args w => run_callFunc hb args w) hseq
    (fun h k => h.trans k) (fun W l o o' hl ho _ _ => (Keep.of_grownBy (grownBy_putObj' W l o')).mono (fun i _ h => by cases h; exact hKp _ hl)) (RowKit.Below.refl _ _) (fun x => by simpa using hsz x)
    I Ix (fun s W W' row hs hg hr => hI s W W' (Turn.of_grownBy hg hr) hs) (fun c s W W' row hs hg hr => hIx c s W W' (Turn.of_grownBy hg hr) hs) h0
    (fun x a' W => ∃ e', a' = FrD N e' [] ∧ A x e' W) (fun x a' _ W W' row hs hg hr => by obtain ⟨e', h1, h2⟩ := hs; exact ⟨e', h1, hA x e' W W' (Turn.of_grownBy hg hr) h2⟩) ?_ ?_ ?_ ?_
  · intro l pre x W K hi hK
    have hfr : ({ tmps := (ps.toArray.zip (encs x).toArray).foldl (fun t (x : Nat × Value) => t.setIfInBounds x.1 x.2) (FrD N e []).tmps, defers := [] } : Act) = FrD N (updz e ps (encs x)) [] := by
      have := fold_updz (N := N) ps (encs x) e hps
      simp only [FrD]
      congr 1
      rw [← this]
      simp
    have h := hassign l pre x W hi
    rw [← hfr] at h
    refine wpIn_mono h ?_
    intro ex a' W' hq
    cases ex with
    | normal =>
      obtain ⟨e', rfl, hx, hI', hA'⟩ := hq
      exact hK _ _ (keepsFrom_ext hx) hx.keep hI' ⟨e', rfl, hA'⟩
    | _ => exact hq.elim
  · rintro l pre x a' W _ _ hi ⟨e', rfl, hA'⟩ hlt
    exact hbody l pre x e' W hi hA' hlt
  · rintro D xs W hD rfl hi hd
    exact hdone D W hD hi hd
  · intro D c pre W hD hp hi hd
    exact wpIn_wide.2 ((wpIn_wide (n := n)).1 (hstop D c pre W hD hp hi hd))
/-- how a round's body is left -/
def RPost {α : Type} (K : Nat → Prop) (I : List α → World → Prop) (Ix : Code → List α → World → Prop) (xs : List α) (W : World) : Exit → Act → World → Prop
  | .normal, _, W' => Keep K W W' ∧ I xs W'
  | .ret, _, W' => Keep K W W' ∧ Ix .ret xs W'
  | .exit i, _, W' => Keep K W W' ∧ Ix (.exit i) xs W'
  | _, _, _ => False
/-- 'for .. := range g': K: the blocks, there ahead of the loop, that the body writes -/
theorem c_rangeK {N M : Nat} {P : Program} {g : Operand} {ps : List Tmp} {assign body : Code} {Q : Exit → Act → World → Prop} {e : Nat → Value} {w0 w : World} {n gf : Nat} {lb : Array Value}
    (hl : Operand.lt N g = true) (hg : ev e g = .func (.func gf) #[] lb) (hb : kBody P gf = true) (hps : ps.all (fun p => Nat.blt p N) = true) (E0 : Ext w0 w)
    (encs : Fin M → List Value) (hsz : ∀ x, (encs x).length = ps.length) (K : Nat → Prop) (hK : ∀ i, K i → w0.heap.size ≤ i ∧ i < w.heap.size)
    (hseq : SeqStopsK Fence.wide 1 P gf lb (fun x => (encs x).toArray) (Keep (fun i => K i ∨ w.heap.size ≤ i)) (fun ys => ys = List.finRange M) (fun pre => pre <+: List.finRange M) M w)
    (I : List (Fin M) → World → Prop) (Ix : Code → List (Fin M) → World → Prop) (hI : ∀ s W W', Turn w.heap.size W W' → I s W → I s W') (hIx : ∀ c s W W', Turn w.heap.size W W' → Ix c s W → Ix c s W') (h0 : I [] w)
    (A : Fin M → (Nat → Value) → World → Prop) (hA : ∀ x e' W W', Turn w.heap.size W W' → A x e' W → A x e' W')
    (hassign : ∀ l pre x W, Ext w0 W → Keep K w W → I pre W → assign.wpIn (Fw (some l)) 0 P (Exit.then (fun a' W' => ∃ e', a' = FrD N e' [] ∧ Ext W W' ∧ I pre W' ∧ A x e' W') (fun _ _ _ => False)) (FrD N (updz e ps (encs x)) []) W)
    (hbody : ∀ l pre x e' W, Ext w0 W → Keep K w W → I pre W → A x e' W → pre.length < M → body.wpIn (Fw (some l)) 0 P (RPost K I Ix (pre ++ [x]) W) (FrD N e' []) W)
    (hdone : ∀ D W, w.heap.size ≤ D → Ext w0 W → Keep K w W → I (List.finRange M) W → DefB W D → Q .normal (FrD N e (mk1 D)) W)
    (hstop : ∀ D c pre W, w.heap.size ≤ D → Ext w0 W → Keep K w W → pre <+: List.finRange M → Ix c pre W → DefB W D → c.wpIn (Fw none) n P Q (FrD N e (mk1 D)) W) :
    (Code.rangeFunc g ps.toArray assign body).wpIn (Fw none) n P Q (FrD N e []) w := by
  refine c_range hl hg hb hps encs hsz (fun i => K i ∨ w.heap.size ≤ i) (fun i h => .inr h) hseq (fun s W => Ext w0 W ∧ Keep K w W ∧ I s W) (fun c s W => Ext w0 W ∧ Keep K w W ∧ Ix c s W)
    (fun s W W' t h => ⟨h.1.turn t E0.size, h.2.1.turn t (Nat.le_refl _), hI s W W' t h.2.2⟩) (fun c s W W' t h => ⟨h.1.turn t E0.size, h.2.1.turn t (Nat.le_refl _), hIx c s W W' t h.2.2⟩) ⟨E0, Keep.refl _, h0⟩ A hA ?_ ?_ ?_ ?_
  · rintro l pre x W ⟨h1, h2, h3⟩
    refine wpIn_mono (hassign l pre x W h1 h2 h3) ?_
    intro ex a' W' hq
    cases ex with
    | normal =>
      obtain ⟨e', he, hx, hi, ha⟩ := hq
      exact ⟨e', he, hx, ⟨h1.trans hx, h2.trans (Ext.keep hx), hi⟩, ha⟩
    | _ => exact hq.elim
  · rintro l pre x e' W ⟨h1, h2, h3⟩ ha hlt
    refine wpIn_mono (hbody l pre x e' W h1 h2 h3 ha hlt) ?_
    have kf : ∀ W', Keep K W W' → KeepsFrom w.heap.size W W' := fun W' k => keepsFrom_keep k (fun b hB hk => absurd (hK b hk).2 (by omega))
    have kx : ∀ W', Keep K W W' → Ext w0 W' := fun W' k => h1.step k (fun i hi hk => absurd (hK i hk).1 (by omega))
    intro ex a' W' hq
    cases ex with
    | normal => exact ⟨kf W' hq.1, hq.1.mono (fun i _ h => .inl h), kx W' hq.1, h2.trans hq.1, hq.2⟩
    | ret => exact ⟨kf W' hq.1, kx W' hq.1, h2.trans hq.1, hq.2⟩
    | exit i => exact ⟨kf W' hq.1, kx W' hq.1, h2.trans hq.1, hq.2⟩
    | _ => exact hq.elim
  · rintro D W hD ⟨h1, h2, h3⟩ hd
    exact hdone D W hD h1 h2 h3 hd
  · rintro D c pre W hD hp ⟨h1, h2, h3⟩ hd
    exact hstop D c pre W hD h1 h2 hp h3 hd
/-- a call of yield -/
theorem to_yield {P : Program} {d : Option Tmp} {ty : TypeId} {p : String} {af : Array Edge} {g : Option (Nat × Bool)} {e : Nat → Value} {w : World} {K : Value → World → Prop} {f : Operand} {args : Array Operand} {ts : Array TypeId} {l m : Nat} {vs : Array Value}
    (hf : ev e f = .func (.yield l) #[] #[]) (ha : args.map (ev e) = vs) (h : YieldAt Fence.wide m P l vs w (fun en w' => ∃ v, en = .returned v ∧ K v w')) : OpTo P ⟨d, .call { callee := .value f, args := args, argTypes := ts }, ty, p, af, g⟩ e w K := by
  obtain ⟨fn, tmps, assign, body, hy, hR⟩ := h
  subst ha
  have hr : (execOp (ev e) ⟨d, .call { callee := .value f, args := args, argTypes := ts }, ty, p, af, g⟩).run P w = .ok (.round l fn tmps assign body) w := by
    simp only [execOp, resolve, hf, Deferred.ofValue]
    simp [invoke, hy]
  unfold OpTo
  rw [hr]
  exact ⟨hR.1, fun c cs _ => hR.2 c cs (room_wide _)⟩
theorem to_yield1 {P : Program} {d : Option Tmp} {ty : TypeId} {p : String} {af : Array Edge} {g : Option (Nat × Bool)} {e : Nat → Value} {w : World} {K : Value → World → Prop} {f x0 : Operand} {ts : Array TypeId} {l m : Nat} {v0 : Value}
    (hf : ev e f = .func (.yield l) #[] #[]) (h0 : ev e x0 = v0) (h : YieldAt Fence.wide m P l #[v0] w (fun en w' => ∃ v, en = .returned v ∧ K v w')) : OpTo P ⟨d, .call { callee := .value f, args := #[x0], argTypes := ts }, ty, p, af, g⟩ e w K := to_yield hf (by simp [h0]) h
theorem to_yield2 {P : Program} {d : Option Tmp} {ty : TypeId} {p : String} {af : Array Edge} {g : Option (Nat × Bool)} {e : Nat → Value} {w : World} {K : Value → World → Prop} {f x0 x1 : Operand} {ts : Array TypeId} {l m : Nat} {v0 v1 : Value}
    (hf : ev e f = .func (.yield l) #[] #[]) (h0 : ev e x0 = v0) (h1 : ev e x1 = v1) (h : YieldAt Fence.wide m P l #[v0, v1] w (fun en w' => ∃ v, en = .returned v ∧ K v w')) : OpTo P ⟨d, .call { callee := .value f, args := #[x0, x1], argTypes := ts }, ty, p, af, g⟩ e w K := to_yield hf (by simp [h0, h1]) h
/-- an iterator's contract -/
theorem seq_mk {M : Nat} {P : Program} {gf : Nat} {lb : Array Value} {encs : Fin M → List Value} {Kp : Nat → Prop} {w0 : World}
    (h : ∀ (l : Nat) (J Jx : List (Fin M) → World → Prop) (W : World), Ext w0 W → (∀ s A B, Ext A B → J s A → J s B) → (∀ s A B, Ext A B → Jx s A → Jx s B) →
      (∀ pre x W1, J pre W1 → pre.length < M → YieldAt Fence.wide 0 P l (encs x).toArray W1 (fun en W' => ∃ v, en = .returned v ∧ ((v = .bool true ∧ J (pre ++ [x]) W' ∧ Keep Kp W1 W') ∨ (v = .bool false ∧ Jx (pre ++ [x]) W')))) →
      J [] W → CallsR P gf (#[.func (.yield l) #[] #[]] ++ lb) W (fun _ W' => J (List.finRange M) W' ∨ ∃ pre, pre <+: List.finRange M ∧ Jx pre W')) :
    SeqStopsK Fence.wide 1 P gf lb (fun x => (encs x).toArray) (Keep Kp) (fun ys => ys = List.finRange M) (fun pre => pre <+: List.finRange M) M w0 := by
  intro l J Jx W hW hJ hJx hY h0
  have hx : Ext w0 W := ⟨hW.os, hW.tape, hW.output, hW.size, fun k hk _ => hW.block k hk⟩
  have := h l J Jx W hx (fun s A B e hs => hJ s A B none hs e.grown (fun r hr => by cases hr)) (fun s A B e hs => hJx s A B none hs e.grown (fun r hr => by cases hr)) (fun pre x W1 hj hl => (hY pre x W1 hj hl).mono fun en W' hR => by
    rcases hR with ⟨rfl, h1, h2⟩ | ⟨rfl, h1⟩
    · exact ⟨_, rfl, .inl ⟨rfl, h1, h2⟩⟩
    · exact ⟨_, rfl, .inr ⟨rfl, h1⟩⟩) h0
  refine callsIn_wide.2 (Calls.mono this ?_)
  rintro en W' ⟨v, rfl, hv⟩
  refine ⟨⟨v, rfl⟩, ?_⟩
  rcases hv with h1 | h1
  · exact .inl ⟨_, rfl, h1⟩
  · exact .inr h1
theorem enterM {P : Program} {f : Nat} {fn : Func} {c : Code} {l : List Value} {w : World} {R : Value → World → Prop} (N : Nat) (hf : P.funcs[f]? = some fn) (hb : fn.body = some c) (hN : fn.ntmps = N) (hl : l.length ≤ N)
    (h : c.wpIn (Fw none) 0 P (bodyPostM (Fw none) 0 P fn (Ret R)) (FrD N (argEnv l) []) w) : CallsR P f l.toArray w R := by
  refine callsIn_wide.1 (callsIn_of_wp_marks (F := Fence.wide) (n := 0) hf hb trivial ?_)
  rw [hN, fr_args l hl]; exact h
section
variable {n : Nat} {P : Program} {fn : Func} {N : Nat} {e : Nat → Value} {w : World} {R : Value → World → Prop}
theorem retM0 {t : Tmp} (hr : fn.results = #[.tmp t]) (ht : t < N) (h : R (e t) w) : bodyPostM (Fw none) n P fn (Ret R) .ret (FrD N e []) w :=
  ⟨e t, by rw [results_tmp hr]; simp [FrD, Fr, Array.getD, ht], e t, rfl, h⟩
theorem retM0v {t : Tmp} {v : Value} (hr : fn.results = #[.tmp t]) (ht : t < N) (hv : e t = v) (h : R v w) : bodyPostM (Fw none) n P fn (Ret R) .ret (FrD N e []) w := by subst hv; exact retM0 hr ht h
theorem retM1 {t : Tmp} {D : Nat} (hK : DefB w D) (hr : fn.results = #[.tmp t]) (ht : t < N) (h : R (e t) (w.putObj D (.deferred none))) : bodyPostM (Fw none) n P fn (Ret R) .ret (FrD N e (mk1 D)) w := by
  refine ⟨by simp, .inl ⟨_, _, rfl, run_takeDeferred hK, ?_⟩⟩
  exact ⟨e t, by rw [results_tmp hr]; simp [FrD, Fr, Array.getD, ht], e t, rfl, h⟩
theorem retM1v {t : Tmp} {D : Nat} {v : Value} (hK : DefB w D) (hr : fn.results = #[.tmp t]) (ht : t < N) (hv : e t = v) (h : R v (w.putObj D (.deferred none))) : bodyPostM (Fw none) n P fn (Ret R) .ret (FrD N e (mk1 D)) w := by subst hv; exact retM1 hK hr ht h
theorem ret0M0 (hr : fn.results = #[]) (h : R (.tuple #[]) w) : bodyPostM (Fw none) n P fn (Ret R) .ret (FrD N e []) w :=
  ⟨.tuple #[], by rw [results_none hr], _, rfl, h⟩
end
theorem keep_put {K : Nat → Prop} {w0 w : World} {D : Nat} (h : Keep K w0 w) (hD : w0.heap.size ≤ D) (o : Obj) : Keep K w0 (w.putObj D o) :=
  h.step (Keep.of_grownBy (grownBy_putObj' w D o)) (fun i hi he => by cases he; omega)
theorem turn_put {w : World} {B D : Nat} (hD : DefB w D) (hB : B ≤ D) (o : Obj) : Turn B w (w.putObj D o) :=
  Turn.of_grownBy (grownBy_putObj' w D o) (fun r e => by cases e; exact ⟨hB, _, hD, rfl⟩)

/-! ### stores into one block, one behind the other, in a region of any order -/
def sv (s : Option Nat) (v : Value) (vals : Nat → Value) : Value := match s with
  | some k => vals k
  | none => v
def conts (cs : List Value) (vals : Nat → Value) : List (Nat × Nat × Option Nat × Value) → List Value
  | [] => cs
  | a :: l => conts (cs.set a.2.1 (sv a.2.2.1 a.2.2.2 vals)) vals l
theorem conts_congr {vals vals' : Nat → Value} : ∀ (l : List (Nat × Nat × Option Nat × Value)) (cs : List Value), (∀ a ∈ l, ∀ k, a.2.2.1 = some k → vals k = vals' k) → conts cs vals l = conts cs vals' l
  | [], _, _ => rfl
  | a :: l, cs, h => by
    have h0 : sv a.2.2.1 a.2.2.2 vals = sv a.2.2.1 a.2.2.2 vals' := by
      cases hs : a.2.2.1 with
      | none => rfl
      | some k => exact h a List.mem_cons_self k hs
    simp only [conts, h0]
    exact conts_congr l _ (fun b hb => h b (List.mem_cons_of_mem _ hb))
theorem conts_snoc {vals : Nat → Value} (a : Nat × Nat × Option Nat × Value) : ∀ (l : List (Nat × Nat × Option Nat × Value)) (cs : List Value), conts cs vals (l ++ [a]) = (conts cs vals l).set a.2.1 (sv a.2.2.1 a.2.2.2 vals)
  | [], _ => rfl
  | b :: l, cs => conts_snoc a l _
theorem conts_len {vals : Nat → Value} : ∀ (l : List (Nat × Nat × Option Nat × Value)) (cs : List Value), (conts cs vals l).length = cs.length
  | [], _ => rfl
  | a :: l, cs => by simp only [conts]; rw [conts_len l]; simp
def StJ (b : Nat) (T : TypeId) (cs : List Value) (as : List (Nat × Nat × Option Nat × Value)) (done : Nat → Bool) (vals : Nat → Value) (w : World) : Prop :=
  ∃ c, c ≤ as.length ∧ (∀ i a, as[i]? = some a → (done a.1 = true ↔ i < c)) ∧ (∀ i a, as[i]? = some a → i < c → ∀ k, a.2.2.1 = some k → done k = true) ∧ Blk w b (conts cs vals (as.take c)) T
def dSt (as : List (Nat × Nat × Option Nat × Value)) (i : Nat) : Bool := as.any fun a => Nat.beq a.1 i || (match a.2.2.1 with | some k => Nat.beq k i | none => false)
section
variable {b : Nat} {T : TypeId} {cs : List Value} {as : List (Nat × Nat × Option Nat × Value)} {done : Nat → Bool} {vals : Nat → Value} {w w' : World}
theorem dSt_op {i : Nat} {a : Nat × Nat × Option Nat × Value} (h : as[i]? = some a) : dSt as a.1 = true := List.any_eq_true.2 ⟨a, List.mem_of_getElem? h, by simp⟩
theorem dSt_src {a : Nat × Nat × Option Nat × Value} {k : Nat} (h : a ∈ as) (hk : a.2.2.1 = some k) : dSt as k = true := List.any_eq_true.2 ⟨a, h, by simp [hk]⟩
theorem StJ.on : JOn (dSt as) (StJ b T cs as) := by
  rintro done vals done' vals' w h ⟨c, hc, h1, h2, h3⟩
  refine ⟨c, hc, fun i a ha => ?_, fun i a ha hi k hk => ?_, ?_⟩
  · rw [← (h a.1 (dSt_op ha)).1]; exact h1 i a ha
  · rw [← (h k (dSt_src (List.mem_of_getElem? ha) hk)).1]; exact h2 i a ha hi k hk
  · rw [← conts_congr (vals := vals) _ _ (fun a ha k hk => (h k (dSt_src (List.mem_of_mem_take ha) hk)).2)]; exact h3
theorem StJ.start (h : Blk w b cs T) (hd : ∀ a ∈ as, done a.1 = false) : StJ b T cs as done vals w :=
  ⟨0, Nat.zero_le _, fun i a ha => by rw [hd a (List.mem_of_getElem? ha)]; simp, fun i a _ hi => by omega, by simpa [conts] using h⟩
/-- what is no store -/
theorem StJ.src {k : Nat} {v : Value} (j : StJ b T cs as done vals w) (e : Ext w w') (hd : done k = false) (hk : (as.all fun a => !(Nat.beq a.1 k)) = true) : StJ b T cs as (don done k) (setv vals k v) w' := by
  obtain ⟨c, hc, h1, h2, h3⟩ := j
  have hne : ∀ (i : Nat) (a : Nat × Nat × Option Nat × Value), as[i]? = some a → a.1 ≠ k := fun i a ha he => by
    have := List.all_eq_true.1 hk a (List.mem_of_getElem? ha)
    rw [he] at this; simp at this
  refine ⟨c, hc, fun i a ha => ?_, fun i a ha hi s hs => ?_, ?_⟩
  · have := hne i a ha
    simp only [don, if_neg this]; exact h1 i a ha
  · have := h2 i a ha hi s hs
    simp only [don]; split
    · rfl
    · exact this
  · rw [conts_congr (vals := setv vals k v) (vals' := vals) _ _ (fun a ha s hs => ?_)]
    · exact h3.ext e
    · obtain ⟨i, hi⟩ := List.mem_iff_getElem?.1 ha
      have hil : i < c := by
        have := (List.getElem?_eq_some_iff.1 hi).1
        simp at this; omega
      rw [List.getElem?_take_of_lt hil] at hi
      have := h2 i a hi hil s hs
      have : s ≠ k := fun he => by subst he; rw [hd] at this; cases this
      simp [setv, this]
theorem StJ.at {n k off : Nat} {s : Option Nat} {v : Value} (j : StJ b T cs as done vals w) (hk : as[n]? = some (k, off, s, v)) (hd : done k = false) (hp : ∀ m, n = m + 1 → ∃ a, as[m]? = some a ∧ done a.1 = true) : Blk w b (conts cs vals (as.take n)) T := by
  obtain ⟨c, hc, h1, h2, h3⟩ := j
  have a1 : ¬ n < c := fun h => by have := (h1 n _ hk).2 h; rw [hd] at this; cases this
  have a2 : n ≤ c := by
    cases n with
    | zero => exact Nat.zero_le _
    | succ m => obtain ⟨a, ha, hda⟩ := hp m rfl; exact (h1 m a ha).1 hda
  have : c = n := by omega
  subst this; exact h3
theorem StJ.step {n k off : Nat} {s : Option Nat} {v u : Value} (j : StJ b T cs as done vals w) (hk : as[n]? = some (k, off, s, v)) (hd : done k = false) (hp : ∀ m, n = m + 1 → ∃ a, as[m]? = some a ∧ done a.1 = true) (hs : ∀ k', s = some k' → done k' = true)
    (hone : ∀ i a, as[i]? = some a → a.1 = k → i = n) (hns : (as.all fun a => match a.2.2.1 with | some q => !(Nat.beq q k) | none => true) = true)
    (hB : Blk w' b ((conts cs vals (as.take n)).set off (sv s v vals)) T) : StJ b T cs as (don done k) (setv vals k u) w' := by
  obtain ⟨c, hc, h1, h2, h3⟩ := j
  have a1 : ¬ n < c := fun h => by have := (h1 n _ hk).2 h; rw [hd] at this; cases this
  have a2 : n ≤ c := by
    cases n with
    | zero => exact Nat.zero_le _
    | succ m => obtain ⟨a, ha, hda⟩ := hp m rfl; exact (h1 m a ha).1 hda
  have : c = n := by omega
  subst this
  have hlt := (List.getElem?_eq_some_iff.1 hk).1
  have hq : ∀ a ∈ as, ∀ q, a.2.2.1 = some q → q ≠ k := fun a ha q hq he => by
    have := List.all_eq_true.1 hns a ha
    subst he; simp [hq] at this
  refine ⟨c + 1, by omega, fun i a ha => ?_, fun i a ha hi q hq' => ?_, ?_⟩
  · by_cases hak : a.1 = k
    · have := hone i a ha hak; subst this; simp [don, hak]
    · simp only [don, if_neg hak]
      rw [h1 i a ha]
      constructor
      · intro h; omega
      · intro h
        rcases Nat.lt_or_ge i c with h' | h'
        · exact h'
        · have : i = c := by omega
          subst this; rw [hk] at ha; cases ha; exact absurd rfl hak
  · have hne := hq a (List.mem_of_getElem? ha) q hq'
    simp only [don, if_neg hne]
    rcases Nat.lt_or_ge i c with h' | h'
    · exact h2 i a ha h' q hq'
    · have : i = c := by omega
      subst this; rw [hk] at ha; cases ha; exact hs q hq'
  · have e1 : as.take (c + 1) = as.take c ++ [(k, off, s, v)] := by
      rw [List.take_add_one, hk]; rfl
    rw [conts_congr (vals := setv vals k u) (vals' := vals) _ _ (fun a ha q hq' => by simp [setv, hq a (List.mem_of_mem_take ha) q hq']), e1, conts_snoc]
    exact hB
theorem StJ.fin (j : StJ b T cs as (fun _ => true) vals w) : Blk w b (conts cs vals as) T := by
  obtain ⟨c, hc, h1, h2, h3⟩ := j
  have : c = as.length := by
    rcases Nat.lt_or_ge c as.length with h | h
    · have := (h1 c as[c] (by simp [h])).1 rfl; omega
    · omega
  subst this; simpa using h3
/-- what is read ahead of the first store -/
theorem StJ.at0 {ops : Array Oper} {k : Nat} (j : StJ b T cs as done vals w) (hcl : Closed ops done) (hdk : done k = false) (h : ∃ a o, as[0]? = some a ∧ ops[a.1]? = some o ∧ edgeOn o k = true) : Blk w b cs T := by
  obtain ⟨c, hc, h1, h2, h3⟩ := j
  obtain ⟨a, o, ha, ho, he⟩ := h
  cases c with
  | zero => simpa [conts] using h3
  | succ c =>
    have hd := (h1 0 a ha).2 (by omega)
    have := hcl a.1 o hd ho k he
    rw [hdk] at this; cases this
end
theorem st_lt {as : List (Nat × Nat × Option Nat × Value)} {n : Nat} (h : (as.all fun a => Nat.blt a.1 n) = true) : ∀ a ∈ as, a.1 < n := fun a ha => by
  have := List.all_eq_true.1 h a ha
  have h2 : a.1 + 1 ≤ n := by simpa [Nat.blt] using this
  exact h2
theorem SlV.one {α : Type} {t : Ty α} {w : World} {F : Nat → Prop} {v : Value} {xs : List α} (h : SlV t w F v xs) : v.oneCell' = true := by
  obtain ⟨a, c, rfl⟩ := h.shape; rfl
theorem once_st {as : List (Nat × Nat × Option Nat × Value)} {k n : Nat} (h : (List.range as.length).all (fun i => !(Nat.beq ((as.getD i (0, 0, none, undef)).1) k) || Nat.beq i n) = true) : ∀ i a, as[i]? = some a → a.1 = k → i = n := by
  intro i a hi hk
  have hlt := (List.getElem?_eq_some_iff.1 hi).1
  have h2 := List.all_eq_true.1 h i (List.mem_range.2 hlt)
  have h3 : as.getD i (0, 0, none, undef) = a := by simp [List.getD, hi]
  rw [h3, hk] at h2
  simpa using h2
section
variable {P : Program} {N : Nat} {ops : Array Oper} {Q : Exit → Act → World → Prop} {K : Nat → Prop} {J : (Nat → Bool) → (Nat → Value) → World → Prop} {D : Nat → Bool} {e0 : Nat → Value} {w0 : World} {l : List Oper} {k : Nat} {S : Nat → Value → World → Prop}
theorem rj_vJ {d : Option Tmp} {op : Op} {ty : TypeId} {p : String} {af : Array Edge} {t : Value}
    (h : ∀ done vals w, Keep K w0 w → Closed ops done → done k = false → J done vals w → (∀ j, edgeOn ⟨d, op, ty, p, af, none⟩ j = true → done j = true) → (∀ j, edgeOn ⟨d, op, ty, p, af, none⟩ j = true → S j (vals j) w) → OpVat P ⟨d, op, ty, p, af, none⟩ (envA ops vals e0 k) w t)
    (hj : ∀ done vals w, done k = false → J done vals w → J (don done k) (setv vals k t) w)
    (r : RegJ P N ops Q K J e0 w0 l (k + 1) (setS S k (fun v _ => v = t))) : RegJ P N ops Q K J e0 w0 (⟨d, op, ty, p, af, none⟩ :: l) k S := by
  refine ⟨_, fun _ _ _ h _ => h, fun done vals w hR hcl hdk hJ hdn hd => ?_, r⟩
  simp only [OpG, wantedE, Region.wanted, if_true]
  exact OpTo.of_v (h done vals w hR hcl hdk hJ hdn hd) ⟨Keep.refl _, rfl, hj done vals w hdk hJ⟩
theorem rj_to {d : Option Tmp} {op : Op} {ty : TypeId} {p : String} {af : Array Edge} (Sk : Value → World → Prop) (hs : ∀ v w w', Sk v w → Keep K w w' → Sk v w')
    (h : ∀ done vals w, Keep K w0 w → Closed ops done → done k = false → J done vals w → (∀ j, edgeOn ⟨d, op, ty, p, af, none⟩ j = true → done j = true) → (∀ j, edgeOn ⟨d, op, ty, p, af, none⟩ j = true → S j (vals j) w) → OpTo P ⟨d, op, ty, p, af, none⟩ (envA ops vals e0 k) w (fun v w' => Keep K w w' ∧ Sk v w' ∧ J (don done k) (setv vals k v) w'))
    (r : RegJ P N ops Q K J e0 w0 l (k + 1) (setS S k Sk)) : RegJ P N ops Q K J e0 w0 (⟨d, op, ty, p, af, none⟩ :: l) k S := by
  refine ⟨Sk, hs, fun done vals w hR hcl hdk hJ hdn hd => ?_, r⟩
  simp only [OpG, wantedE, Region.wanted, if_true]
  exact h done vals w hR hcl hdk hJ hdn hd
end
theorem results_cell {fn : Func} {p : Tmp} {ty : TypeId} (h : fn.results = #[.cell p ty]) (tmps : Array Value) (P : Program) (w : World) :
    (results fn tmps).run P w = ((asAddr (tmps.getD p undef)).run P w).andThen fun a w₁ => (loadVar ty a).run P w₁ := by
  simp only [results, h]
  simp [Sem.run_bind, Result.andThen]
section
variable {P : Program} {fn : Func} {N : Nat} {e : Nat → Value} {w : World} {R : Value → World → Prop}
theorem ret1c {t : Tmp} {ty : TypeId} {n : Nat} {a : Addr} {cs : List Value} (hr : fn.results = #[.cell t ty]) (ht : t < N) (hp : e t = .pointer (some a)) (hk : kAgg P ty n = true) (hc : Pv w a cs) (hn : cs.length = n)
    (h : R (.agg cs.toArray) w) : bodyPost P fn (Ret R) .ret (FrD N e []) w := by
  have h1 : (FrD N e []).tmps.getD t undef = .pointer (some a) := by simp [FrD, Fr, Array.getD, ht, hp]
  refine ⟨rfl, .agg cs.toArray, ?_, _, rfl, h⟩
  rw [results_cell hr, h1]
  have h3 : (asAddr (.pointer (some a))).run P w = .ok a w := rfl
  rw [h3]
  simp only [Result.andThen_ok]
  rw [run_loadVarA hk hc hn]
end
section
variable {P : Program} {N : Nat} {ops : Array Oper} {Q : Exit → Act → World → Prop} {K : Nat → Prop} {e0 : Nat → Value} {w0 : World} {l : List Oper} {k : Nat} {S : Nat → Value → World → Prop}
/-- a call whose answer is known -/
theorem rt_vf {d : Option Tmp} {op : Op} {ty : TypeId} {p : String} {af : Array Edge} {t : Value}
    (h : ∀ vals w, Keep K w0 w → (∀ j, edgeOn ⟨d, op, ty, p, af, none⟩ j = true → S j (vals j) w) → OpTo P ⟨d, op, ty, p, af, none⟩ (envA ops vals e0 k) w (fun v w' => v = t ∧ Ext w w'))
    (r : RegT P N ops Q K e0 w0 l (k + 1) (setS S k (fun v _ => v = t))) : RegT P N ops Q K e0 w0 (⟨d, op, ty, p, af, none⟩ :: l) k S := by
  refine ⟨_, fun _ _ _ h _ => h, fun vals w hR hd => ?_, r⟩
  simp only [OpG, wantedE, Region.wanted, if_true]
  exact (h vals w hR hd).mono fun v w' hv => ⟨Ext.keep hv.2, hv.1⟩
theorem rt_g1f {d : Option Tmp} {op : Op} {ty : TypeId} {p : String} {af : Array Edge} {g : Nat} {b c : Bool} {tt : Tmp} {t : Value} (hg : (ops[g]?).bind (·.dst) = some tt)
    (hc : ∀ vals w, (∀ j, edgeOn ⟨d, op, ty, p, af, some (g, b)⟩ j = true → S j (vals j) w) → envA ops vals e0 k tt = .bool c)
    (h : ∀ vals w, Keep K w0 w → (∀ j, edgeOn ⟨d, op, ty, p, af, some (g, b)⟩ j = true → S j (vals j) w) → (c == b) = true → OpTo P ⟨d, op, ty, p, af, some (g, b)⟩ (envA ops vals e0 k) w (fun v w' => v = t ∧ Ext w w'))
    (r : RegT P N ops Q K e0 w0 l (k + 1) (setS S k (fun v _ => v = bif (c == b) then t else undef))) : RegT P N ops Q K e0 w0 (⟨d, op, ty, p, af, some (g, b)⟩ :: l) k S := by
  refine ⟨_, fun _ _ _ h _ => h, fun vals w hR hd => ?_, r⟩
  unfold OpG
  rw [wanted1 hg (hc vals w hd)]
  cases hcb : (c == b) with
  | true => exact (h vals w hR hd hcb).mono fun v w' hv => ⟨Ext.keep hv.2, hv.1⟩
  | false => exact ⟨Keep.refl _, rfl⟩
theorem rt_g2f {d : Option Tmp} {op : Op} {ty : TypeId} {p : String} {af : Array Edge} {g : Nat} {b c G : Bool} {tt : Tmp} {t : Value} (hg : (ops[g]?).bind (·.dst) = some tt)
    (hc : ∀ vals w, (∀ j, edgeOn ⟨d, op, ty, p, af, some (g, b)⟩ j = true → S j (vals j) w) → envA ops vals e0 k tt = bif G then .bool c else undef)
    (h : ∀ vals w, Keep K w0 w → (∀ j, edgeOn ⟨d, op, ty, p, af, some (g, b)⟩ j = true → S j (vals j) w) → (G && (c == b)) = true → OpTo P ⟨d, op, ty, p, af, some (g, b)⟩ (envA ops vals e0 k) w (fun v w' => v = t ∧ Ext w w'))
    (r : RegT P N ops Q K e0 w0 l (k + 1) (setS S k (fun v _ => v = bif (G && (c == b)) then t else undef))) : RegT P N ops Q K e0 w0 (⟨d, op, ty, p, af, some (g, b)⟩ :: l) k S := by
  refine ⟨_, fun _ _ _ h _ => h, fun vals w hR hd => ?_, r⟩
  unfold OpG
  rw [wanted2 hg (hc vals w hd)]
  cases hcb : (G && (c == b)) with
  | true => exact (h vals w hR hd hcb).mono fun v w' hv => ⟨Ext.keep hv.2, hv.1⟩
  | false => exact ⟨Keep.refl _, rfl⟩
theorem rt_hvf {d : Option Tmp} {op : Op} {ty : TypeId} {p : String} {af : Array Edge} {g : Nat} {b : Bool} {tt : Tmp} {t : Value} (hg : (ops[g]?).bind (·.dst) = some tt)
    (hc : ∀ vals w, (∀ j, edgeOn ⟨d, op, ty, p, af, some (g, b)⟩ j = true → S j (vals j) w) → envA ops vals e0 k tt = .bool b)
    (h : ∀ vals w, Keep K w0 w → (∀ j, edgeOn ⟨d, op, ty, p, af, some (g, b)⟩ j = true → S j (vals j) w) → OpTo P ⟨d, op, ty, p, af, some (g, b)⟩ (envA ops vals e0 k) w (fun v w' => v = t ∧ Ext w w'))
    (r : RegT P N ops Q K e0 w0 l (k + 1) (setS S k (fun v _ => v = t))) : RegT P N ops Q K e0 w0 (⟨d, op, ty, p, af, some (g, b)⟩ :: l) k S :=
  rt_hto (fun v _ => v = t) (fun _ _ _ h _ => h) hg hc (fun vals w hR hd => (h vals w hR hd).mono fun v w' hv => ⟨Ext.keep hv.2, hv.1⟩) r
end
section
variable {P : Program} {fn : Func} {N : Nat} {e : Nat → Value} {w : World} {R : Value → World → Prop} {v1 v2 v3 : Value}
theorem ret1v {t : Tmp} (hr : fn.results = #[.tmp t]) (ht : t < N) (h1 : e t = v1) (h : R v1 w) : bodyPost P fn (Ret R) .ret (FrD N e []) w := by subst h1; exact ret1 hr ht h
theorem ret2v {t u : Tmp} (hr : fn.results = #[.tmp t, .tmp u]) (ht : t < N) (hu : u < N) (h1 : e t = v1) (h2 : e u = v2) (h : R (.tuple #[v1, v2]) w) : bodyPost P fn (Ret R) .ret (FrD N e []) w := by subst h1 h2; exact ret2 hr ht hu h
theorem ret3v {t u v : Tmp} (hr : fn.results = #[.tmp t, .tmp u, .tmp v]) (ht : t < N) (hu : u < N) (hv : v < N) (h1 : e t = v1) (h2 : e u = v2) (h3 : e v = v3) (h : R (.tuple #[v1, v2, v3]) w) : bodyPost P fn (Ret R) .ret (FrD N e []) w := by subst h1 h2 h3; exact ret3 hr ht hu hv h
theorem ret2cv {t u : Tmp} {ty : TypeId} {n : Nat} {a : Addr} {cs : List Value} (hr : fn.results = #[.cell t ty, .tmp u]) (ht : t < N) (hu : u < N) (hp : e t = .pointer (some a)) (hk : kAgg P ty n = true) (hc : Pv w a cs) (hn : cs.length = n) (h2 : e u = v2)
    (h : R (.tuple #[.agg cs.toArray, v2]) w) : bodyPost P fn (Ret R) .ret (FrD N e []) w := by subst h2; exact ret2c hr ht hu hp hk hc hn h
end
section
variable {P : Program} {d : Option Tmp} {ty : TypeId} {p : String} {af : Array Edge} {g : Option (Nat × Bool)} {e : Nat → Value} {w : World} {x y : Operand}
/-- 's[:h]' -/
theorem v_slicePre {T et sz : Nat} {a : Option Addr} {n c h : Nat} {kk : IntKind} {i : Int} (hk : kSlice P T et = true) (hs : kSize P et sz = true) (hx : ev e x = .slice a n c) (hy : ev e y = .int kk i) (hi : i = (h : Nat)) (hc : h ≤ c) :
    OpVat P ⟨d, .slice T x none (some y) none, ty, p, af, g⟩ e w (.slice a h c) := by
  subst hi
  have h1 : (Instr.sliceBound (.int kk (h : Int)) c .sliceAcap).run P w = .ok h w := by
    simp [Instr.sliceBound, asIntOf]; omega
  have hb : (Instr.sliceBounds true n c none (some (.int kk (h : Int))) none).run P w = .ok (0, h, c) w := by
    unfold Instr.sliceBounds
    simp [h1]
  have hv : (if c = 0 then a else a.map (·.add (0 * sz))) = a := by
    split
    · rfl
    · cases a with
      | none => rfl
      | some q => simp [Addr.add]
  simp [OpVat, execOp, hx, hy, Instr.sliceAt, Instr.slice, run_underlying (kSlice_of hk), hb, run_sizeOf hs]
  intro _
  cases a <;> simp [add_zero]
end
theorem OwV.pre {α : Type} {t : Ty α} {e : TypeId} {w : World} {B b n c m : Nat} {F : Nat → Prop} {xs : List α} (h : OwV t e w B F (.slice (some ⟨b, 0, none⟩) n c) xs) (hm : m ≤ xs.length) : OwV t e w B F (.slice (some ⟨b, 0, none⟩) m c) (xs.take m) := by
  obtain ⟨cells, h1, h2⟩ := h
  obtain ⟨hl, h1'⟩ := h1
  rcases h1' with ⟨h0, _⟩ | ⟨g, cap, cur, hv, hB, hg, h3, h4, h5, h6⟩
  · cases h0
  · cases hv
    refine ⟨cells.take (m * t.sz), ⟨?_, .inr ⟨b, c, cur, ?_, hB, hg, ?_, h4, h5, ?_⟩⟩, fun i x hx => ?_⟩
    · rw [List.length_take, hl, List.length_take, Nat.min_eq_left hm, Nat.min_eq_left (Nat.mul_le_mul_right _ hm)]
    · rw [List.length_take, Nat.min_eq_left hm]
    · rw [List.length_take, Nat.min_eq_left hm]; omega
    · rw [List.length_take, Nat.min_eq_left hm, ← h6, List.take_take, Nat.min_eq_left (Nat.mul_le_mul_right _ hm)]
    · have hi : i < m := by have := (List.getElem?_eq_some_iff.1 hx).1; rw [List.length_take] at this; omega
      rw [List.getElem?_take_of_lt hi] at hx
      have h7 := h2 i x hx
      have he : ((cells.take (m * t.sz)).drop (i * t.sz)).take t.sz = (cells.drop (i * t.sz)).take t.sz := by
        rw [List.drop_take, List.take_take]
        have : (i + 1) * t.sz ≤ m * t.sz := Nat.mul_le_mul_right _ hi
        rw [Nat.succ_mul] at this
        rw [Nat.min_eq_left (by omega)]
      rw [he]; exact h7
theorem OwV.fresh {α : Type} {t : Ty α} {e : TypeId} {w : World} {B B' : Nat} {v : Value} {xs : List α} (h : OwV t e w B NoK v xs) (hB : B' ≤ B) : SlV t w (fun b => B' ≤ b) v xs := h.view.mono fun b _ h => by rcases h with h | h; omega; exact h.elim
theorem OwV.one {α : Type} {t : Ty α} {e : TypeId} {w : World} {B : Nat} {F : Nat → Prop} {v : Value} {xs : List α} (h : OwV t e w B F v xs) : v.oneCell' = true := by
  obtain ⟨a, c, rfl⟩ := h.shape; rfl
theorem OwV.len_max {α : Type} {t : Ty α} {e : TypeId} {w : World} {B : Nat} {F : Nat → Prop} {v : Value} {xs : List α} (h : OwV t e w B F v xs) : xs.length ≤ 9223372036854775807 := by have := h.max; simpa [maxLen] using this
theorem OwV.cap {α : Type} {t : Ty α} {e : TypeId} {w : World} {B n c : Nat} {F : Nat → Prop} {a : Option Addr} {xs : List α} (h : OwV t e w B F (.slice a n c) xs) : xs.length ≤ c := by
  obtain ⟨cells, ⟨_, h1⟩, _⟩ := h
  rcases h1 with ⟨h0, h2⟩ | ⟨g, cap, cur, hv, hB, hg, h3, _⟩
  · omega
  · cases hv; exact h3
theorem OwV.addr {α : Type} {t : Ty α} {e : TypeId} {w : World} {B n c : Nat} {F : Nat → Prop} {a : Option Addr} {xs : List α} (h : OwV t e w B F (.slice a n c) xs) (hne : xs ≠ []) : ∃ b, a = some ⟨b, 0, none⟩ ∧ B ≤ b ∧ b < w.heap.size := by
  have h' := h
  obtain ⟨cells, ⟨_, h1⟩, _⟩ := h
  rcases h1 with ⟨h0, h2⟩ | ⟨g, cap, cur, hv, hB, hg, h3, _⟩
  · exact absurd (List.eq_nil_of_length_eq_zero h2) hne
  · cases hv; exact ⟨g, rfl, h'.own_lt rfl⟩
/-! ### an iterator over a slice -/
theorem SlV.pick {α : Type} {t : Ty α} {w : World} {F : Nat → Prop} {a : Option Addr} {n c : Nat} {xs : List α} (h : SlV t w F (.slice a n c) xs) : ∃ css : Nat → List Value, ∀ i x, xs[i]? = some x → ∃ q, a = some q ∧ F q.block ∧ q.block < w.heap.size ∧ Pv w (q.add (i * t.sz)) (css i) ∧ t.rep w F (css i) x := by
  have h1 : ∀ i, ∃ cs : List Value, ∀ x, xs[i]? = some x → ∃ q, a = some q ∧ F q.block ∧ q.block < w.heap.size ∧ Pv w (q.add (i * t.sz)) cs ∧ t.rep w F cs x := by
    intro i
    cases hx : xs[i]? with
    | none => exact ⟨[], fun x h => by cases h⟩
    | some y =>
      obtain ⟨a', c', hv, h1, h2, h3, h4⟩ := h
      cases hv
      obtain ⟨q, cs, h5, h6, h7, h8⟩ := h4 i y hx
      have hl := rep_lt h7 h8
      rw [add_block] at hl
      exact ⟨cs, fun x hh => by cases hh; exact ⟨q, h5, h6, hl, h7, h8⟩⟩
  exact ⟨fun i => Classical.choose (h1 i), fun i => Classical.choose_spec (h1 i)⟩
theorem finRange_take {n i : Nat} (h : i < n) : (List.finRange n).take (i + 1) = (List.finRange n).take i ++ [⟨i, h⟩] := by
  rw [List.take_add_one]
  have : (List.finRange n)[i]? = some ⟨i, h⟩ := by simp [List.getElem?_eq_some_iff, h]
  rw [this]; rfl
theorem finRange_all {n i : Nat} (h : n ≤ i) : (List.finRange n).take i = List.finRange n := List.take_of_length_le (by simpa using h)
theorem yb {A B : Prop} {v : Value} (h : (v = .bool true ∧ A) ∨ (v = .bool false ∧ B)) : ∃ b, v = .bool b ∧ (b = true → A) ∧ (b = false → B) := by
  rcases h with ⟨h, a⟩ | ⟨h, a⟩
  · exact ⟨true, h, (fun _ => a), (fun h => by cases h)⟩
  · exact ⟨false, h, (fun h => by cases h), (fun _ => a)⟩
theorem setAt_all {cs0 cs : List Value} (h : cs0.length = cs.length) : setAt cs0 0 cs = cs := by
  simp [setAt, ← h]
theorem pre_fin {n : Nat} {q : List (Fin n)} {x : Fin n} (h : q ++ [x] <+: List.finRange n) : x.val = q.length ∧ ∀ j (hn : j < n), j < q.length → (⟨j, hn⟩ : Fin n) ∈ q := by
  obtain ⟨r, hr⟩ := h
  have hl := congrArg List.length hr
  simp at hl
  have at_ : ∀ j (hj : j < n), (q ++ [x] ++ r)[j]? = some ⟨j, hj⟩ := fun j hj => by rw [hr]; simp [List.getElem?_eq_some_iff, hj]
  constructor
  · have h1 := at_ q.length (by omega)
    simp at h1
    rw [h1]
  · intro j hn hj
    have h1 := at_ j hn
    rw [List.append_assoc, List.getElem?_append_left hj] at h1
    exact List.mem_of_getElem? h1
theorem find_none {α : Type} {xs : List α} {p : α → Bool} (h : ∀ x ∈ List.finRange xs.length, p (xs.get x) = false) : xs.findIdx? p = none := by
  rw [List.findIdx?_eq_none_iff]
  intro x hx
  obtain ⟨i, hi⟩ := List.mem_iff_getElem?.1 hx
  have hlt := (List.getElem?_eq_some_iff.1 hi).1
  have := h ⟨i, hlt⟩ (List.mem_finRange _)
  simp at this
  have h2 := (List.getElem?_eq_some_iff.1 hi).2
  rw [← h2]; exact this
theorem find_some {α : Type} {xs : List α} {p : α → Bool} {q : List (Fin xs.length)} {x : Fin xs.length} (h : q ++ [x] <+: List.finRange xs.length) (hq : ∀ y ∈ q, p (xs.get y) = false) (hx : p (xs.get x) = true) : xs.findIdx? p = some x.val := by
  obtain ⟨h1, h2⟩ := pre_fin h
  rw [List.findIdx?_eq_some_iff_getElem]
  refine ⟨x.isLt, by simpa using hx, fun j hj => ?_⟩
  have := hq ⟨j, by have := x.isLt; omega⟩ (h2 j _ (by omega))
  simp at this
  simp [this]
end Go.Vc
