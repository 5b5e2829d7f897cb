/- A part of the proof: steps and lemmas for the walks through the given program. -/
import Derived.Test.YtifnkmflmgnfjaaGx
import Derived.Test.YtifnkmflmgnfjaaGy
namespace Go.Vc
set_option linter.unusedVariables false
set_option linter.unusedSimpArgs false
/-! ### iterators that range over iterators -/
theorem Turn.le {B B' : Nat} {w w' : World} (h : Turn B' w w') (hB : B ≤ B') : Turn B w w' := by
  obtain ⟨K, k, hK⟩ := h
  exact ⟨K, k, fun b hb hk => ⟨Nat.le_trans hB (hK b hb hk).1, (hK b hb hk).2⟩⟩
theorem Turn.low {B i : Nat} {w w' : World} (h : Turn B w w') (hi : i < w.heap.size) (hB : i < B) : w'.heap[i]? = w.heap[i]? := by
  obtain ⟨K, k, hK⟩ := h
  exact k.block i hi fun hk => by have := (hK i hi hk).1; omega
theorem Turn.refl (B : Nat) (w : World) : Turn B w w := ⟨NoK, Keep.refl _, fun _ _ h => h.elim⟩
theorem Ext.turn {B : Nat} {w w' : World} (h : Ext w w') : Turn B w w' := ⟨NoK, h, fun _ _ h => h.elim⟩
/-- an iterator's contract, where what the loop relies on may stand behind other loops' records: Y: what holds where it yields -/
def SeqT {α : Type} (P : Program) (gf : Nat) (lb : Array Value) (encs : α → List Value) (Y : List α → α → World → Prop) (Kp : Nat → Prop) (S Sp : List α → Prop) (w0 : World) : Prop :=
  ∀ (l : Nat) (J Jx : List α → World → Prop) (W : World), Ext w0 W → w0.heap.size + 2 ≤ W.heap.size → (∀ s A B, Turn W.heap.size A B → J s A → J s B) → (∀ s A B, Turn W.heap.size A B → Jx s A → Jx s B) →
    (∀ pre x W1, J pre W1 → Y pre x W1 → YieldAt Fence.wide 0 P l (encs x).toArray W1 (fun en W' => ∃ v, en = .returned v ∧ ((v = .bool true ∧ J (pre ++ [x]) W' ∧ Keep Kp W1 W') ∨ (v = .bool false ∧ Jx (pre ++ [x]) W' ∧ Keep Kp W1 W')))) →
    J [] W → CallsR P gf (#[.func (.yield l) #[] #[]] ++ lb) W (fun _ W' => (∃ xs, S xs ∧ J xs W') ∨ ∃ pre, Sp pre ∧ Jx pre W')
theorem c_rangeT {Kz : Nat → Prop} {α : Type} {N : Nat} {P : Program} {g : Operand} {ps : List Tmp} {assign body : Code} {Q : Exit → Act → World → Prop} {e : Nat → Value} {w0 w : World} {n gf : Nat} {lb : Array Value}
    (hl : Operand.lt N g = true) (hg : ev e g = .func (.func gf) #[] lb) (hb : kBody P gf = true) (hps : ps.all (fun p => Nat.blt p N) = true) (E0 : Keep Kz w0 w)
    (encs : α → List Value) (hsz : ∀ x, (encs x).length = ps.length) (Y : List α → α → World → Prop) (S Sp : List α → Prop) (K : Nat → Prop) (hK : ∀ i, K i → (i < w0.heap.size → Kz i) ∧ i < w.heap.size)
    (hseq : SeqT P gf lb encs Y (fun i => K i ∨ i = w.heap.size ∨ i = w.heap.size + 1) S Sp w)
    (I : List α → World → Prop) (Ix : Code → List α → World → Prop) (hI : ∀ s W W', Turn w.heap.size W W' → I s W → I s W') (hIx : ∀ c s W W', Turn w.heap.size W W' → Ix c s W → Ix c s W') (h0 : I [] w)
    (A : List α → α → (Nat → Value) → World → Prop) (hA : ∀ pre x e' W W', Turn2 w.heap.size W W' → A pre x e' W → A pre x e' W')
    (hassign : ∀ l pre x W, Keep Kz w0 W → Keep K w W → Y pre x W → I pre W → assign.wpIn (Fw (some l)) 0 P (Exit.then (fun a' W' => ∃ e', a' = FrD N e' [] ∧ Ext W W' ∧ I pre W' ∧ A pre x e' W') (fun _ _ _ => False)) (FrD N (updz e ps (encs x)) []) W)
    (hbody : ∀ l pre x e' W, Keep Kz w0 W → Keep K w W → I pre W → A pre x e' W → body.wpIn (Fw (some l)) 0 P (RPost K I Ix (pre ++ [x]) W) (FrD N e' []) W)
    (hdone : ∀ D xs W, w.heap.size ≤ D → Keep Kz w0 W → Keep K w W → S xs → I xs W → DefB W D → Q .normal (FrD N e (mk1 D)) W)
    (hstop : ∀ D c pre W, w.heap.size ≤ D → Keep Kz w0 W → Keep K w W → Sp pre → Ix c pre W → DefB W D → c.wpIn (Fw none) n P Q (FrD N e (mk1 D)) W) :
    (Code.rangeFunc g ps.toArray assign body).wpIn (Fw none) n P Q (FrD N e []) w := by
  refine wpIn_wide.2 ((wpIn_wide (n := 2)).1 (wpIn_rangeFunc (F := Fence.wide) (n := 2) ?_))
  intro fn hfn
  obtain ⟨rec, hrec⟩ : ∃ rec : LoopState → Option Code → Loop, rec = fun st pe => { state := st, pending := pe, fn, tmps := (FrD N e []).tmps, params := ps.toArray, assign, body, defers := w.heap.size } := ⟨_, rfl⟩
  obtain ⟨W1, hW1⟩ : ∃ W1, (w.alloc (.deferred (some []))).alloc (.loop (rec .ready none)) = W1 := ⟨_, rfl⟩
  have x1 : Ext w W1 := by rw [← hW1]; exact (Ext.alloc _ _).trans (Ext.alloc _ _)
  have z1 : W1.heap.size = w.heap.size + 2 := by rw [← hW1]; simp
  have hL1 : W1.heap[w.heap.size + 1]? = some (.loop (rec .ready none)) := by
    rw [← hW1]
    have := heap_alloc_new (w.alloc (.deferred (some []))) (.loop (rec .ready none))
    simpa using this
  have hD1 : W1.heap[w.heap.size]? = some (.deferred (some [])) := by
    rw [← hW1]
    exact ((Ext.alloc _ _).blk (by simp)).trans (heap_alloc_new w _)
  refine ⟨w.heap.size + 1, [{ target := .collected w.heap.size, args := #[] }], W1, { target := .fn (.func gf) lb, args := #[.func (.yield (w.heap.size + 1)) #[] #[]] }, W1, gf, #[.func (.yield (w.heap.size + 1)) #[] #[]] ++ lb, W1, ?_, ?_, fun _ _ => trivial, ?_, fun h => by omega, ?_⟩
  · rw [← hW1, hrec]; exact run_enterLoop_outer _ _ _ _ _
  · have hg' : (FrD N e []).eval g = .func (.func gf) #[] lb := by rw [frD_eval hl]; exact hg
    simp only [resolve, hg']
    simp [go_sem]
  · simp [invoke, go_sem, run_callFunc hb]
  refine callsIn_wide.2 (Calls.mono (hseq (w.heap.size + 1)
    (fun pre W => (Keep Kz w0 W ∧ Keep K w W ∧ I pre W) ∧ W.heap[w.heap.size + 1]? = some (.loop (rec .ready none)) ∧ DefB W w.heap.size)
    (fun pre W => ∃ c, (Keep Kz w0 W ∧ Keep K w W ∧ Ix c pre W) ∧ W.heap[w.heap.size + 1]? = some (.loop (rec .done (some c))) ∧ DefB W w.heap.size)
    W1 x1 zo ?_ ?_ ?_ ⟨⟨E0.trans (Ext.keep x1), Ext.keep x1, hI _ _ _ (Ext.turn2 x1).turn h0⟩, hL1, hD1⟩) ?_)
  · rintro s A B x ⟨⟨h1, h2, h3⟩, h4, h5⟩
    rw [z1] at x
    have t := x.le (show w.heap.size ≤ w.heap.size + 2 by omega)
    exact ⟨⟨h1.turn t E0.size, h2.turn t (Nat.le_refl _), hI _ _ _ t h3⟩, (x.low (Array.getElem?_eq_some_iff.1 h4).1 zo).trans h4, (x.low (Array.getElem?_eq_some_iff.1 h5).1 zo).trans h5⟩
  · rintro s A B x ⟨c, ⟨h1, h2, h3⟩, h4, h5⟩
    rw [z1] at x
    have t := x.le (show w.heap.size ≤ w.heap.size + 2 by omega)
    exact ⟨c, ⟨h1.turn t E0.size, h2.turn t (Nat.le_refl _), hIx _ _ _ _ t h3⟩, (x.low (Array.getElem?_eq_some_iff.1 h4).1 zo).trans h4, (x.low (Array.getElem?_eq_some_iff.1 h5).1 zo).trans h5⟩
  · rintro pre x W ⟨⟨h1, h2, h3⟩, hl4, hd5⟩ hY
    have hz : w.heap.size + 1 < W.heap.size := (Array.getElem?_eq_some_iff.1 hl4).1
    have hy := run_yield (P := P) (args := (encs x).toArray) hl4 (by rw [hrec]; simpa using hsz x)
    refine ⟨_, _, _, _, hy, roundIn_of_wpIn trivial ?_⟩
    have hfr : ({ tmps := (((rec .ready none).params).zip (encs x).toArray).foldl (fun t (x : Nat × Value) => t.setIfInBounds x.1 x.2) (rec .ready none).tmps, defers := [] } : Act) = FrD N (updz e ps (encs x)) [] := by
      have := fold_updz (N := N) ps (encs x) e hps
      rw [hrec]
      simp only [FrD]
      congr 1
      rw [← this]
      simp
    have ha := hassign (w.heap.size + 1) pre x W h1 h2 hY h3
    rw [← hfr] at ha
    have ea : (rec .ready none).assign = assign := by rw [hrec]
    have eb : (rec .ready none).body = body := by rw [hrec]
    rw [ea]
    refine wpIn_mono ha ?_
    intro ex a' Wa hq
    cases ex with
    | normal =>
      obtain ⟨e', rfl, xa, hIa, hAa⟩ := hq
      have hl6 : Wa.heap[w.heap.size + 1]? = some (.loop (rec .ready none)) := (xa.blk hz).trans hl4
      have hd6 : DefB Wa w.heap.size := defB_keep hd5 xa (fun h => h)
      have hza : w.heap.size + 1 < Wa.heap.size := (Array.getElem?_eq_some_iff.1 hl6).1
      refine ⟨_, run_beginRound hl6 (by rw [hrec]), ?_⟩
      obtain ⟨rb, hrb⟩ : ∃ rb : Loop, rb = { rec .ready none with state := .busy } := ⟨_, rfl⟩
      rw [← hrb]
      have t2 : Turn2 w.heap.size Wa (Wa.putObj (w.heap.size + 1) (.loop rb)) := turn2_put hl6 _
      have hl7 : (Wa.putObj (w.heap.size + 1) (.loop rb)).heap[w.heap.size + 1]? = some (.loop rb) := World.putObj_heap_same hza
      have hd7 : DefB (Wa.putObj (w.heap.size + 1) (.loop rb)) w.heap.size := (World.putObj_heap_other zo).trans hd6
      have k7 : Keep (fun i => K i ∨ i = w.heap.size ∨ i = w.heap.size + 1) W (Wa.putObj (w.heap.size + 1) (.loop rb)) := Keep.trans (Ext.keep xa) (t2.keep.mono fun b _ h => .inr h)
      have E7 : Keep Kz w0 (Wa.putObj (w.heap.size + 1) (.loop rb)) := (h1.trans (Ext.keep xa)).turn t2.turn E0.size
      have K7 : Keep K w (Wa.putObj (w.heap.size + 1) (.loop rb)) := (h2.trans (Ext.keep xa)).turn t2.turn (Nat.le_refl _)
      have hbd := hbody (w.heap.size + 1) pre x e' _ E7 K7 (hI _ _ _ t2.turn hIa) (hA _ _ _ _ _ t2 hAa)
      rw [eb]
      refine wpIn_mono hbd ?_
      have fin : ∀ (jump : Option Code) (W3 : World), Keep K (Wa.putObj (w.heap.size + 1) (.loop rb)) W3 →
          ∃ W4, (Instr.endRound (w.heap.size + 1) jump).run P W3 = .ok (.bool jump.isNone) W4 ∧ Turn w.heap.size W3 W4 ∧ Turn2 w.heap.size W3 W4 ∧ Keep Kz w0 W4 ∧ Keep K w W4 ∧ Keep (fun i => K i ∨ i = w.heap.size ∨ i = w.heap.size + 1) W W4 ∧ W4.heap[w.heap.size + 1]? = some (.loop (rec (if jump.isNone then .ready else .done) jump)) ∧ DefB W4 w.heap.size := by
        intro jump W3 k3
        have hn : ∀ i, w.heap.size ≤ i → ¬ K i := fun i hi hk => by have := (hK i hk).2; omega
        have hl8 : W3.heap[w.heap.size + 1]? = some (.loop rb) := (k3.block _ (Array.getElem?_eq_some_iff.1 hl7).1 (hn _ zo)).trans hl7
        have hd8 : DefB W3 w.heap.size := defB_keep hd7 k3 (hn _ (Nat.le_refl _))
        have hr := run_endRound (P := P) jump hl8
        have t8 : Turn2 w.heap.size W3 (W3.putObj (w.heap.size + 1) (.loop { rb with state := if jump.isNone then .ready else .done, pending := jump })) := turn2_put hl8 _
        have E8 : Keep Kz w0 W3 := E7.step k3 (fun i hi hk => (hK i hk).1 hi)
        have K8 : Keep K w W3 := K7.trans k3
        refine ⟨_, hr, t8.turn, t8, E8.turn t8.turn E0.size, K8.turn t8.turn (Nat.le_refl _), Keep.trans (Keep.trans k7 (k3.mono fun i _ h => .inl h)) (t8.keep.mono fun b _ h => .inr h), ?_, (World.putObj_heap_other zo).trans hd8⟩
        rw [World.putObj_heap_same (Array.getElem?_eq_some_iff.1 hl8).1, hrb, hrec]
      intro ex a3 W3 hp
      cases ex with
      | normal =>
        obtain ⟨k3, hi3⟩ := hp
        obtain ⟨W4, hr, t4, _, E4, K4, kk, hl9, hd9⟩ := fin none W3 k3
        exact ⟨_, _, hr, _, rfl, .inl ⟨rfl, ⟨⟨E4, K4, hI _ _ _ t4 hi3⟩, hl9, hd9⟩, kk⟩⟩
      | ret =>
        obtain ⟨k3, hi3⟩ := hp
        obtain ⟨W4, hr, t4, _, E4, K4, kk, hl9, hd9⟩ := fin (some .ret) W3 k3
        exact ⟨_, _, hr, _, rfl, .inr ⟨rfl, ⟨.ret, ⟨E4, K4, hIx _ _ _ _ t4 hi3⟩, hl9, hd9⟩, kk⟩⟩
      | exit i =>
        obtain ⟨k3, hi3⟩ := hp
        obtain ⟨W4, hr, t4, _, E4, K4, kk, hl9, hd9⟩ := fin (some (.exit i)) W3 k3
        exact ⟨_, _, hr, _, rfl, .inr ⟨rfl, ⟨.exit i, ⟨E4, K4, hIx _ _ _ _ t4 hi3⟩, hl9, hd9⟩, kk⟩⟩
      | _ => exact hp.elim
    | _ => exact hq.elim
  · rintro en W' ⟨v, rfl, hv⟩
    rcases hv with ⟨xs, hS, ⟨h1, h2, h3⟩, hl4, hd5⟩ | ⟨pre, hS, c, ⟨h1, h2, h3⟩, hl4, hd5⟩
    · subst hrec
      have hr := run_endLoop (P := P) hl4 (by simp)
      exact ⟨none, _, hr, hdone _ xs _ (Nat.le_refl _) (h1.turn (turn2_put hl4 _).turn E0.size) (h2.turn (turn2_put hl4 _).turn (Nat.le_refl _)) hS (hI _ _ _ (turn2_put hl4 _).turn h3) ((World.putObj_heap_other zo).trans hd5)⟩
    · subst hrec
      have hr := run_endLoop (P := P) hl4 (by simp)
      exact ⟨some c, _, hr, wpIn_wide.2 ((wpIn_wide (n := n)).1 (hstop _ c pre _ (Nat.le_refl _) (h1.turn (turn2_put hl4 _).turn E0.size) (h2.turn (turn2_put hl4 _).turn (Nat.le_refl _)) hS (hIx _ _ _ _ (turn2_put hl4 _).turn h3) ((World.putObj_heap_other zo).trans hd5)))⟩
theorem SeqT.mono {α : Type} {P : Program} {gf : Nat} {lb : Array Value} {encs : α → List Value} {Y : List α → α → World → Prop} {Kp Kp' : Nat → Prop} {S Sp : List α → Prop} {w0 : World} (h : SeqT P gf lb encs Y Kp S Sp w0) (hk : ∀ i, Kp' i → Kp i) : SeqT P gf lb encs Y Kp' S Sp w0 := by
  intro l J Jx W hx hz hJ hJx hY h0
  refine h l J Jx W hx hz hJ hJx (fun pre x W1 hj hy => (hY pre x W1 hj hy).mono fun en W' hR => ?_) h0
  obtain ⟨v, h1, h2⟩ := hR
  refine ⟨v, h1, ?_⟩
  rcases h2 with ⟨h2, h3, h4⟩ | ⟨h2, h3, h4⟩
  · exact .inl ⟨h2, h3, h4.mono fun i _ hi => hk i hi⟩
  · exact .inr ⟨h2, h3, h4.mono fun i _ hi => hk i hi⟩
section
variable {n : Nat} {P : Program} {fn : Func} {N : Nat} {e : Nat → Value} {w : World} {R : Value → World → Prop}
theorem ret0M1 {D : Nat} (hK : DefB w D) (hr : fn.results = #[]) (h : R (.tuple #[]) (w.putObj D (.deferred none))) : bodyPostM (Fw none) n P fn (Ret R) .ret (FrD N e (mk1 D)) w := by
  refine ⟨by simp, .inl ⟨_, _, rfl, run_takeDeferred hK, ?_⟩⟩
  exact ⟨.tuple #[], by rw [results_none hr], _, rfl, h⟩
theorem end0M1 {D : Nat} (hK : DefB w D) (hr : fn.results = #[]) (h : R (.tuple #[]) (w.putObj D (.deferred none))) : bodyPostM (Fw none) n P fn (Ret R) .normal (FrD N e (mk1 D)) w := by
  refine ⟨by simp, .inl ⟨_, _, rfl, run_takeDeferred hK, ?_⟩⟩
  exact ⟨.tuple #[], by rw [results_none hr], _, rfl, h⟩
end
end Go.Vc
