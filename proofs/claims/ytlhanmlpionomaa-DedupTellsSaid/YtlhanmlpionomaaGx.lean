/- A part of the proof: steps and lemmas for the walks through the given program. -/
import Derived.Test.YtlhanmlpionomaaGe
namespace Go.Vc
set_option linter.unusedVariables false
set_option linter.unusedSimpArgs false
/-! ### ranges over a function whose yielded values lie in memory of their own -/
/-- the loop's own two blocks may turn -/
def Turn2 (B : Nat) (W W' : World) : Prop := ∃ K : Nat → Prop, Keep K W W' ∧ ∀ b, b < W.heap.size → K b → (b = B ∨ b = B + 1) ∧ ∃ o : Obj, W.heap[b]? = some o ∧ o.isCells = false
theorem Turn2.turn {B : Nat} {W W' : World} (h : Turn2 B W W') : Turn B W W' := by
  obtain ⟨K, k, hK⟩ := h
  exact ⟨K, k, fun b hb hk => ⟨by have := (hK b hb hk).1; omega, (hK b hb hk).2⟩⟩
theorem Turn2.keep {B : Nat} {W W' : World} (h : Turn2 B W W') : Keep (fun b => b = B ∨ b = B + 1) W W' := by
  obtain ⟨K, k, hK⟩ := h
  exact k.mono fun b hb hk => (hK b hb hk).1
theorem Ext.turn2 {B : Nat} {W W' : World} (h : Ext W W') : Turn2 B W W' := ⟨NoK, h, fun _ _ h => h.elim⟩
theorem turn2_put {B : Nat} {W : World} {r : Loop} (h : W.heap[B + 1]? = some (.loop r)) (o : Obj) : Turn2 B W (W.putObj (B + 1) o) :=
  ⟨_, Keep.of_grownBy (grownBy_putObj' W (B + 1) o), fun b _ hb => by cases hb; exact ⟨.inr rfl, _, h, rfl⟩⟩
/-- an iterator's contract: Y: what holds where it yields -/
def SeqY {α : Type} (P : Program) (gf : Nat) (lb : Array Value) (encs : α → List Value) (Y : List α → α → World → Prop) (Kp : Nat → Prop) (S Sp : List α → Prop) (w0 : World) : Prop :=
  ∀ (l : Nat) (J Jx : List α → World → Prop) (W : World), Ext w0 W → w0.heap.size + 2 ≤ W.heap.size → (∀ s A B, Ext A B → J s A → J s B) → (∀ s A B, Ext A B → Jx s A → Jx s B) →
    (∀ pre x W1, J pre W1 → Y pre x W1 → YieldAt Fence.wide 0 P l (encs x).toArray W1 (fun en W' => ∃ v, en = .returned v ∧ ((v = .bool true ∧ J (pre ++ [x]) W' ∧ Keep Kp W1 W') ∨ (v = .bool false ∧ Jx (pre ++ [x]) W')))) →
    J [] W → CallsR P gf (#[.func (.yield l) #[] #[]] ++ lb) W (fun _ W' => (∃ xs, S xs ∧ J xs W') ∨ ∃ pre, Sp pre ∧ Jx pre W')
theorem c_rangeY {α : Type} {N : Nat} {P : Program} {g : Operand} {ps : List Tmp} {assign body : Code} {Q : Exit → Act → World → Prop} {e : Nat → Value} {w0 w : World} {n gf : Nat} {lb : Array Value}
    (hl : Operand.lt N g = true) (hg : ev e g = .func (.func gf) #[] lb) (hb : kBody P gf = true) (hps : ps.all (fun p => Nat.blt p N) = true) (E0 : Ext w0 w)
    (encs : α → List Value) (hsz : ∀ x, (encs x).length = ps.length) (Y : List α → α → World → Prop) (S Sp : List α → Prop) (K : Nat → Prop) (hK : ∀ i, K i → w0.heap.size ≤ i ∧ i < w.heap.size)
    (hseq : SeqY P gf lb encs Y (fun i => K i ∨ w.heap.size ≤ i) S Sp w)
    (I : List α → World → Prop) (Ix : Code → List α → World → Prop) (hI : ∀ s W W', Turn w.heap.size W W' → I s W → I s W') (hIx : ∀ c s W W', Turn w.heap.size W W' → Ix c s W → Ix c s W') (h0 : I [] w)
    (A : List α → α → (Nat → Value) → World → Prop) (hA : ∀ pre x e' W W', Turn2 w.heap.size W W' → A pre x e' W → A pre x e' W')
    (hassign : ∀ l pre x W, Ext w0 W → Keep K w W → Y pre x W → I pre W → assign.wpIn (Fw (some l)) 0 P (Exit.then (fun a' W' => ∃ e', a' = FrD N e' [] ∧ Ext W W' ∧ I pre W' ∧ A pre x e' W') (fun _ _ _ => False)) (FrD N (updz e ps (encs x)) []) W)
    (hbody : ∀ l pre x e' W, Ext w0 W → Keep K w W → I pre W → A pre x e' W → body.wpIn (Fw (some l)) 0 P (RPost K I Ix (pre ++ [x]) W) (FrD N e' []) W)
    (hdone : ∀ D xs W, w.heap.size ≤ D → Ext w0 W → Keep K w W → S xs → I xs W → DefB W D → Q .normal (FrD N e (mk1 D)) W)
    (hstop : ∀ D c pre W, w.heap.size ≤ D → Ext w0 W → Keep K w W → Sp pre → Ix c pre W → DefB W D → c.wpIn (Fw none) n P Q (FrD N e (mk1 D)) W) :
    (Code.rangeFunc g ps.toArray assign body).wpIn (Fw none) n P Q (FrD N e []) w := by
  refine wpIn_wide.2 ((wpIn_wide (n := 2)).1 (wpIn_rangeFunc (F := Fence.wide) (n := 2) ?_))
  intro fn hfn
  obtain ⟨rec, hrec⟩ : ∃ rec : LoopState → Option Code → Loop, rec = fun st pe => { state := st, pending := pe, fn, tmps := (FrD N e []).tmps, params := ps.toArray, assign, body, defers := w.heap.size } := ⟨_, rfl⟩
  obtain ⟨W1, hW1⟩ : ∃ W1, (w.alloc (.deferred (some []))).alloc (.loop (rec .ready none)) = W1 := ⟨_, rfl⟩
  have x1 : Ext w W1 := by rw [← hW1]; exact (Ext.alloc _ _).trans (Ext.alloc _ _)
  have z1 : W1.heap.size = w.heap.size + 2 := by rw [← hW1]; simp
  have hL1 : W1.heap[w.heap.size + 1]? = some (.loop (rec .ready none)) := by
    rw [← hW1]
    have := heap_alloc_new (w.alloc (.deferred (some []))) (.loop (rec .ready none))
    simpa using this
  have hD1 : W1.heap[w.heap.size]? = some (.deferred (some [])) := by
    rw [← hW1]
    exact ((Ext.alloc _ _).blk (by simp)).trans (heap_alloc_new w _)
  refine ⟨w.heap.size + 1, [{ target := .collected w.heap.size, args := #[] }], W1, { target := .fn (.func gf) lb, args := #[.func (.yield (w.heap.size + 1)) #[] #[]] }, W1, gf, #[.func (.yield (w.heap.size + 1)) #[] #[]] ++ lb, W1, ?_, ?_, fun _ _ => trivial, ?_, fun h => by omega, ?_⟩
  · rw [← hW1, hrec]; exact run_enterLoop_outer _ _ _ _ _
  · have hg' : (FrD N e []).eval g = .func (.func gf) #[] lb := by rw [frD_eval hl]; exact hg
    simp only [resolve, hg']
    simp [go_sem]
  · simp [invoke, go_sem, run_callFunc hb]
  refine callsIn_wide.2 (Calls.mono (hseq (w.heap.size + 1)
    (fun pre W => (Ext w0 W ∧ Keep K w W ∧ I pre W) ∧ W.heap[w.heap.size + 1]? = some (.loop (rec .ready none)) ∧ DefB W w.heap.size)
    (fun pre W => ∃ c, (Ext w0 W ∧ Keep K w W ∧ Ix c pre W) ∧ W.heap[w.heap.size + 1]? = some (.loop (rec .done (some c))) ∧ DefB W w.heap.size)
    W1 x1 (by omega) ?_ ?_ ?_ ⟨⟨E0.trans x1, Ext.keep x1, hI _ _ _ (Ext.turn2 x1).turn h0⟩, hL1, hD1⟩) ?_)
  · rintro s A B x ⟨⟨h1, h2, h3⟩, h4, h5⟩
    exact ⟨⟨h1.trans x, h2.trans (Ext.keep x), hI _ _ _ (Ext.turn2 x).turn h3⟩, (x.blk (Array.getElem?_eq_some_iff.1 h4).1).trans h4, defB_keep h5 x (fun h => h)⟩
  · rintro s A B x ⟨c, ⟨h1, h2, h3⟩, h4, h5⟩
    exact ⟨c, ⟨h1.trans x, h2.trans (Ext.keep x), hIx _ _ _ _ (Ext.turn2 x).turn h3⟩, (x.blk (Array.getElem?_eq_some_iff.1 h4).1).trans h4, defB_keep h5 x (fun h => h)⟩
  · rintro pre x W ⟨⟨h1, h2, h3⟩, hl4, hd5⟩ hY
    have hz : w.heap.size + 1 < W.heap.size := (Array.getElem?_eq_some_iff.1 hl4).1
    have hy := run_yield (P := P) (args := (encs x).toArray) hl4 (by rw [hrec]; simpa using hsz x)
    refine ⟨_, _, _, _, hy, roundIn_of_wpIn trivial ?_⟩
    have hfr : ({ tmps := (((rec .ready none).params).zip (encs x).toArray).foldl (fun t (x : Nat × Value) => t.setIfInBounds x.1 x.2) (rec .ready none).tmps, defers := [] } : Act) = FrD N (updz e ps (encs x)) [] := by
      have := fold_updz (N := N) ps (encs x) e hps
      rw [hrec]
      simp only [FrD]
      congr 1
      rw [← this]
      simp
    have ha := hassign (w.heap.size + 1) pre x W h1 h2 hY h3
    rw [← hfr] at ha
    have ea : (rec .ready none).assign = assign := by rw [hrec]
    have eb : (rec .ready none).body = body := by rw [hrec]
    rw [ea]
    refine wpIn_mono ha ?_
    intro ex a' Wa hq
    cases ex with
    | normal =>
      obtain ⟨e', rfl, xa, hIa, hAa⟩ := hq
      have hl6 : Wa.heap[w.heap.size + 1]? = some (.loop (rec .ready none)) := (xa.blk hz).trans hl4
      have hd6 : DefB Wa w.heap.size := defB_keep hd5 xa (fun h => h)
      have hza : w.heap.size + 1 < Wa.heap.size := (Array.getElem?_eq_some_iff.1 hl6).1
      refine ⟨_, run_beginRound hl6 (by rw [hrec]), ?_⟩
      obtain ⟨rb, hrb⟩ : ∃ rb : Loop, rb = { rec .ready none with state := .busy } := ⟨_, rfl⟩
      rw [← hrb]
      have t2 : Turn2 w.heap.size Wa (Wa.putObj (w.heap.size + 1) (.loop rb)) := turn2_put hl6 _
      have hl7 : (Wa.putObj (w.heap.size + 1) (.loop rb)).heap[w.heap.size + 1]? = some (.loop rb) := World.putObj_heap_same hza
      have hd7 : DefB (Wa.putObj (w.heap.size + 1) (.loop rb)) w.heap.size := (World.putObj_heap_other (by omega)).trans hd6
      have k7 : Keep (fun i => K i ∨ w.heap.size ≤ i) W (Wa.putObj (w.heap.size + 1) (.loop rb)) := Keep.trans (Ext.keep xa) (t2.keep.mono fun b _ h => by omega)
      have E7 : Ext w0 (Wa.putObj (w.heap.size + 1) (.loop rb)) := (h1.trans xa).turn t2.turn E0.size
      have K7 : Keep K w (Wa.putObj (w.heap.size + 1) (.loop rb)) := (h2.trans (Ext.keep xa)).turn t2.turn (Nat.le_refl _)
      have hbd := hbody (w.heap.size + 1) pre x e' _ E7 K7 (hI _ _ _ t2.turn hIa) (hA _ _ _ _ _ t2 hAa)
      rw [eb]
      refine wpIn_mono hbd ?_
      have fin : ∀ (jump : Option Code) (W3 : World), Keep K (Wa.putObj (w.heap.size + 1) (.loop rb)) W3 →
          ∃ W4, (Instr.endRound (w.heap.size + 1) jump).run P W3 = .ok (.bool jump.isNone) W4 ∧ Turn w.heap.size W3 W4 ∧ Turn2 w.heap.size W3 W4 ∧ Ext w0 W4 ∧ Keep K w W4 ∧ Keep (fun i => K i ∨ w.heap.size ≤ i) W W4 ∧ W4.heap[w.heap.size + 1]? = some (.loop (rec (if jump.isNone then .ready else .done) jump)) ∧ DefB W4 w.heap.size := by
        intro jump W3 k3
        have hn : ∀ i, w.heap.size ≤ i → ¬ K i := fun i hi hk => by have := (hK i hk).2; omega
        have hl8 : W3.heap[w.heap.size + 1]? = some (.loop rb) := (k3.block _ (Array.getElem?_eq_some_iff.1 hl7).1 (hn _ (by omega))).trans hl7
        have hd8 : DefB W3 w.heap.size := defB_keep hd7 k3 (hn _ (Nat.le_refl _))
        have hr := run_endRound (P := P) jump hl8
        have t8 : Turn2 w.heap.size W3 (W3.putObj (w.heap.size + 1) (.loop { rb with state := if jump.isNone then .ready else .done, pending := jump })) := turn2_put hl8 _
        have E8 : Ext w0 W3 := E7.step k3 (fun i hi hk => absurd (hK i hk).1 (by omega))
        have K8 : Keep K w W3 := K7.trans k3
        refine ⟨_, hr, t8.turn, t8, E8.turn t8.turn E0.size, K8.turn t8.turn (Nat.le_refl _), Keep.trans (Keep.trans k7 (k3.mono fun i _ h => .inl h)) (t8.keep.mono fun b _ h => by omega), ?_, (World.putObj_heap_other (by omega)).trans hd8⟩
        rw [World.putObj_heap_same (Array.getElem?_eq_some_iff.1 hl8).1, hrb, hrec]
      intro ex a3 W3 hp
      cases ex with
      | normal =>
        obtain ⟨k3, hi3⟩ := hp
        obtain ⟨W4, hr, t4, _, E4, K4, kk, hl9, hd9⟩ := fin none W3 k3
        exact ⟨_, _, hr, _, rfl, .inl ⟨rfl, ⟨⟨E4, K4, hI _ _ _ t4 hi3⟩, hl9, hd9⟩, kk⟩⟩
      | ret =>
        obtain ⟨k3, hi3⟩ := hp
        obtain ⟨W4, hr, t4, _, E4, K4, kk, hl9, hd9⟩ := fin (some .ret) W3 k3
        exact ⟨_, _, hr, _, rfl, .inr ⟨rfl, .ret, ⟨E4, K4, hIx _ _ _ _ t4 hi3⟩, hl9, hd9⟩⟩
      | exit i =>
        obtain ⟨k3, hi3⟩ := hp
        obtain ⟨W4, hr, t4, _, E4, K4, kk, hl9, hd9⟩ := fin (some (.exit i)) W3 k3
        exact ⟨_, _, hr, _, rfl, .inr ⟨rfl, .exit i, ⟨E4, K4, hIx _ _ _ _ t4 hi3⟩, hl9, hd9⟩⟩
      | _ => exact hp.elim
    | _ => exact hq.elim
  · rintro en W' ⟨v, rfl, hv⟩
    rcases hv with ⟨xs, hS, ⟨h1, h2, h3⟩, hl4, hd5⟩ | ⟨pre, hS, c, ⟨h1, h2, h3⟩, hl4, hd5⟩
    · subst hrec
      have hr := run_endLoop (P := P) hl4 (by simp)
      exact ⟨none, _, hr, hdone _ xs _ (Nat.le_refl _) (h1.turn (turn2_put hl4 _).turn E0.size) (h2.turn (turn2_put hl4 _).turn (Nat.le_refl _)) hS (hI _ _ _ (turn2_put hl4 _).turn h3) ((World.putObj_heap_other (by omega)).trans hd5)⟩
    · subst hrec
      have hr := run_endLoop (P := P) hl4 (by simp)
      exact ⟨some c, _, hr, wpIn_wide.2 ((wpIn_wide (n := n)).1 (hstop _ c pre _ (Nat.le_refl _) (h1.turn (turn2_put hl4 _).turn E0.size) (h2.turn (turn2_put hl4 _).turn (Nat.le_refl _)) hS (hIx _ _ _ _ (turn2_put hl4 _).turn h3) ((World.putObj_heap_other (by omega)).trans hd5)))⟩
theorem SeqY.mono {α : Type} {P : Program} {gf : Nat} {lb : Array Value} {encs : α → List Value} {Y : List α → α → World → Prop} {Kp Kp' : Nat → Prop} {S Sp : List α → Prop} {w0 : World} (h : SeqY P gf lb encs Y Kp S Sp w0) (hk : ∀ i, Kp' i → Kp i) : SeqY P gf lb encs Y Kp' S Sp w0 := by
  intro l J Jx W hx hz hJ hJx hY h0
  refine h l J Jx W hx hz hJ hJx (fun pre x W1 hj hy => (hY pre x W1 hj hy).mono fun en W' hR => ?_) h0
  obtain ⟨v, h1, h2⟩ := hR
  refine ⟨v, h1, ?_⟩
  rcases h2 with ⟨h2, h3, h4⟩ | h2
  · exact .inl ⟨h2, h3, h4.mono fun i _ hi => hk i hi⟩
  · exact .inr h2
theorem run_loadVar1 {P : Program} {t : TypeId} {a : Addr} {v : Value} {w : World} (hk : kOne P t = true) (hc : w.cell? a = some v) : (loadVar t a).run P w = .ok v w := by
  simp [loadVar, run_isAgg_one hk, load, Sem.run, hc]
section
variable {n : Nat} {P : Program} {fn : Func} {N : Nat} {e : Nat → Value} {w : World} {R : Value → World → Prop}
theorem ret_one {t : Tmp} {ty : TypeId} {a : Addr} {v : Value} (hr : fn.results = #[.cell t ty]) (ht : t < N) (hp : e t = .pointer (some a)) (hk : kOne P ty = true) (hc : w.cell? a = some v) : (results fn (FrD N e []).tmps).run P w = .ok v w := by
  have h1 : (FrD N e []).tmps.getD t undef = .pointer (some a) := by simp [FrD, Fr, Array.getD, ht, hp]
  rw [results_cell hr, h1]
  have h3 : (asAddr (.pointer (some a))).run P w = .ok a w := rfl
  rw [h3]
  simp only [Result.andThen_ok]
  rw [run_loadVar1 hk hc]
theorem ret1s {t : Tmp} {ty : TypeId} {a : Addr} {v : Value} (hr : fn.results = #[.cell t ty]) (ht : t < N) (hp : e t = .pointer (some a)) (hk : kOne P ty = true) (hc : w.cell? a = some v) (h : R v w) : bodyPost P fn (Ret R) .ret (FrD N e []) w :=
  ⟨rfl, v, ret_one hr ht hp hk hc, _, rfl, h⟩
theorem retM0s {t : Tmp} {ty : TypeId} {a : Addr} {v : Value} (hr : fn.results = #[.cell t ty]) (ht : t < N) (hp : e t = .pointer (some a)) (hk : kOne P ty = true) (hc : w.cell? a = some v) (h : R v w) : bodyPostM (Fw none) n P fn (Ret R) .ret (FrD N e []) w :=
  ⟨v, ret_one hr ht hp hk hc, _, rfl, h⟩
theorem retM1s {t : Tmp} {ty : TypeId} {a : Addr} {v : Value} {D : Nat} (hK : DefB w D) (hr : fn.results = #[.cell t ty]) (ht : t < N) (hp : e t = .pointer (some a)) (hk : kOne P ty = true) (hc : w.cell? a = some v) (h : R v (w.putObj D (.deferred none))) : bodyPostM (Fw none) n P fn (Ret R) .ret (FrD N e (mk1 D)) w := by
  refine ⟨by simp, .inl ⟨_, _, rfl, run_takeDeferred hK, ?_⟩⟩
  refine ⟨v, ret_one hr ht hp hk ?_, _, rfl, h⟩
  have k := Keep.of_grownBy (grownBy_putObj' w D (.deferred none))
  refine k.cell hc fun he => ?_
  cases he
  unfold DefB at hK
  unfold World.cell? at hc
  rw [hK] at hc
  cases hc
end
end Go.Vc

namespace Go.Vc
set_option linter.unusedVariables false
set_option linter.unusedSimpArgs false
section
variable {P : Program} {d : Option Tmp} {ty : TypeId} {p : String} {af : Array Edge} {g : Option (Nat × Bool)} {e : Nat → Value} {w : World} {x y : Operand}
/-- an element of an array's value that is an aggregate itself -/
theorem v_indexA {t et n sz k : Nat} {kk : IntKind} {i : Int} {cs r : Array Value} (hk : kArr P t et n sz = true) (h1 : kAgg P et sz = true) (hx : ev e x = .agg cs) (hy : ev e y = .int kk i) (hi : i = (k : Nat)) (hn : k < n) (hc : cs.extract (k * sz) (k * sz + sz) = r) :
    OpVat P ⟨d, .index t x y, ty, p, af, g⟩ e w (.agg r) := by
  subst hi
  obtain ⟨hu, hsz⟩ := kArr_of hk
  have h2 := run_isAgg_agg h1 w
  have h3 : (k : Int) < (n : Int) := by omega
  simp [OpVat, execOp, hx, hy, Instr.index, asIntOf, run_underlying hu, h3, run_sizeOf hsz, part, h2.1, h2.2, hc]
  intro h; omega
end
section
variable {P : Program} {N : Nat} {ops : Array Oper} {Q : Exit → Act → World → Prop} {K : Nat → Prop} {J : (Nat → Bool) → (Nat → Value) → World → Prop} {D : Nat → Bool} {e0 : Nat → Value} {w0 : World} {l : List Oper} {k : Nat} {S : Nat → Value → World → Prop}
/-- a call whose answer is known, within a stage with a joint fact -/
theorem rj_vfJ {d : Option Tmp} {op : Op} {ty : TypeId} {p : String} {af : Array Edge} {t : Value}
    (h : ∀ done vals w, Keep K w0 w → Closed ops done → done k = false → J done vals w → (∀ j, edgeOn ⟨d, op, ty, p, af, none⟩ j = true → done j = true) → (∀ j, edgeOn ⟨d, op, ty, p, af, none⟩ j = true → S j (vals j) w) → OpTo P ⟨d, op, ty, p, af, none⟩ (envA ops vals e0 k) w (fun v w' => v = t ∧ Ext w w'))
    (hj : ∀ done vals w w', done k = false → J done vals w → Ext w w' → J (don done k) (setv vals k t) w')
    (r : RegJ P N ops Q K J e0 w0 l (k + 1) (setS S k (fun v _ => v = t))) : RegJ P N ops Q K J e0 w0 (⟨d, op, ty, p, af, none⟩ :: l) k S := by
  refine ⟨_, fun _ _ _ h _ => h, fun done vals w hR hcl hdk hJ hdn hd => ?_, r⟩
  simp only [OpG, wantedE, Region.wanted, if_true]
  exact (h done vals w hR hcl hdk hJ hdn hd).mono fun v w' hv => by
    obtain ⟨rfl, e⟩ := hv
    exact ⟨Ext.keep e, rfl, hj done vals w w' hdk hJ e⟩
end
/-- the body may also write what is newer than the loop's own two blocks -/
theorem c_rangeZ {α : Type} {N : Nat} {P : Program} {g : Operand} {ps : List Tmp} {assign body : Code} {Q : Exit → Act → World → Prop} {e : Nat → Value} {w0 w : World} {n gf : Nat} {lb : Array Value}
    (hl : Operand.lt N g = true) (hg : ev e g = .func (.func gf) #[] lb) (hb : kBody P gf = true) (hps : ps.all (fun p => Nat.blt p N) = true) (E0 : Ext w0 w)
    (encs : α → List Value) (hsz : ∀ x, (encs x).length = ps.length) (Y : List α → α → World → Prop) (S Sp : List α → Prop) (K : Nat → Prop) (hK : ∀ i, K i → w0.heap.size ≤ i ∧ i < w.heap.size)
    (hseq : SeqY P gf lb encs Y (fun i => K i ∨ w.heap.size ≤ i) S Sp w)
    (I : List α → World → Prop) (Ix : Code → List α → World → Prop) (hI : ∀ s W W', Turn w.heap.size W W' → I s W → I s W') (hIx : ∀ c s W W', Turn w.heap.size W W' → Ix c s W → Ix c s W') (h0 : I [] w)
    (A : List α → α → (Nat → Value) → World → Prop) (hA : ∀ pre x e' W W', Turn2 w.heap.size W W' → A pre x e' W → A pre x e' W')
    (hassign : ∀ l pre x W, Ext w0 W → Keep K w W → Y pre x W → I pre W → assign.wpIn (Fw (some l)) 0 P (Exit.then (fun a' W' => ∃ e', a' = FrD N e' [] ∧ Ext W W' ∧ I pre W' ∧ A pre x e' W') (fun _ _ _ => False)) (FrD N (updz e ps (encs x)) []) W)
    (hbody : ∀ l pre x e' W, Ext w0 W → Keep K w W → I pre W → A pre x e' W → body.wpIn (Fw (some l)) 0 P (RPost (fun i => K i ∨ w.heap.size + 2 ≤ i) I Ix (pre ++ [x]) W) (FrD N e' []) W)
    (hdone : ∀ D xs W, w.heap.size ≤ D → Ext w0 W → Keep K w W → S xs → I xs W → DefB W D → Q .normal (FrD N e (mk1 D)) W)
    (hstop : ∀ D c pre W, w.heap.size ≤ D → Ext w0 W → Keep K w W → Sp pre → Ix c pre W → DefB W D → c.wpIn (Fw none) n P Q (FrD N e (mk1 D)) W) :
    (Code.rangeFunc g ps.toArray assign body).wpIn (Fw none) n P Q (FrD N e []) w := by
  refine wpIn_wide.2 ((wpIn_wide (n := 2)).1 (wpIn_rangeFunc (F := Fence.wide) (n := 2) ?_))
  intro fn hfn
  obtain ⟨rec, hrec⟩ : ∃ rec : LoopState → Option Code → Loop, rec = fun st pe => { state := st, pending := pe, fn, tmps := (FrD N e []).tmps, params := ps.toArray, assign, body, defers := w.heap.size } := ⟨_, rfl⟩
  obtain ⟨W1, hW1⟩ : ∃ W1, (w.alloc (.deferred (some []))).alloc (.loop (rec .ready none)) = W1 := ⟨_, rfl⟩
  have x1 : Ext w W1 := by rw [← hW1]; exact (Ext.alloc _ _).trans (Ext.alloc _ _)
  have z1 : W1.heap.size = w.heap.size + 2 := by rw [← hW1]; simp
  have hL1 : W1.heap[w.heap.size + 1]? = some (.loop (rec .ready none)) := by
    rw [← hW1]
    have := heap_alloc_new (w.alloc (.deferred (some []))) (.loop (rec .ready none))
    simpa using this
  have hD1 : W1.heap[w.heap.size]? = some (.deferred (some [])) := by
    rw [← hW1]
    exact ((Ext.alloc _ _).blk (by simp)).trans (heap_alloc_new w _)
  refine ⟨w.heap.size + 1, [{ target := .collected w.heap.size, args := #[] }], W1, { target := .fn (.func gf) lb, args := #[.func (.yield (w.heap.size + 1)) #[] #[]] }, W1, gf, #[.func (.yield (w.heap.size + 1)) #[] #[]] ++ lb, W1, ?_, ?_, fun _ _ => trivial, ?_, fun h => by omega, ?_⟩
  · rw [← hW1, hrec]; exact run_enterLoop_outer _ _ _ _ _
  · have hg' : (FrD N e []).eval g = .func (.func gf) #[] lb := by rw [frD_eval hl]; exact hg
    simp only [resolve, hg']
    simp [go_sem]
  · simp [invoke, go_sem, run_callFunc hb]
  refine callsIn_wide.2 (Calls.mono (hseq (w.heap.size + 1)
    (fun pre W => (Ext w0 W ∧ Keep K w W ∧ I pre W) ∧ W.heap[w.heap.size + 1]? = some (.loop (rec .ready none)) ∧ DefB W w.heap.size)
    (fun pre W => ∃ c, (Ext w0 W ∧ Keep K w W ∧ Ix c pre W) ∧ W.heap[w.heap.size + 1]? = some (.loop (rec .done (some c))) ∧ DefB W w.heap.size)
    W1 x1 (by omega) ?_ ?_ ?_ ⟨⟨E0.trans x1, Ext.keep x1, hI _ _ _ (Ext.turn2 x1).turn h0⟩, hL1, hD1⟩) ?_)
  · rintro s A B x ⟨⟨h1, h2, h3⟩, h4, h5⟩
    exact ⟨⟨h1.trans x, h2.trans (Ext.keep x), hI _ _ _ (Ext.turn2 x).turn h3⟩, (x.blk (Array.getElem?_eq_some_iff.1 h4).1).trans h4, defB_keep h5 x (fun h => h)⟩
  · rintro s A B x ⟨c, ⟨h1, h2, h3⟩, h4, h5⟩
    exact ⟨c, ⟨h1.trans x, h2.trans (Ext.keep x), hIx _ _ _ _ (Ext.turn2 x).turn h3⟩, (x.blk (Array.getElem?_eq_some_iff.1 h4).1).trans h4, defB_keep h5 x (fun h => h)⟩
  · rintro pre x W ⟨⟨h1, h2, h3⟩, hl4, hd5⟩ hY
    have hz : w.heap.size + 1 < W.heap.size := (Array.getElem?_eq_some_iff.1 hl4).1
    have hy := run_yield (P := P) (args := (encs x).toArray) hl4 (by rw [hrec]; simpa using hsz x)
    refine ⟨_, _, _, _, hy, roundIn_of_wpIn trivial ?_⟩
    have hfr : ({ tmps := (((rec .ready none).params).zip (encs x).toArray).foldl (fun t (x : Nat × Value) => t.setIfInBounds x.1 x.2) (rec .ready none).tmps, defers := [] } : Act) = FrD N (updz e ps (encs x)) [] := by
      have := fold_updz (N := N) ps (encs x) e hps
      rw [hrec]
      simp only [FrD]
      congr 1
      rw [← this]
      simp
    have ha := hassign (w.heap.size + 1) pre x W h1 h2 hY h3
    rw [← hfr] at ha
    have ea : (rec .ready none).assign = assign := by rw [hrec]
    have eb : (rec .ready none).body = body := by rw [hrec]
    rw [ea]
    refine wpIn_mono ha ?_
    intro ex a' Wa hq
    cases ex with
    | normal =>
      obtain ⟨e', rfl, xa, hIa, hAa⟩ := hq
      have hl6 : Wa.heap[w.heap.size + 1]? = some (.loop (rec .ready none)) := (xa.blk hz).trans hl4
      have hd6 : DefB Wa w.heap.size := defB_keep hd5 xa (fun h => h)
      have hza : w.heap.size + 1 < Wa.heap.size := (Array.getElem?_eq_some_iff.1 hl6).1
      refine ⟨_, run_beginRound hl6 (by rw [hrec]), ?_⟩
      obtain ⟨rb, hrb⟩ : ∃ rb : Loop, rb = { rec .ready none with state := .busy } := ⟨_, rfl⟩
      rw [← hrb]
      have t2 : Turn2 w.heap.size Wa (Wa.putObj (w.heap.size + 1) (.loop rb)) := turn2_put hl6 _
      have hl7 : (Wa.putObj (w.heap.size + 1) (.loop rb)).heap[w.heap.size + 1]? = some (.loop rb) := World.putObj_heap_same hza
      have hd7 : DefB (Wa.putObj (w.heap.size + 1) (.loop rb)) w.heap.size := (World.putObj_heap_other (by omega)).trans hd6
      have k7 : Keep (fun i => K i ∨ w.heap.size ≤ i) W (Wa.putObj (w.heap.size + 1) (.loop rb)) := Keep.trans (Ext.keep xa) (t2.keep.mono fun b _ h => by omega)
      have E7 : Ext w0 (Wa.putObj (w.heap.size + 1) (.loop rb)) := (h1.trans xa).turn t2.turn E0.size
      have K7 : Keep K w (Wa.putObj (w.heap.size + 1) (.loop rb)) := (h2.trans (Ext.keep xa)).turn t2.turn (Nat.le_refl _)
      have hbd := hbody (w.heap.size + 1) pre x e' _ E7 K7 (hI _ _ _ t2.turn hIa) (hA _ _ _ _ _ t2 hAa)
      rw [eb]
      refine wpIn_mono hbd ?_
      have fin : ∀ (jump : Option Code) (W3 : World), Keep (fun i => K i ∨ w.heap.size + 2 ≤ i) (Wa.putObj (w.heap.size + 1) (.loop rb)) W3 →
          ∃ W4, (Instr.endRound (w.heap.size + 1) jump).run P W3 = .ok (.bool jump.isNone) W4 ∧ Turn w.heap.size W3 W4 ∧ Turn2 w.heap.size W3 W4 ∧ Ext w0 W4 ∧ Keep K w W4 ∧ Keep (fun i => K i ∨ w.heap.size ≤ i) W W4 ∧ W4.heap[w.heap.size + 1]? = some (.loop (rec (if jump.isNone then .ready else .done) jump)) ∧ DefB W4 w.heap.size := by
        intro jump W3 k3
        have hn : ∀ i, w.heap.size ≤ i → i < w.heap.size + 2 → ¬ (K i ∨ w.heap.size + 2 ≤ i) := fun i hi h2 hk => by rcases hk with hk | hk; (have := (hK i hk).2; omega); omega
        have hl8 : W3.heap[w.heap.size + 1]? = some (.loop rb) := (k3.block _ (Array.getElem?_eq_some_iff.1 hl7).1 (hn _ (by omega) (by omega))).trans hl7
        have hd8 : DefB W3 w.heap.size := defB_keep hd7 k3 (hn _ (Nat.le_refl _) (by omega))
        have hr := run_endRound (P := P) jump hl8
        have t8 : Turn2 w.heap.size W3 (W3.putObj (w.heap.size + 1) (.loop { rb with state := if jump.isNone then .ready else .done, pending := jump })) := turn2_put hl8 _
        have E8 : Ext w0 W3 := E7.step k3 (fun i hi hk => by have := E0.size; rcases hk with hk | hk; exact absurd (hK i hk).1 (by omega); omega)
        have K8 : Keep K w W3 := K7.step k3 (fun i hi hk => by rcases hk with hk | hk; exact hk; omega)
        refine ⟨_, hr, t8.turn, t8, E8.turn t8.turn E0.size, K8.turn t8.turn (Nat.le_refl _), Keep.trans (Keep.trans k7 (k3.mono fun i _ h => by rcases h with h | h; exact .inl h; exact .inr (by omega))) (t8.keep.mono fun b _ h => by omega), ?_, (World.putObj_heap_other (by omega)).trans hd8⟩
        rw [World.putObj_heap_same (Array.getElem?_eq_some_iff.1 hl8).1, hrb, hrec]
      intro ex a3 W3 hp
      cases ex with
      | normal =>
        obtain ⟨k3, hi3⟩ := hp
        obtain ⟨W4, hr, t4, _, E4, K4, kk, hl9, hd9⟩ := fin none W3 k3
        exact ⟨_, _, hr, _, rfl, .inl ⟨rfl, ⟨⟨E4, K4, hI _ _ _ t4 hi3⟩, hl9, hd9⟩, kk⟩⟩
      | ret =>
        obtain ⟨k3, hi3⟩ := hp
        obtain ⟨W4, hr, t4, _, E4, K4, kk, hl9, hd9⟩ := fin (some .ret) W3 k3
        exact ⟨_, _, hr, _, rfl, .inr ⟨rfl, .ret, ⟨E4, K4, hIx _ _ _ _ t4 hi3⟩, hl9, hd9⟩⟩
      | exit i =>
        obtain ⟨k3, hi3⟩ := hp
        obtain ⟨W4, hr, t4, _, E4, K4, kk, hl9, hd9⟩ := fin (some (.exit i)) W3 k3
        exact ⟨_, _, hr, _, rfl, .inr ⟨rfl, .exit i, ⟨E4, K4, hIx _ _ _ _ t4 hi3⟩, hl9, hd9⟩⟩
      | _ => exact hp.elim
    | _ => exact hq.elim
  · rintro en W' ⟨v, rfl, hv⟩
    rcases hv with ⟨xs, hS, ⟨h1, h2, h3⟩, hl4, hd5⟩ | ⟨pre, hS, c, ⟨h1, h2, h3⟩, hl4, hd5⟩
    · subst hrec
      have hr := run_endLoop (P := P) hl4 (by simp)
      exact ⟨none, _, hr, hdone _ xs _ (Nat.le_refl _) (h1.turn (turn2_put hl4 _).turn E0.size) (h2.turn (turn2_put hl4 _).turn (Nat.le_refl _)) hS (hI _ _ _ (turn2_put hl4 _).turn h3) ((World.putObj_heap_other (by omega)).trans hd5)⟩
    · subst hrec
      have hr := run_endLoop (P := P) hl4 (by simp)
      exact ⟨some c, _, hr, wpIn_wide.2 ((wpIn_wide (n := n)).1 (hstop _ c pre _ (Nat.le_refl _) (h1.turn (turn2_put hl4 _).turn E0.size) (h2.turn (turn2_put hl4 _).turn (Nat.le_refl _)) hS (hIx _ _ _ _ (turn2_put hl4 _).turn h3) ((World.putObj_heap_other (by omega)).trans hd5)))⟩
end Go.Vc

namespace Go.Vc
set_option linter.unusedVariables false
set_option linter.unusedSimpArgs false
section
variable {P : Program} {d : Option Tmp} {ty : TypeId} {p : String} {af : Array Edge} {g : Option (Nat × Bool)} {e : Nat → Value} {w : World} {x y : Operand} {K : Value → World → Prop} {α : Type}
/-- 'append(s[:n:n], u...)': a full slice, somebody else's: a copy of one's own -/
theorem to_appFull {t : Ty α} {T et bytes n : Nat} {F F' G : Nat → Prop} {a : Option Addr} {u : Value} {xs ys : List α} (hk : kElem P T et t.sz bytes = true) (hx : ev e x = .slice a n n) (hv : SlV t w F (.slice a n n) xs) (hy : ev e y = u) (hu : SlV t w F' u ys) (hne : 0 < ys.length)
    (hF : ∀ b, b < w.heap.size → F b → G b) (hF' : ∀ b, b < w.heap.size → F' b → G b) (hn : (xs.length + ys.length) * bytes ≤ 140737488355328) (hm : xs.length + ys.length ≤ maxLen)
    (r : ∀ b cc w', w.heap.size ≤ b → b < w'.heap.size → OwV t et w' w.heap.size G (.slice (some ⟨b, 0, none⟩) (xs ++ ys).length cc) (xs ++ ys) → Ext w w' → K (.slice (some ⟨b, 0, none⟩) (xs ++ ys).length cc) w') :
    OpTo P ⟨d, .call { callee := .builtin .append, args := #[x, y], argTypes := #[T, T] }, ty, p, af, g⟩ e w K := by
  cases a with
  | none =>
    obtain ⟨a, c, hvv, h1, h2, h3, _⟩ := hv
    cases hvv
    have h0 := h3 rfl
    have hxs : xs = [] := List.eq_nil_of_length_eq_zero h0
    subst hxs
    refine to_appNil (t := t) (et := et) (bytes := bytes) (F := G) hk hx hy hu (fun cs z h => t.mono h hF') (by simpa using hn) fun v w' h E => ?_
    obtain ⟨a, c, rfl⟩ := h.shape
    obtain ⟨b, rfl, hb1, hb2⟩ := h.addr (by intro h; rw [h] at hne; simp at hne)
    exact r b c w' hb1 hb2 h E
  | some q =>
    obtain ⟨ht, i, z, hi, hz, hzs, his, hib⟩ := kElem_of hk
    obtain ⟨css, hcl, hall, hone, hrep, a1, c1, hv1, hnone1, hlc1, hcell1⟩ := hv.cells
    obtain ⟨css2, hcl2, hall2, hone2, hrep2, a2, c2, hv2, hnone2, hlc2, hcell2⟩ := hu.cells
    simp only [Value.slice.injEq] at hv1
    obtain ⟨rfl, hnx, rfl⟩ := hv1
    subst hnx
    subst hv2
    cases a2 with
    | none => have := hnone2 rfl; omega
    | some q2 =>
      have hfl : css.flatten.length = xs.length * t.sz := by rw [length_flatten_sz css hall, hcl]
      have hfl2 : css2.flatten.length = ys.length * t.sz := by rw [length_flatten_sz css2 hall2, hcl2]
      have hgr := run_append_grow (P := P) w T ty et i z ht hi hz q xs.length xs.length css.flatten (by rw [his, hfl]) (hcell1 q rfl) q2 ys.length c2 css2.flatten (by rw [his]; exact hfl2) (hcell2 q2 rfl) (by omega) (by simp only [maxLen] at hm; omega) (by rw [hib]; exact growslice_fits (by omega) hn)
      have hr' : (execOp (ev e) ⟨d, .call { callee := .builtin .append, args := #[x, y], argTypes := #[T, T] }, ty, p, af, g⟩).run P w = .ok (.value (.slice (some ⟨w.heap.size, 0, none⟩) (xs.length + ys.length) (grownCap w (xs.length + ys.length) xs.length et))) (w.drew.alloc (.cells (css.flatten.toArray ++ css2.flatten.toArray ++ Builtin.zeroCells z.cells (grownCap w (xs.length + ys.length) xs.length et - (xs.length + ys.length))) et)) := by
        simp only [execOp, resolve, invoke, builtin, Sem.run_bind, Sem.run_pure, Result.andThen_ok, List.map_toArray, List.map_cons, List.map_nil, hx, hy, hgr]
      have hge := grownCap_ge w (xs.length + ys.length) xs.length et
      have hle := grownCap_le_maxLen w (xs.length + ys.length) xs.length et hm
      have hlen : (xs ++ ys).length = xs.length + ys.length := by rw [List.length_append]
      have E : Ext w (w.drew.alloc (.cells (css.flatten.toArray ++ css2.flatten.toArray ++ Builtin.zeroCells z.cells (grownCap w (xs.length + ys.length) xs.length et - (xs.length + ys.length))) et)) := (Keep.drawn w _).trans (Ext.alloc _ _)
      unfold OpTo
      rw [hr']
      have hk := r w.heap.size (grownCap w (xs.length + ys.length) xs.length et) _ (Nat.le_refl _) (by rw [World.size_alloc]; exact Nat.lt_succ_self _) ?_ E
      · rw [hlen] at hk; exact hk
      rw [hlen]
      refine ⟨css.flatten ++ css2.flatten, ⟨by rw [List.length_append, hfl, hfl2, hlen, Nat.add_mul], .inr ⟨w.heap.size, _, _, by rw [hlen], Nat.le_refl _, heap_alloc_new w.drew _, by rw [hlen]; exact hge, hle, ?_, ?_⟩⟩, ?_⟩
      · simp only [Builtin.zeroCells, Array.size_append, Array.size_map, Array.size_range, List.size_toArray]
        rw [hzs, hfl, hfl2, ← Nat.add_mul, ← Nat.add_mul]
        congr 1
        omega
      · simp only [Array.toList_append, List.toList_toArray]
        rw [hlen, List.take_append_of_le_length (by rw [List.length_append, hfl, hfl2, Nat.add_mul]; exact Nat.le_refl _), List.take_of_length_le (by rw [List.length_append, hfl, hfl2, Nat.add_mul]; exact Nat.le_refl _)]
      intro k v hkv
      have hcs : ∃ c, ((css.flatten ++ css2.flatten).drop (k * t.sz)).take t.sz = c ∧ t.rep w (fun b => G b ∧ b < w.heap.size) c v := by
        by_cases hkx : k < xs.length
        · have hxk : xs[k]? = some v := by rw [← hkv, List.getElem?_append_left hkx]
          obtain ⟨c, hc, hrc⟩ := hrep _ _ hxk
          refine ⟨c, ?_, t.mono hrc fun b hb h => ⟨hF b hb h, hb⟩⟩
          have hle2 : (k + 1) * t.sz ≤ css.flatten.length := by rw [hfl]; exact Nat.mul_le_mul_right _ hkx
          have hle' : k * t.sz + t.sz ≤ css.flatten.length := by rw [Nat.succ_mul] at hle2; exact hle2
          rw [List.drop_append_of_le_length (by omega), List.take_append_of_le_length (by rw [List.length_drop]; omega)]
          exact flatMap_take_drop css hall _ _ hc
        · have hxk : ys[k - xs.length]? = some v := by rw [← hkv, List.getElem?_append_right (by omega)]
          obtain ⟨c, hc, hrc⟩ := hrep2 _ _ hxk
          refine ⟨c, ?_, t.mono hrc fun b hb h => ⟨hF' b hb h, hb⟩⟩
          have e1 : k * t.sz = css.flatten.length + (k - xs.length) * t.sz := by
            rw [hfl, ← Nat.add_mul]; congr 1; omega
          rw [e1, List.drop_append, List.drop_of_length_le (by omega), List.nil_append, Nat.add_sub_cancel_left]
          exact flatMap_take_drop css2 hall2 _ _ hc
      obtain ⟨c, hc, hrc⟩ := hcs
      rw [hc]
      refine t.mono (t.keep hrc E fun b _ _ h => h) fun b _ h => ⟨h.1, fun he => ?_⟩
      simp only [Value.ownBlock, Option.some.injEq] at he
      have := h.2; omega
end
end Go.Vc

namespace Go.Vc
set_option linter.unusedVariables false
set_option linter.unusedSimpArgs false
section
variable {P : Program} {d : Option Tmp} {ty : TypeId} {p : String} {af : Array Edge} {g : Option (Nat × Bool)} {e : Nat → Value} {w : World} {x y z : Operand}
/-- 's[:n:n]' -/
theorem v_slice3 {T et sz n c h : Nat} {a : Option Addr} {k1 k2 : IntKind} (hk : kSlice P T et = true) (hs : kSize P et sz = true) (hx : ev e x = .slice a n c) (hy : ev e y = .int k1 (h : Nat)) (hz : ev e z = .int k2 (h : Nat)) (hhc : h ≤ c) :
    OpVat P ⟨d, .slice T x none (some y) (some z), ty, p, af, g⟩ e w (.slice a h h) := by
  have h1 : (Instr.sliceBound (.int k2 (h : Nat)) c .slice3Acap).run P w = .ok h w := by
    simp [Instr.sliceBound, asIntOf]; omega
  have h2 : (Instr.sliceBound (.int k1 (h : Nat)) h .slice3B).run P w = .ok h w := by
    simp [Instr.sliceBound, asIntOf]
  have ha : (if h = 0 then a else a.map (·.add (0 * sz))) = a := by
    split
    · rfl
    · cases a with
      | none => rfl
      | some q => cases q; simp [Addr.add]
  have hb : (Instr.sliceBounds true n c none (some (.int k1 (h : Nat))) (some (.int k2 (h : Nat)))).run P w = .ok (0, h, h) w := by
    simp [Instr.sliceBounds, h1, h2]
  simp [OpVat, execOp, hx, hy, hz, Instr.sliceAt, Instr.slice, run_underlying (kSlice_of hk), hb, run_sizeOf hs]
  simpa using ha
end
end Go.Vc

namespace Go.Vc
set_option linter.unusedVariables false
set_option linter.unusedSimpArgs false
theorem setAt_get {l c : List Value} {i : Nat} (h : i + c.length ≤ l.length) (j : Nat) : (setAt l i c)[j]? = if i ≤ j ∧ j < i + c.length then c[j - i]? else l[j]? := by
  unfold setAt
  have h1 : (l.take i).length = i := by rw [List.length_take]; omega
  by_cases hj : j < i
  · rw [if_neg (by omega), List.append_assoc, List.getElem?_append_left (by omega), List.getElem?_take, if_pos hj]
  · by_cases hj2 : j < i + c.length
    · rw [if_pos (by omega), List.append_assoc, List.getElem?_append_right (by omega), h1, List.getElem?_append_left (by omega)]
    · rw [if_neg (by omega), List.getElem?_append_right (by rw [List.length_append]; omega), List.length_append, h1, List.getElem?_drop]
      congr 1; omega
theorem setAt_len {l c : List Value} {i : Nat} (h : i + c.length ≤ l.length) : (setAt l i c).length = l.length := by
  unfold setAt; simp; omega
theorem mul_sep {i k sz j : Nat} (hik : i ≠ k) (hj : j < sz) : ¬ (k * sz ≤ i * sz + j ∧ i * sz + j < k * sz + sz) := by
  intro ⟨h1, h2⟩
  rcases Nat.lt_or_ge i k with h | h
  · have := Nat.mul_le_mul_right sz (show i + 1 ≤ k by omega)
    rw [Nat.succ_mul] at this; omega
  · have := Nat.mul_le_mul_right sz (show k + 1 ≤ i by omega)
    rw [Nat.succ_mul] at this; omega
theorem made_seg {c : Array Value} {n j sz : Nat} (hs : c.size = sz) (hp : 0 < sz) (hj : j < n) : ((madeCells c (n * sz)).toList.drop (j * sz)).take sz = c.toList := by
  apply List.ext_getElem?
  intro k
  have hle := Nat.mul_le_mul_right sz (show j + 1 ≤ n by omega)
  rw [Nat.succ_mul] at hle
  rw [List.getElem?_take]
  by_cases hk : k < sz
  · rw [if_pos hk, List.getElem?_drop]
    have h1 : (j * sz + k) % sz = k := by rw [Nat.mul_comm, Nat.mul_add_mod, Nat.mod_eq_of_lt hk]
    have h2 : j * sz + k < n * sz := by omega
    simp only [madeCells, Array.toList_map, Array.toList_range, List.getElem?_map, List.getElem?_range h2, Option.map_some, hs, h1]
    simp [hs, hk]
  · rw [if_neg hk]
    simp [hs]; omega
section
variable {P : Program} {d : Option Tmp} {ty : TypeId} {p : String} {af : Array Edge} {g : Option (Nat × Bool)} {e : Nat → Value} {w : World} {x y : Operand} {K : Value → World → Prop} {α : Type}
/-- 'make([]T, n)', T a struct -/
theorem to_makeA {t : Ty α} {T et bytes : Nat} {kl kc : IntKind} {n : Nat} {z : α} {zv : Value} (hk : kElem P T et t.sz bytes = true) (hx : ev e x = .int kl (n : Nat)) (hy : ev e y = .int kc (n : Nat)) (hb : bytes * n ≤ 140737488355328) (hm : n ≤ maxLen)
    (hz : kZero P et zv) (hzs : zv.cells.size = t.sz) (hr : ∀ w F, t.rep w F zv.cells.toList z)
    (k : ∀ b w', b = w.heap.size → OwV t et w' b NoK (.slice (some ⟨b, 0, none⟩) n n) (List.replicate n z) → Ext w w' → w.heap.size < w'.heap.size → K (.slice (some ⟨b, 0, none⟩) n n) w') :
    OpTo P ⟨d, .makeSlice T x y, ty, p, af, g⟩ e w K := by
  obtain ⟨ht, i, z', hi, hz', _, his, hib⟩ := kElem_of hk
  have hzz : z' = zv := by unfold kZero at hz; simp [hi, hz'] at hz; exact hz
  subst hzz
  obtain ⟨w', hrun, hown, hg⟩ := run_make_full (P := P) w w.heap.size T et i z' t.sz ht hi hz' his kl kc n (by rw [hib]; omega) hm (Nat.le_refl _)
  have hr' : (execOp (ev e) ⟨d, .makeSlice T x y, ty, p, af, g⟩).run P w = .ok (.value (.slice (some ⟨w.heap.size, 0, none⟩) n n)) w' := by
    simp [execOp, hx, hy, hrun]
  unfold OpTo
  rw [hr']
  refine k _ _ rfl ⟨_, by simpa using hown, fun j y hy => ?_⟩ ⟨hg.os, hg.tape, hg.output, hg.size, fun k hk _ => hg.block k hk (by simp)⟩ (hown.lt w.heap.size rfl).2
  have hjn : j < n := by have := (List.getElem?_eq_some_iff.1 hy).1; simpa using this
  have hyz : y = z := by
    rw [List.getElem?_replicate, if_pos hjn] at hy; exact (Option.some.inj hy).symm
  subst hyz
  rw [made_seg hzs t.pos hjn]
  exact hr _ _
/-- a store of a whole element of a slice of one's own -/
theorem to_storeOA {t : Ty α} {T et B b n cc k : Nat} {F : Nat → Prop} {xs : List α} {x1 : α} {cs : Array Value} {a : Addr} (hx : ev e x = .pointer (some a)) (ha : a = ⟨b, k * t.sz, none⟩) (hy : ev e y = .agg cs) (hs : kSize P T t.sz = true)
    (hv : OwV t et w B F (.slice (some ⟨b, 0, none⟩) n cc) xs) (hk : k < xs.length) (hrep : t.rep w (fun b' => F b' ∧ b ≠ b') cs.toList x1)
    (r : ∀ w', OwV t et w' B F (.slice (some ⟨b, 0, none⟩) n cc) (xs.set k x1) → Keep (fun k => k = b) w w' → w'.heap.size = w.heap.size → K undef w') : OpTo P ⟨d, .store T x y, ty, p, af, g⟩ e w K := by
  obtain ⟨cells, hown, hreps⟩ := hv
  rcases hown.2 with ⟨he, _⟩ | ⟨g', cap, cur, he, hB, hg, h3, h4, h5, h6⟩
  · cases he
  · simp only [Value.slice.injEq, Option.some.injEq, Addr.mk.injEq] at he
    obtain ⟨⟨rfl, _⟩, hnn, rfl⟩ := he
    have hcl : cells.length = xs.length * t.sz := hown.1
    have hcs := t.len hrep
    have hb : Blk w b cur.toList et := by unfold Blk; simpa using hg
    have hle : (k + 1) * t.sz ≤ xs.length * t.sz := Nat.mul_le_mul_right _ hk
    have hle2 : xs.length * t.sz ≤ cc * t.sz := Nat.mul_le_mul_right _ (by omega)
    rw [Nat.succ_mul] at hle
    have hi : k * t.sz + cs.toList.length ≤ cur.toList.length := by rw [hcs]; simp; omega
    have hi2 : k * t.sz + cs.toList.length ≤ cells.length := by rw [hcs, hcl]; omega
    refine to_storeA hx ha hy hs hcs (t.one hrep) hb (by have := hi; rw [hcs] at this; exact this) fun w' hb' hk' hz' => r w' ⟨setAt cells (k * t.sz) cs.toList, ⟨by rw [setAt_len hi2]; simpa using hcl, .inr ⟨b, cc, (setAt cur.toList (k * t.sz) cs.toList).toArray, ?_, hB, hb', by simpa using h3, h4, ?_, ?_⟩⟩, ?_⟩ hk' hz'
    · simp only [List.length_set]; rw [hnn]
    · have := setAt_len hi; simp only [Array.length_toList] at this; simpa [this] using h5
    · simp only [List.length_set]
      apply List.ext_getElem?
      intro j
      rw [List.getElem?_take, setAt_get hi2, ← h6]
      rw [setAt_get hi, List.getElem?_take]
      split
      · rfl
      · rename_i hj
        split
        · rename_i h7; exfalso; rw [hcs] at h7; omega
        · rfl
    · intro i y hy'
      have hcong : (fun b' => F b' ∧ (Value.slice (some ⟨b, 0, none⟩) n cc).ownBlock ≠ some b') = (fun b' => F b' ∧ b ≠ b') := by
        funext b'
        simp [Value.ownBlock]
      have hkeep : ∀ cs z, t.rep w (fun b' => F b' ∧ b ≠ b') cs z → t.rep w' (fun b' => F b' ∧ b ≠ b') cs z := fun cs z hr => t.keep hr hk' fun b' _ hb he => hb.2 he.symm
      rw [hcong] at hreps ⊢
      by_cases hik : i = k
      · subst hik
        rw [List.getElem?_set_self (by omega)] at hy'
        cases hy'
        have hseg : ((setAt cells (i * t.sz) cs.toList).drop (i * t.sz)).take t.sz = cs.toList := by
          apply List.ext_getElem?
          intro j
          rw [List.getElem?_take, List.getElem?_drop, setAt_get hi2]
          by_cases hj : j < t.sz
          · rw [if_pos hj, if_pos (by omega)]; congr 1; omega
          · rw [if_neg hj]; symm; apply List.getElem?_eq_none; omega
        rw [hseg]
        exact hkeep _ _ hrep
      · rw [List.getElem?_set_ne (by omega)] at hy'
        have hseg : ((setAt cells (k * t.sz) cs.toList).drop (i * t.sz)).take t.sz = (cells.drop (i * t.sz)).take t.sz := by
          apply List.ext_getElem?
          intro j
          rw [List.getElem?_take, List.getElem?_drop, setAt_get hi2, List.getElem?_take, List.getElem?_drop]
          by_cases hj : j < t.sz
          · rw [if_pos hj, if_pos hj, hcs, if_neg (mul_sep hik hj)]
          · rw [if_neg hj, if_neg hj]
        rw [hseg]
        exact hkeep _ _ (hreps i y hy')
end
end Go.Vc

namespace Go.Vc
theorem cells_int {k : IntKind} {n : Int} : (Value.int k n).cells = #[.int k n] := rfl
theorem cells_bool {b : Bool} : (Value.bool b).cells = #[.bool b] := rfl
end Go.Vc
namespace Go.Vc
theorem AgV.rp {α : Type} {t : Ty α} {w : World} {F : Nat → Prop} {v : Value} {x : α} (h : AgV t w F v x) : t.rep w F v.cells.toList x := by
  obtain ⟨cs, rfl, hr⟩ := h; exact hr
end Go.Vc
