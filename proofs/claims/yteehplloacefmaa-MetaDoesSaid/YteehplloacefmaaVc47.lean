/- A part of the proof: steps and lemmas for the walks through the given program. -/
import Derived.Test.YteehplloacefmaaGx
import Derived.Test.YteehplloacefmaaGy
namespace Go.Vc
set_option linter.unusedVariables false
set_option linter.unusedSimpArgs false
/-! ### iterators that range over iterators -/
theorem Turn.le {B B' : Nat} {w w' : World} (h : Turn B' w w') (hB : B ≤ B') : Turn B w w' := by
  obtain ⟨K, k, hK⟩ := h
  exact ⟨K, k, fun b hb hk => ⟨Nat.le_trans hB (hK b hb hk).1, (hK b hb hk).2⟩⟩
theorem Turn.refl (B : Nat) (w : World) : Turn B w w := ⟨NoK, Keep.refl _, fun _ _ h => h.elim⟩
theorem Ext.turn {B : Nat} {w w' : World} (h : Ext w w') : Turn B w w' := ⟨NoK, h, fun _ _ h => h.elim⟩
/-- an iterator's contract, where what the loop relies on may stand behind other loops' records: Y: what holds where it yields -/
def SeqT {α : Type} (P : Program) (gf : Nat) (lb : Array Value) (encs : α → List Value) (Y : List α → α → World → Prop) (Kp : Nat → Prop) (S Sp : List α → Prop) (w0 : World) : Prop :=
  ∀ (l : Nat) (J Jx : List α → World → Prop) (W : World), Ext w0 W → w0.heap.size + 2 ≤ W.heap.size → (∀ s A B, Turn W.heap.size A B → J s A → J s B) → (∀ s A B, Turn W.heap.size A B → Jx s A → Jx s B) →
    (∀ pre x W1, J pre W1 → Y pre x W1 → YieldAt Fence.wide 0 P l (encs x).toArray W1 (fun en W' => ∃ v, en = .returned v ∧ ((v = .bool true ∧ J (pre ++ [x]) W' ∧ Keep Kp W1 W') ∨ (v = .bool false ∧ Jx (pre ++ [x]) W' ∧ Keep Kp W1 W')))) →
    J [] W → CallsR P gf (#[.func (.yield l) #[] #[]] ++ lb) W (fun _ W' => (∃ xs, S xs ∧ J xs W') ∨ ∃ pre, Sp pre ∧ Jx pre W')
theorem SeqT.mono {α : Type} {P : Program} {gf : Nat} {lb : Array Value} {encs : α → List Value} {Y : List α → α → World → Prop} {Kp Kp' : Nat → Prop} {S Sp : List α → Prop} {w0 : World} (h : SeqT P gf lb encs Y Kp S Sp w0) (hk : ∀ i, Kp' i → Kp i) : SeqT P gf lb encs Y Kp' S Sp w0 := by
  intro l J Jx W hx hz hJ hJx hY h0
  refine h l J Jx W hx hz hJ hJx (fun pre x W1 hj hy => (hY pre x W1 hj hy).mono fun en W' hR => ?_) h0
  obtain ⟨v, h1, h2⟩ := hR
  refine ⟨v, h1, ?_⟩
  rcases h2 with ⟨h2, h3, h4⟩ | ⟨h2, h3, h4⟩
  · exact .inl ⟨h2, h3, h4.mono fun i _ hi => hk i hi⟩
  · exact .inr ⟨h2, h3, h4.mono fun i _ hi => hk i hi⟩
section
variable {n : Nat} {P : Program} {fn : Func} {N : Nat} {e : Nat → Value} {w : World} {R : Value → World → Prop}
end
end Go.Vc
