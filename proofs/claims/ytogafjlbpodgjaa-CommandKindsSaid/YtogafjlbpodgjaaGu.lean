/- A part of the proof: steps and lemmas for the walks through the given program. -/
import Derived.Test.YtogafjlbpodgjaaGw
import Derived.Test.YtogafjlbpodgjaaGd
import Derived.Test.YtogafjlbpodgjaaGc
namespace Go.Proofs.Ytogafjlbpodgjaa
open Go.Vc
set_option linter.unusedVariables false
set_option linter.unusedSimpArgs false
set_option maxRecDepth 100000

abbrev nSl : Nat := 23
theorem OwV_sep {α β : Type} {t : Ty α} {t' : Ty β} {e : TypeId} {w0 w : World} {B : Nat} {F G : Nat → Prop} {v : Value} {ys : List α} (o : OwV t e w0 B F v ys) (hm : ∀ b, G b → w0.heap.size ≤ b) (hB : B ≤ w0.heap.size) :
    ∀ cs x, t'.rep w G cs x → t'.rep w (fun b => B ≤ b ∧ v.ownBlock ≠ some b) cs x := fun cs x h =>
  t'.mono h fun b _ hb => ⟨Nat.le_trans hB (hm b hb), fun he => by have := (o.own_lt he).2; have := hm b hb; omega⟩
/-- a list's form -/
def wList {α : Type} (sp : α → List UInt8) (xs : List α) : List UInt8 := wNum xs.length ++ (xs.map sp).flatten

/-- so many things, one behind the other -/
def rdList {α : Type} (ρ : List UInt8 → Except Int (α × List UInt8)) : Nat → List UInt8 → Except Int (List α × List UInt8)
  | 0, l => .ok ([], l)
  | n + 1, l => match ρ l with
    | .error e => .error e
    | .ok (x, l2) => match rdList ρ n l2 with
      | .error e => .error e
      | .ok (xs, l3) => .ok (x :: xs, l3)
def bindL {α : Type} (xs : List α) : Except Int (List α × List UInt8) → Except Int (List α × List UInt8)
  | .error e => .error e
  | .ok (ys, l) => .ok (xs ++ ys, l)
theorem bindL_nil {α : Type} (r : Except Int (List α × List UInt8)) : bindL [] r = r := by cases r <;> rfl
theorem rdList_ok {α : Type} {ρ : List UInt8 → Except Int (α × List UInt8)} {n : Nat} {l l2 : List UInt8} {x : α} {xs : List α} (h : ρ l = .ok (x, l2)) : bindL xs (rdList ρ (n + 1) l) = bindL (xs ++ [x]) (rdList ρ n l2) := by
  rw [rdList, h]
  simp only []
  cases rdList ρ n l2 with
  | error e => rfl
  | ok q => simp [bindL]
theorem rdList_err {α : Type} {ρ : List UInt8 → Except Int (α × List UInt8)} {n : Nat} {l : List UInt8} {e : Int} {xs : List α} (h : ρ l = .error e) : bindL xs (rdList ρ (n + 1) l) = .error e := by
  rw [rdList, h]; rfl

theorem TryV_any {α : Type} {t : Ty α} {et eR : TypeId} {w w' : World} {b : Nat} {F : Nat → Prop} {l : List UInt8} {q : Except Int (List α × List UInt8)} {r : Value} (h : TryV t et eR w w' b F l q r) :
    ∃ (a : Option Addr) (c : Nat) (e : Int) (xs : List α) (l2 : List UInt8), r = .tuple #[.slice a xs.length c, .int .i64 e] ∧ OwV t et w' w.heap.size (fun k => w.heap.size ≤ k) (.slice a xs.length c) xs ∧ Rd eR w' b F l2 ∧ ((e = 0 ∧ q = .ok (xs, l2)) ∨ (e ≠ 0 ∧ xs = [] ∧ l2 = l ∧ a = none ∧ c = 0 ∧ q = .error e)) := by
  match q, h with
  | .ok (x, l2), ⟨a, c, hr, h1, h2⟩ => exact ⟨a, c, 0, x, l2, hr, h1, h2, .inl ⟨rfl, rfl⟩⟩
  | .error e, ⟨he, hr, h2⟩ => exact ⟨none, 0, e, [], l, hr, OwV.nil _ _ _ _ _, h2, .inr ⟨he, rfl, rfl, rfl, rfl, rfl⟩⟩

end Go.Proofs.Ytogafjlbpodgjaa
