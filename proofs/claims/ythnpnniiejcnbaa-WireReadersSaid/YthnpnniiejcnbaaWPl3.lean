/- A part of the proof: steps and lemmas for the walks through the given program. -/
import Derived.Test.YthnpnniiejcnbaaWPl2
namespace Go.Vc
set_option linter.unusedVariables false
/-- of a form's beginning no number is read -/
theorem rdNum_cut {n j : Nat} (hn : n < 18446744073709551616) (hj : j < (wNum n).length) : rdNum ((wNum n).take j) = none := by
  rcases hd : rdNum ((wNum n).take j) with _ | ⟨m, r⟩
  · rfl
  · exfalso
    have h1 := rdNum_form hd
    have h2 := rdNum_lt hd
    have h3 : wNum n = wNum m ++ (r ++ (wNum n).drop j) := by
      rw [← List.append_assoc, ← h1, List.take_append_drop]
    have h4 := rdNum_wNum hn []
    rw [List.append_nil, h3, rdNum_wNum h2] at h4
    have h5 : r ++ (wNum n).drop j = [] := by
      have := Option.some.inj h4
      exact (Prod.mk.inj this).2
    have h6 : (wNum n).drop j = [] := (List.append_eq_nil_iff.1 h5).2
    have h7 := congrArg List.length h6
    simp at h7
    omega
theorem flat_le {α : Type} {sp : α → List UInt8} {k : Nat} : ∀ (xs : List α), (∀ x ∈ xs, (sp x).length ≤ k) → (xs.map sp).flatten.length ≤ k * xs.length
  | [], _ => by simp
  | x :: xs, h => by
    have h1 := flat_le xs (fun y hy => h y (List.mem_cons_of_mem _ hy))
    have h2 := h x List.mem_cons_self
    simp only [List.map_cons, List.flatten_cons, List.length_append, List.length_cons]
    rw [Nat.mul_succ]; omega
end Go.Vc
