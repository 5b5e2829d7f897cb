/- A part of the proof: steps and lemmas for the walks through the given program. -/
import Derived.Test.YtifnkmflmgnfjaaJl
import Derived.Test.YtifnkmflmgnfjaaVc36
namespace Go.Proofs.Ytifnkmflmgnfjaa
open Go.Vc
set_option linter.unusedVariables false
set_option linter.unusedSimpArgs false
set_option maxRecDepth 100000

theorem csr_sl {u v : Value} {a : Option Addr} {n c : Nat} (h : URel u v) (hu : u = .slice a n c) : v = u := by
  subst hu
  rcases h with h | ⟨p, q, h, _⟩
  · exact h.symm
  · cases h
theorem csr_pr {a1 a2 : Option Addr} {n1 c1 n2 c2 : Nat} {cs : List Value} (h : CsR [.slice a1 n1 c1, .slice a2 n2 c2] cs) : cs = [.slice a1 n1 c1, .slice a2 n2 c2] := by
  match cs, h with
  | [x, y], ⟨h1, h2, _⟩ => rw [csr_sl h1 rfl, csr_sl h2 rfl]
  | [], h => exact h.elim
  | [_], h => exact h.2.elim
  | _ :: _ :: _ :: _, h => exact h.2.2.elim
theorem BvF.poke {w w' : World} {F : Nat → Prop} {a : Option Addr} {n c : Nat} {l : List UInt8} (h : BvF w F (.slice a n c) l) (p : Poke w w') (hl : l.length = n) : ∃ l' : List UInt8, l'.length = n ∧ BvF w' F (.slice a n c) l' := by
  obtain ⟨l', h'⟩ := pk_by _ _ _ _ _ _ h p (CsR.refl _)
  refine ⟨l', ?_, h'⟩
  have h2 : BvF w' F (.slice a n c) l' := h'
  obtain ⟨a', c', hs⟩ := h2.bv.shape
  cases hs; rfl
theorem DoB_c {w : World} {F : Nat → Prop} {vm va : Value} {m : MapV} {a : AkV} (HSm : SlV tPr w F vm m) (HG1 : AgV tAk w F va a) (hn : m.length ≤ 800000) :
    CallsR Try.prog 34 #[vm, va] w (fun o w' => ∃ u x mo xo e, o = .tuple #[u, x, .int .i64 e] ∧ SlV tPrF w' (fun b => w.heap.size ≤ b) u mo ∧ AgV tAn w' (FxB F w.heap.size) x xo ∧ ((!mayMp m || !mayAk a) = true → mo = [] ∧ xo = an0 ∧ e = 2) ∧ ((!mayMp m || !mayAk a) = false → mayMp m = true ∧ mayAk a = true ∧ mo = (doM m a).1 ∧ xo = (doM m a).2 ∧ e = 0) ∧ Ext w w') := by
  cases hb : (!mayMp m || !mayAk a) with
  | true =>
    refine (Do_bad HSm HG1 hb).mono fun o w' h => ?_
    obtain ⟨rfl, e⟩ := h
    exact ⟨_, _, [], an0, 2, rfl, SlV.nil _ _ _, an0_ag, fun _ => ⟨rfl, rfl, rfl⟩, (fun h => by cases h), e⟩
  | false =>
    have h1 : mayMp m = true := by cases h : mayMp m <;> simp_all
    have h2 : mayAk a = true := by cases h : mayAk a <;> simp_all
    refine (Do_c HSm HG1 h1 hn h2).mono fun o w' h => ?_
    obtain ⟨u, x, rfl, h3, h4, e⟩ := h
    exact ⟨u, x, _, _, 0, rfl, h3, h4, (fun h => by cases h), fun _ => ⟨h1, h2, rfl, rfl, rfl⟩, e⟩
end Go.Proofs.Ytifnkmflmgnfjaa
