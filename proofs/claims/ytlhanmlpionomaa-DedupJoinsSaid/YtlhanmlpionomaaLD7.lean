/- DedupJoins: a join holds of each client the answer of the greater number, in either order; joining again turns nothing; bytes give the table back. -/
import Derived.Test.YtlhanmlpionomaaD35
import Derived.Test.YtlhanmlpionomaaGb
import Derived.Test.YtlhanmlpionomaaRows
namespace Go.Proofs.Ytlhanmlpionomaa.dedupJoins
open Go.ChangeShapes Go.WideShapes Go.ChangeAt Go.RowKit Go.Vc
set_option linter.unusedVariables false
set_option linter.unusedSimpArgs false
theorem own : ownKnob Try.prog.godebug = none := by kernel_rfl
theorem laidOut : laidOutB Try.prog = true := by kernel_rfl
set_option maxRecDepth 100000 in
theorem lifted (os : Os) (started : os.Started) (H : Type) (enc : TypeId × Value → H) :
    ReturnsInHanded {} Try.checked os 9 .any (Rows.dedupJoinsSpec.pre6 enc Try.prog Try.f9 Rows.dedupJoinsRow.domain false) (Rows.dedupJoinsSpec.post enc Try.prog Try.f9 false true false false) := by
  refine returnsInHanded_of_change (C := Try.checked) own started (by kernel_rfl) Try.func9
    (ChangeSpec.witness6 (enc := enc) (C := Try.checked) false ⟨#[], #[.slice none 0 0, .slice none 0 0], []⟩ 8 (by kernel_rfl) (by kernel_rfl) (by kernel_rfl) (by kernel_rfl)) ?_
  intro W base args ds gs before hval0 hW hcnd _
  have hval : ∀ (j : Nat) t v, Try.f9.params[j]? = some t → args[j]? = some v → Value.okWide Try.prog W .any base t v := hval0
  have hW' := hW
  obtain ⟨p, q, hA0, hV, rfl, hfz, hnd⟩ := hW
  have hA : DataW.TrodAll enc Try.prog W 0 (fun _ => true) true Try.f9.params.toList args.toList ds p := hA0
  rw [Try.params9] at hA hval
  obtain ⟨v0, vs0, d0, ds0, p0, q0, hargs, rfl, rfl, h0, r0⟩ := trodAll_cons hA
  obtain ⟨v1, vs1, d1, ds1, p1, q1, rfl, rfl, rfl, h1, r1⟩ := trodAll_cons r0
  obtain ⟨rfl, rfl, rfl⟩ := trodAll_nil r1
  obtain rfl : args = #[v0, v1] := by cases args; simp_all
  obtain ⟨rfl, rfl⟩ := trodVars_none hV
  have lt0 := trod_lt1 h0
  have g0 := h0
  obtain ⟨x0, s0⟩ := opens_arg (opens_slice (t := tDs) Try.underlying22 (by kernel_rfl) (opens_struct (P := Try.prog) (t := tDs) (l := [(3, 0), (2, 1), (33, 2), (4, 5)]) Try.underlying58 (by kernel_rfl) (by kernel_rfl) (opens_next (by kernel_rfl) (opens_int Try.underlying3) (opens_next (by kernel_rfl) (opens_int Try.underlying2) (opens_next (by kernel_rfl) (opens_struct (P := Try.prog) (t := tAn) (l := [(29, 0), (30, 1), (31, 2)]) Try.underlying33 (by kernel_rfl) (by kernel_rfl) (opens_next (by kernel_rfl) (opens_int Try.underlying29) (opens_next (by kernel_rfl) (opens_slice Try.underlying30 (by kernel_rfl) (opens_struct (P := Try.prog) (t := tPr) (l := [(31, 0), (31, 1)]) Try.underlying61 (by kernel_rfl) (by kernel_rfl) (opens_next (by kernel_rfl) (opens_slice Try.underlying31 (by kernel_rfl) (opens_u8 Try.underlying5)) (opens_last (by kernel_rfl) (opens_slice Try.underlying31 (by kernel_rfl) (opens_u8 Try.underlying5)))))) (opens_last (by kernel_rfl) (opens_slice Try.underlying31 (by kernel_rfl) (opens_u8 Try.underlying5)))))) (opens_last (by kernel_rfl) (opens_bool Try.underlying4))))))) h0
  replace s0 := arg_slice Try.underlying22 (hval 0 22 v0 rfl rfl) s0
  have lt1 := trod_lt1 h1
  have g1 := h1
  obtain ⟨x1, s1⟩ := opens_arg (opens_slice (t := tDs) Try.underlying22 (by kernel_rfl) (opens_struct (P := Try.prog) (t := tDs) (l := [(3, 0), (2, 1), (33, 2), (4, 5)]) Try.underlying58 (by kernel_rfl) (by kernel_rfl) (opens_next (by kernel_rfl) (opens_int Try.underlying3) (opens_next (by kernel_rfl) (opens_int Try.underlying2) (opens_next (by kernel_rfl) (opens_struct (P := Try.prog) (t := tAn) (l := [(29, 0), (30, 1), (31, 2)]) Try.underlying33 (by kernel_rfl) (by kernel_rfl) (opens_next (by kernel_rfl) (opens_int Try.underlying29) (opens_next (by kernel_rfl) (opens_slice Try.underlying30 (by kernel_rfl) (opens_struct (P := Try.prog) (t := tPr) (l := [(31, 0), (31, 1)]) Try.underlying61 (by kernel_rfl) (by kernel_rfl) (opens_next (by kernel_rfl) (opens_slice Try.underlying31 (by kernel_rfl) (opens_u8 Try.underlying5)) (opens_last (by kernel_rfl) (opens_slice Try.underlying31 (by kernel_rfl) (opens_u8 Try.underlying5)))))) (opens_last (by kernel_rfl) (opens_slice Try.underlying31 (by kernel_rfl) (opens_u8 Try.underlying5)))))) (opens_last (by kernel_rfl) (opens_bool Try.underlying4))))))) h1
  replace s1 := arg_slice Try.underlying22 (hval 1 22 v1 rfl rfl) s1
  clear hA0 hval0
  refine Calls.mono (DedupJoins_c s0 s1) fun e W' ⟨u, he, hr, hE⟩ => ?_
  subst he hr
  have bel := hE.below
  exact ⟨_, rfl, _, _, _, [], _, [], hW', trodAll_mk1 (shut_bool Try.underlying4 _), (trodAll_cons_mk (Below.trod laidOut (by kernel_rfl) (of_decide_eq_true (by kernel_rfl)) g0 bel lt0) (trodAll_cons_mk (Below.trod laidOut (by kernel_rfl) (of_decide_eq_true (by kernel_rfl)) g1 bel lt1) trodAll_mk0)), rfl, bel.frame _, fun h => by cases h⟩
theorem over : Rows.dedupJoinsRow.holds Try.pinned (OpenSpec.ofChange Rows.dedupJoinsSpec) :=
  OpenClaim.holds_of_wide 9 Try.f9 rfl rfl rfl rfl rfl rfl rfl ⟨rfl, rfl, rfl, rfl, rfl⟩ rfl rfl rfl rfl rfl (by kernel_rfl) Try.func9 (by kernel_rfl)
    (of_decide_eq_true (by kernel_rfl)) (by unfold Func.isWrapper; first | (rw [if_pos (by decide +kernel)]; kernel_rfl) | (rw [if_neg (by decide +kernel)]; exact ⟨rfl, rfl⟩))
    (fun os started H enc _ => lifted os started H enc)
/-- the statement -/
theorem proved : Rows.DedupJoinsSaid := over
end Go.Proofs.Ytlhanmlpionomaa.dedupJoins
#print axioms Go.Proofs.Ytlhanmlpionomaa.dedupJoins.proved
