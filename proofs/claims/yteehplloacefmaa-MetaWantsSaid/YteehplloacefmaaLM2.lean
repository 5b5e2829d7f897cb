/- MetaWants: Of a state that may be each move has its own row in what is to be done elsewhere, and of another one there is none; for any of at most 40 ranges and moves. -/
import Derived.Test.YteehplloacefmaaM11
import Derived.Test.YteehplloacefmaaGb
import Derived.Test.YteehplloacefmaaRows
namespace Go.Proofs.Yteehplloacefmaa.metaWants
open Go.ChangeShapes Go.WideShapes Go.ChangeAt Go.RowKit Go.Vc
set_option linter.unusedVariables false
set_option linter.unusedSimpArgs false
theorem own : ownKnob Try.prog.godebug = none := by kernel_rfl
theorem laidOut : laidOutB Try.prog = true := by kernel_rfl
set_option maxRecDepth 100000 in
theorem lifted (os : Os) (started : os.Started) (H : Type) (enc : TypeId × Value → H) :
    ReturnsInHanded {} Try.checked os 6 .any (Rows.metaWantsSpec.pre6 enc Try.prog Try.f6 Rows.metaWantsRow.domain false) (Rows.metaWantsSpec.post enc Try.prog Try.f6 false true false false) := by
  refine returnsInHanded_of_change (C := Try.checked) own started zk Try.func6
    (ChangeSpec.witness6 (enc := enc) (C := Try.checked) false ⟨#[], #[.agg #[.int .i64 0, .slice none 0 0, .int .i64 0, .slice none 0 0]], []⟩ 8 zk zk zk zk) ?_
  intro W base args ds gs before hval0 hW hcnd _
  have hval : ∀ (j : Nat) t v, Try.f6.params[j]? = some t → args[j]? = some v → Value.okWide Try.prog W .any base t v := hval0
  have hW' := hW
  obtain ⟨p, q, hA0, hV, rfl, hfz, hnd⟩ := hW
  have hA : DataW.TrodAll enc Try.prog W 0 (fun _ => true) true Try.f6.params.toList args.toList ds p := hA0
  rw [Try.params6] at hA hval
  obtain ⟨v0, vs0, d0, ds0, p0, q0, hargs, rfl, rfl, h0, r0⟩ := trodAll_cons hA
  obtain ⟨rfl, rfl, rfl⟩ := trodAll_nil r0
  obtain rfl : args = #[v0] := by cases args; simp_all
  obtain ⟨rfl, rfl⟩ := trodVars_none hV
  have lt0 := trod_lt1 h0
  have g0 := h0
  obtain ⟨cs0, rfl, _⟩ := okWide_struct Try.underlying27 (hval 0 27 v0 rfl rfl)
  obtain ⟨x0, s0⟩ := opens_arg (opens_struct (P := Try.prog) (t := tMt) (l := [(24, 0), (2, 2), (25, 3)]) Try.underlying27 zk zk (opens_next zk (opens_struct (P := Try.prog) (t := tMp) (l := [(2, 0), (22, 1)]) Try.underlying24 zk zk (opens_next zk (opens_int Try.underlying2) (opens_last zk (opens_slice (t := tRg) Try.underlying22 zk (opens_struct (P := Try.prog) (t := tRg) (l := [(33, 0), (33, 1), (4, 2), (3, 3)]) Try.underlying63 zk zk (opens_next zk (opens_slice Try.underlying33 zk (opens_u8 Try.underlying5)) (opens_next zk (opens_slice Try.underlying33 zk (opens_u8 Try.underlying5)) (opens_next zk (opens_bool Try.underlying4) (opens_last zk (opens_int Try.underlying3)))))))))) (opens_next zk (opens_int Try.underlying2) (opens_last zk (opens_slice (t := tMa) Try.underlying25 zk (opens_struct (P := Try.prog) (t := tMa) (l := [(39, 0), (4, 6)]) Try.underlying54 zk zk (opens_next zk (opens_struct (P := Try.prog) (t := tMv) (l := [(2, 0), (33, 1), (33, 2), (4, 3), (3, 4), (3, 5)]) Try.underlying39 zk zk (opens_next zk (opens_int Try.underlying2) (opens_next zk (opens_slice Try.underlying33 zk (opens_u8 Try.underlying5)) (opens_next zk (opens_slice Try.underlying33 zk (opens_u8 Try.underlying5)) (opens_next zk (opens_bool Try.underlying4) (opens_next zk (opens_int Try.underlying3) (opens_last zk (opens_int Try.underlying3)))))))) (opens_last zk (opens_bool Try.underlying4))))))))) h0
  clear hA0 hval0
  refine Calls.mono (MetaWants_c ⟨_, rfl, s0⟩) fun e W' ⟨u, he, hr, hE⟩ => ?_
  subst he hr
  have bel := hE.below
  exact ⟨_, rfl, _, _, _, [], _, [], hW', trodAll_mk1 (shut_bool Try.underlying4 _), (trodAll_cons_mk (Below.trod laidOut zk (of_decide_eq_true zk) g0 bel lt0) trodAll_mk0), rfl, bel.frame _, fun h => by cases h⟩
theorem over : Rows.metaWantsRow.holds Try.pinned (OpenSpec.ofChange Rows.metaWantsSpec) :=
  OpenClaim.holds_of_wide 6 Try.f6 rfl rfl rfl rfl rfl rfl rfl ⟨rfl, rfl, rfl, rfl, rfl⟩ rfl rfl rfl rfl rfl zk Try.func6 zk
    (of_decide_eq_true zk) (by unfold Func.isWrapper; first | (rw [if_pos zd]; kernel_rfl) | (rw [if_neg zd]; exact ⟨rfl, rfl⟩))
    (fun os started H enc _ => lifted os started H enc)
/-- the statement -/
theorem proved : Rows.MetaWantsSaid := over
end Go.Proofs.Yteehplloacefmaa.metaWants
#print axioms Go.Proofs.Yteehplloacefmaa.metaWants.proved
