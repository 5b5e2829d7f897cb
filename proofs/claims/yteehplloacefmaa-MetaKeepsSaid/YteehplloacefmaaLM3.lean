/- MetaKeeps: What comes of the first state by commands may be, its numbers rise, and no move ends but by its own steps; for any of at most 80 commands. -/
import Derived.Test.YteehplloacefmaaM11
import Derived.Test.YteehplloacefmaaGb
import Derived.Test.YteehplloacefmaaRows
namespace Go.Proofs.Yteehplloacefmaa.metaKeeps
open Go.ChangeShapes Go.WideShapes Go.ChangeAt Go.RowKit Go.Vc
set_option linter.unusedVariables false
set_option linter.unusedSimpArgs false
theorem own : ownKnob Try.prog.godebug = none := by kernel_rfl
theorem laidOut : laidOutB Try.prog = true := by kernel_rfl
set_option maxRecDepth 100000 in
theorem lifted (os : Os) (started : os.Started) (H : Type) (enc : TypeId × Value → H) :
    ReturnsInHanded {} Try.checked os 5 .any (Rows.metaKeepsSpec.pre6 enc Try.prog Try.f5 Rows.metaKeepsRow.domain false) (Rows.metaKeepsSpec.post enc Try.prog Try.f5 false true false false) := by
  refine returnsInHanded_of_change (C := Try.checked) own started zk Try.func5
    (ChangeSpec.witness6 (enc := enc) (C := Try.checked) false ⟨#[], #[.slice none 0 0], []⟩ 8 zk zk zk zk) ?_
  intro W base args ds gs before hval0 hW hcnd _
  have hval : ∀ (j : Nat) t v, Try.f5.params[j]? = some t → args[j]? = some v → Value.okWide Try.prog W .any base t v := hval0
  have hW' := hW
  obtain ⟨p, q, hA0, hV, rfl, hfz, hnd⟩ := hW
  have hA : DataW.TrodAll enc Try.prog W 0 (fun _ => true) true Try.f5.params.toList args.toList ds p := hA0
  rw [Try.params5] at hA hval
  obtain ⟨v0, vs0, d0, ds0, p0, q0, hargs, rfl, rfl, h0, r0⟩ := trodAll_cons hA
  obtain ⟨rfl, rfl, rfl⟩ := trodAll_nil r0
  obtain rfl : args = #[v0] := by cases args; simp_all
  obtain ⟨rfl, rfl⟩ := trodVars_none hV
  have lt0 := trod_lt1 h0
  have g0 := h0
  obtain ⟨x0, s0⟩ := opens_arg (opens_slice (t := tCm) Try.underlying51 zk (opens_struct (P := Try.prog) (t := tCm) (l := [(31, 0), (37, 1), (39, 10), (40, 16), (33, 17), (33, 18), (3, 19)]) Try.underlying42 zk zk (opens_next zk (opens_int Try.underlying31) (opens_next zk (opens_struct (P := Try.prog) (t := tRq) (l := [(3, 0), (2, 1), (35, 2)]) Try.underlying37 zk zk (opens_next zk (opens_int Try.underlying3) (opens_next zk (opens_int Try.underlying2) (opens_last zk (opens_struct (P := Try.prog) (t := tAk) (l := [(32, 0), (33, 1), (33, 2), (33, 3), (33, 4), (4, 5), (3, 6)]) Try.underlying35 zk zk (opens_next zk (opens_int Try.underlying32) (opens_next zk (opens_slice Try.underlying33 zk (opens_u8 Try.underlying5)) (opens_next zk (opens_slice Try.underlying33 zk (opens_u8 Try.underlying5)) (opens_next zk (opens_slice Try.underlying33 zk (opens_u8 Try.underlying5)) (opens_next zk (opens_slice Try.underlying33 zk (opens_u8 Try.underlying5)) (opens_next zk (opens_bool Try.underlying4) (opens_last zk (opens_int Try.underlying3))))))))))))) (opens_next zk (opens_struct (P := Try.prog) (t := tMv) (l := [(2, 0), (33, 1), (33, 2), (4, 3), (3, 4), (3, 5)]) Try.underlying39 zk zk (opens_next zk (opens_int Try.underlying2) (opens_next zk (opens_slice Try.underlying33 zk (opens_u8 Try.underlying5)) (opens_next zk (opens_slice Try.underlying33 zk (opens_u8 Try.underlying5)) (opens_next zk (opens_bool Try.underlying4) (opens_next zk (opens_int Try.underlying3) (opens_last zk (opens_int Try.underlying3)))))))) (opens_next zk (opens_slice (t := tIk) Try.underlying40 zk (opens_struct (P := Try.prog) (t := tIk) (l := [(33, 0), (2, 1), (108, 2), (33, 3)]) Try.underlying110 zk zk (opens_next zk (opens_slice Try.underlying33 zk (opens_u8 Try.underlying5)) (opens_next zk (opens_int Try.underlying2) (opens_next zk (opens_int Try.underlying108) (opens_last zk (opens_slice Try.underlying33 zk (opens_u8 Try.underlying5)))))))) (opens_next zk (opens_slice Try.underlying33 zk (opens_u8 Try.underlying5)) (opens_next zk (opens_slice Try.underlying33 zk (opens_u8 Try.underlying5)) (opens_last zk (opens_int Try.underlying3)))))))))) h0
  replace s0 := arg_slice Try.underlying51 (hval 0 51 v0 rfl rfl) s0
  clear hA0 hval0
  refine Calls.mono (MetaKeeps_c s0) fun e W' ⟨u, he, hr, hE⟩ => ?_
  subst he hr
  have bel := hE.below
  exact ⟨_, rfl, _, _, _, [], _, [], hW', trodAll_mk1 (shut_bool Try.underlying4 _), (trodAll_cons_mk (Below.trod laidOut zk (of_decide_eq_true zk) g0 bel lt0) trodAll_mk0), rfl, bel.frame _, fun h => by cases h⟩
theorem over : Rows.metaKeepsRow.holds Try.pinned (OpenSpec.ofChange Rows.metaKeepsSpec) :=
  OpenClaim.holds_of_wide 5 Try.f5 rfl rfl rfl rfl rfl rfl rfl ⟨rfl, rfl, rfl, rfl, rfl⟩ rfl rfl rfl rfl rfl zk Try.func5 zk
    (of_decide_eq_true zk) (by unfold Func.isWrapper; first | (rw [if_pos zd]; kernel_rfl) | (rw [if_neg zd]; exact ⟨rfl, rfl⟩))
    (fun os started H enc _ => lifted os started H enc)
/-- the statement -/
theorem proved : Rows.MetaKeepsSaid := over
end Go.Proofs.Yteehplloacefmaa.metaKeeps
#print axioms Go.Proofs.Yteehplloacefmaa.metaKeeps.proved
