/- JudgeOrders: any events are refused, or explained by the first order, or by none, as the chapter says, with the map behind it; for any at most 80 events of at most 3000 bytes each. -/
import Derived.Test.YtifnkmflmgnfjaaJ35
import Derived.Test.YtifnkmflmgnfjaaGb
import Derived.Test.YtifnkmflmgnfjaaRows
namespace Go.Proofs.Ytifnkmflmgnfjaa.judgeOrders
open Go.ChangeShapes Go.WideShapes Go.ChangeAt Go.RowKit Go.Vc
set_option linter.unusedVariables false
set_option linter.unusedSimpArgs false
theorem own : ownKnob Try.prog.godebug = none := by kernel_rfl
theorem laidOut : laidOutB Try.prog = true := by kernel_rfl
set_option maxRecDepth 100000 in
theorem lifted (os : Os) (started : os.Started) (H : Type) (enc : TypeId × Value → H) :
    ReturnsInHanded {} Try.checked os 7 .any (Rows.judgeOrdersSpec.pre6 enc Try.prog Try.f7 Rows.judgeOrdersRow.domain false) (Rows.judgeOrdersSpec.post enc Try.prog Try.f7 false true false false) := by
  refine returnsInHanded_of_change (C := Try.checked) own started zk Try.func7
    (ChangeSpec.witness6 (enc := enc) (C := Try.checked) false ⟨#[], #[.slice none 0 0], []⟩ 8 zk zk zk zk) ?_
  intro W base args ds gs before hval0 hW hcnd _
  have hval : ∀ (j : Nat) t v, Try.f7.params[j]? = some t → args[j]? = some v → Value.okWide Try.prog W .any base t v := hval0
  have hW' := hW
  obtain ⟨p, q, hA0, hV, rfl, hfz, hnd⟩ := hW
  have hA : DataW.TrodAll enc Try.prog W 0 (fun _ => true) true Try.f7.params.toList args.toList ds p := hA0
  rw [Try.params7] at hA hval
  obtain ⟨v0, vs0, d0, ds0, p0, q0, hargs, rfl, rfl, h0, r0⟩ := trodAll_cons hA
  obtain ⟨rfl, rfl, rfl⟩ := trodAll_nil r0
  obtain rfl : args = #[v0] := by cases args; simp_all
  obtain ⟨rfl, rfl⟩ := trodVars_none hV
  have lt0 := trod_lt1 h0
  have g0 := h0
  obtain ⟨x0, s0⟩ := opens_arg (opens_slice (t := tEv) Try.underlying35 zk (opens_struct (P := Try.prog) (t := tEv) (l := [(42, 0), (3, 1), (2, 2), (28, 3), (31, 10)]) Try.underlying44 zk zk (opens_next zk (opens_int Try.underlying42) (opens_next zk (opens_int Try.underlying3) (opens_next zk (opens_int Try.underlying2) (opens_next zk (opens_struct (P := Try.prog) (t := tAk) (l := [(25, 0), (26, 1), (26, 2), (26, 3), (26, 4), (4, 5), (3, 6)]) Try.underlying28 zk zk (opens_next zk (opens_int Try.underlying25) (opens_next zk (opens_slice Try.underlying26 zk (opens_u8 Try.underlying5)) (opens_next zk (opens_slice Try.underlying26 zk (opens_u8 Try.underlying5)) (opens_next zk (opens_slice Try.underlying26 zk (opens_u8 Try.underlying5)) (opens_next zk (opens_slice Try.underlying26 zk (opens_u8 Try.underlying5)) (opens_next zk (opens_bool Try.underlying4) (opens_last zk (opens_int Try.underlying3))))))))) (opens_last zk (opens_struct (P := Try.prog) (t := tAn) (l := [(29, 0), (22, 1), (26, 2)]) Try.underlying31 zk zk (opens_next zk (opens_int Try.underlying29) (opens_next zk (opens_slice (t := tPr) Try.underlying22 zk (opens_struct (P := Try.prog) (t := tPr) (l := [(26, 0), (26, 1)]) Try.underlying50 zk zk (opens_next zk (opens_slice Try.underlying26 zk (opens_u8 Try.underlying5)) (opens_last zk (opens_slice Try.underlying26 zk (opens_u8 Try.underlying5)))))) (opens_last zk (opens_slice Try.underlying26 zk (opens_u8 Try.underlying5))))))))))))) h0
  replace s0 := arg_slice Try.underlying35 (hval 0 35 v0 rfl rfl) s0
  clear hA0 hval0
  refine Calls.mono (JudgeOrders_c s0) fun e W' ⟨u, he, hr, hE⟩ => ?_
  subst he hr
  have bel := hE.below
  exact ⟨_, rfl, _, _, _, [], _, [], hW', trodAll_mk1 (shut_bool Try.underlying4 _), (trodAll_cons_mk (Below.trod laidOut zk (of_decide_eq_true zk) g0 bel lt0) trodAll_mk0), rfl, bel.frame _, fun h => by cases h⟩
theorem over : Rows.judgeOrdersRow.holds Try.pinned (OpenSpec.ofChange Rows.judgeOrdersSpec) :=
  OpenClaim.holds_of_wide 7 Try.f7 rfl rfl rfl rfl rfl rfl rfl ⟨rfl, rfl, rfl, rfl, rfl⟩ rfl rfl rfl rfl rfl zk Try.func7 zk
    (of_decide_eq_true zk) (by unfold Func.isWrapper; first | (rw [if_pos zd]; kernel_rfl) | (rw [if_neg zd]; exact ⟨rfl, rfl⟩))
    (fun os started H enc _ => lifted os started H enc)
/-- the statement -/
theorem proved : Rows.JudgeOrdersSaid := over
end Go.Proofs.Ytifnkmflmgnfjaa.judgeOrders
#print axioms Go.Proofs.Ytifnkmflmgnfjaa.judgeOrders.proved
