/- NetSteps: What is on its way under any sending, taking, losing, doubling, looking and copying is just what the chapter says: true for every input, and the call returns and leaves what was there before as it was. -/
import Derived.Test.YtaidpdjlchnonaaN53
import Derived.Test.YtaidpdjlchnonaaGn
import Derived.Test.YtaidpdjlchnonaaGb
import Derived.Test.YtaidpdjlchnonaaRows
namespace Go.Proofs.Ytaidpdjlchnonaa.netSteps
open Go.ChangeShapes Go.WideShapes Go.ChangeAt Go.RowKit Go.Vc
set_option linter.unusedVariables false
set_option linter.unusedSimpArgs false
theorem own : ownKnob Try.prog.godebug = none := by kernel_rfl
theorem laidOut : laidOutB Try.prog = true := by kernel_rfl
set_option maxRecDepth 100000 in
theorem lifted (os : Os) (started : os.Started) (H : Type) (enc : TypeId × Value → H) :
    ReturnsInHanded {} Try.checked os 6 .any (Rows.netStepsSpec.pre6 enc Try.prog Try.f6 Rows.netStepsRow.domain false) (Rows.netStepsSpec.post enc Try.prog Try.f6 false true false false) := by
  refine returnsInHanded_of_change_sized (C := Try.checked) own started (by kernel_rfl) Try.func6
    (ChangeSpec.witness6 (enc := enc) (C := Try.checked) false ⟨#[], #[.slice none 0 0, .int .i64 0, .int .i64 0], []⟩ 8 (by kernel_rfl) (by kernel_rfl) (by kernel_rfl) (by kernel_rfl)) ?_
  intro W base args ds gs before hval0 hW hcnd hsz0 _
  have hsz : (DataW.weightsEach Try.prog (Try.f6.params.toList ++ Rows.netStepsSpec.plain.varTypes Try.prog) (ds ++ gs)).all (fun x => decide (x ≤ reachBytes)) = true := hsz0
  have hval : ∀ (j : Nat) t v, Try.f6.params[j]? = some t → args[j]? = some v → Value.okWide Try.prog W .any base t v := hval0
  have hW' := hW
  obtain ⟨p, q, hA0, hV, rfl, hfz, hnd⟩ := hW
  have hA : DataW.TrodAll enc Try.prog W 0 (fun _ => true) true Try.f6.params.toList args.toList ds p := hA0
  rw [Try.params6] at hA hval hsz
  obtain ⟨v0, vs0, d0, ds0, p0, q0, hargs, rfl, rfl, h0, r0⟩ := trodAll_cons hA
  obtain ⟨v1, vs1, d1, ds1, p1, q1, rfl, rfl, rfl, h1, r1⟩ := trodAll_cons r0
  obtain ⟨v2, vs2, d2, ds2, p2, q2, rfl, rfl, rfl, h2, r2⟩ := trodAll_cons r1
  obtain ⟨rfl, rfl, rfl⟩ := trodAll_nil r2
  obtain rfl : args = #[v0, v1, v2] := by cases args; simp_all
  obtain ⟨rfl, rfl⟩ := trodVars_none hV
  have rch0 : ∀ n ∈ d0.weights Try.prog 37, n ≤ reachBytes := fun n hn => by simpa using List.all_eq_true.1 hsz _ (DataW.weights_mem_each (j := 0) (t := 37) rfl rfl n hn)
  have rch1 : ∀ n ∈ d1.weights Try.prog 3, n ≤ reachBytes := fun n hn => by simpa using List.all_eq_true.1 hsz _ (DataW.weights_mem_each (j := 1) (t := 3) rfl rfl n hn)
  have rch2 : ∀ n ∈ d2.weights Try.prog 3, n ≤ reachBytes := fun n hn => by simpa using List.all_eq_true.1 hsz _ (DataW.weights_mem_each (j := 2) (t := 3) rfl rfl n hn)
  have lt0 := trod_lt1 h0
  have g0 := h0
  obtain ⟨x0, s0⟩ := opensR_arg (opensR_slice (t := tStp) Try.underlying37 (by kernel_rfl) (opensR_struct (P := Try.prog) (t := tStp) (l := [(3, 0), (3, 1), (41, 2)]) Try.underlying43 (by kernel_rfl) (by kernel_rfl) (opensR_next (by kernel_rfl) (opensR_of (opens_int Try.underlying3)) (opensR_next (by kernel_rfl) (opensR_of (opens_int Try.underlying3)) (opensR_last (by kernel_rfl) (opensR_slice Try.underlying41 (by kernel_rfl) (opensR_ms (L := [(22, 0), (3, 1), (3, 2), (3, 3), (2, 4), (2, 5), (2, 6), (2, 7), (23, 8), (4, 9), (24, 10)]) (opens_struct (P := Try.prog) (t := tMsT) (l := [(22, 0), (3, 1), (3, 2), (3, 3), (2, 4), (2, 5), (2, 6), (2, 7), (23, 8), (4, 9), (24, 10)]) Try.underlying26 (by kernel_rfl) (by kernel_rfl) (opens_next (by kernel_rfl) (opens_int Try.underlying22) (opens_next (by kernel_rfl) (opens_int Try.underlying3) (opens_next (by kernel_rfl) (opens_int Try.underlying3) (opens_next (by kernel_rfl) (opens_int Try.underlying3) (opens_next (by kernel_rfl) (opens_int Try.underlying2) (opens_next (by kernel_rfl) (opens_int Try.underlying2) (opens_next (by kernel_rfl) (opens_int Try.underlying2) (opens_next (by kernel_rfl) (opens_int Try.underlying2) (opens_next (by kernel_rfl) (opens_slice Try.underlying23 (by kernel_rfl) (opens_struct (P := Try.prog) (t := tEn) (l := [(2, 0), (24, 1)]) Try.underlying73 (by kernel_rfl) (by kernel_rfl) (opens_next (by kernel_rfl) (opens_int Try.underlying2) (opens_last (by kernel_rfl) (opens_slice Try.underlying24 (by kernel_rfl) (opens_u8 Try.underlying5)))))) (opens_next (by kernel_rfl) (opens_bool Try.underlying4) (opens_last (by kernel_rfl) (opens_slice Try.underlying24 (by kernel_rfl) (opens_u8 Try.underlying5)))))))))))))) Try.underlying26 (by kernel_rfl) rfl rfl Try.underlying23 Try.underlying24 (by kernel_rfl) (by kernel_rfl) (by kernel_rfl) (by kernel_rfl)))))))) h0 rch0
  replace s0 := arg_slice Try.underlying37 (hval 0 37 v0 rfl rfl) s0
  obtain ⟨a1, rfl, rfl, rfl, w1⟩ := open_int Try.underlying3 (hval 1 3 v1 rfl rfl) h1
  obtain ⟨a2, rfl, rfl, rfl, w2⟩ := open_int Try.underlying3 (hval 2 3 v2 rfl rfl) h2
  clear hA0 hval0
  refine Calls.mono (NetSteps_c s0) fun e W' ⟨u, he, hr, hE⟩ => ?_
  subst he hr
  have bel := hE.below
  exact ⟨_, rfl, _, _, _, [], _, [], hW', trodAll_mk1 (shut_bool Try.underlying4 _), (trodAll_cons_mk (Below.trod laidOut (by kernel_rfl) (of_decide_eq_true (by kernel_rfl)) g0 bel lt0) (trodAll_cons_mk (shut_int Try.underlying3 w1) (trodAll_cons_mk (shut_int Try.underlying3 w2) trodAll_mk0))), rfl, bel.frame _, fun h => by cases h⟩
theorem over : Rows.netStepsRow.holds Try.pinned (OpenSpec.ofChange Rows.netStepsSpec) :=
  OpenClaim.holds_of_wide 6 Try.f6 rfl rfl rfl rfl rfl rfl rfl ⟨rfl, rfl, rfl, rfl, rfl⟩ rfl rfl rfl rfl rfl (by kernel_rfl) Try.func6 (by kernel_rfl)
    (of_decide_eq_true (by kernel_rfl)) (by unfold Func.isWrapper; first | (rw [if_pos (by decide +kernel)]; kernel_rfl) | (rw [if_neg (by decide +kernel)]; exact ⟨rfl, rfl⟩))
    (fun os started H enc _ => lifted os started H enc)
/-- the statement -/
theorem proved : Rows.NetStepsSaid := over
end Go.Proofs.Ytaidpdjlchnonaa.netSteps
#print axioms Go.Proofs.Ytaidpdjlchnonaa.netSteps.proved
