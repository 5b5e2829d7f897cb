/- NetCounts: THE THEOREM OF STAGE 22. What was sent, and doubled, is on its way, was taken, or is lost, just so many; none is made up -/
import Derived.Test.YtaidpdjlchnonaaN21
import Derived.Test.YtaidpdjlchnonaaGn
import Derived.Test.YtaidpdjlchnonaaGb
import Derived.Test.YtaidpdjlchnonaaRows
namespace Go.Proofs.Ytaidpdjlchnonaa.netCounts
open Go.ChangeShapes Go.WideShapes Go.ChangeAt Go.RowKit Go.Vc
set_option linter.unusedVariables false
set_option linter.unusedSimpArgs false
theorem own : ownKnob Try.prog.godebug = none := by kernel_rfl
theorem laidOut : laidOutB Try.prog = true := by kernel_rfl
set_option maxRecDepth 100000 in
theorem lifted (os : Os) (started : os.Started) (H : Type) (enc : TypeId × Value → H) :
    ReturnsInHanded {} Try.checked os 4 .any (Rows.netCountsSpec.pre6 enc Try.prog Try.f4 Rows.netCountsRow.domain false) (Rows.netCountsSpec.post enc Try.prog Try.f4 false true false false) := by
  refine returnsInHanded_of_change_sized (C := Try.checked) own started (by kernel_rfl) Try.func4
    (ChangeSpec.witness6 (enc := enc) (C := Try.checked) false ⟨#[], #[.slice none 0 0], []⟩ 8 (by kernel_rfl) (by kernel_rfl) (by kernel_rfl) (by kernel_rfl)) ?_
  intro W base args ds gs before hval0 hW hcnd hsz0 _
  have hsz : (DataW.weightsEach Try.prog (Try.f4.params.toList ++ Rows.netCountsSpec.plain.varTypes Try.prog) (ds ++ gs)).all (fun x => decide (x ≤ reachBytes)) = true := hsz0
  have hval : ∀ (j : Nat) t v, Try.f4.params[j]? = some t → args[j]? = some v → Value.okWide Try.prog W .any base t v := hval0
  have hW' := hW
  obtain ⟨p, q, hA0, hV, rfl, hfz, hnd⟩ := hW
  have hA : DataW.TrodAll enc Try.prog W 0 (fun _ => true) true Try.f4.params.toList args.toList ds p := hA0
  rw [Try.params4] at hA hval hsz
  obtain ⟨v0, vs0, d0, ds0, p0, q0, hargs, rfl, rfl, h0, r0⟩ := trodAll_cons hA
  obtain ⟨rfl, rfl, rfl⟩ := trodAll_nil r0
  obtain rfl : args = #[v0] := by cases args; simp_all
  obtain ⟨rfl, rfl⟩ := trodVars_none hV
  have rch0 : ∀ n ∈ d0.weights Try.prog 37, n ≤ reachBytes := fun n hn => by simpa using List.all_eq_true.1 hsz _ (DataW.weights_mem_each (j := 0) (t := 37) rfl rfl n hn)
  have lt0 := trod_lt1 h0
  have g0 := h0
  obtain ⟨x0, s0⟩ := opensR_arg (opensR_slice (t := tStp) Try.underlying37 (by kernel_rfl) (opensR_struct (P := Try.prog) (t := tStp) (l := [(3, 0), (3, 1), (41, 2)]) Try.underlying43 (by kernel_rfl) (by kernel_rfl) (opensR_next (by kernel_rfl) (opensR_of (opens_int Try.underlying3)) (opensR_next (by kernel_rfl) (opensR_of (opens_int Try.underlying3)) (opensR_last (by kernel_rfl) (opensR_slice Try.underlying41 (by kernel_rfl) (opensR_ms (L := [(22, 0), (3, 1), (3, 2), (3, 3), (2, 4), (2, 5), (2, 6), (2, 7), (23, 8), (4, 9), (24, 10)]) (opens_struct (P := Try.prog) (t := tMsT) (l := [(22, 0), (3, 1), (3, 2), (3, 3), (2, 4), (2, 5), (2, 6), (2, 7), (23, 8), (4, 9), (24, 10)]) Try.underlying26 (by kernel_rfl) (by kernel_rfl) (opens_next (by kernel_rfl) (opens_int Try.underlying22) (opens_next (by kernel_rfl) (opens_int Try.underlying3) (opens_next (by kernel_rfl) (opens_int Try.underlying3) (opens_next (by kernel_rfl) (opens_int Try.underlying3) (opens_next (by kernel_rfl) (opens_int Try.underlying2) (opens_next (by kernel_rfl) (opens_int Try.underlying2) (opens_next (by kernel_rfl) (opens_int Try.underlying2) (opens_next (by kernel_rfl) (opens_int Try.underlying2) (opens_next (by kernel_rfl) (opens_slice Try.underlying23 (by kernel_rfl) (opens_struct (P := Try.prog) (t := tEn) (l := [(2, 0), (24, 1)]) Try.underlying73 (by kernel_rfl) (by kernel_rfl) (opens_next (by kernel_rfl) (opens_int Try.underlying2) (opens_last (by kernel_rfl) (opens_slice Try.underlying24 (by kernel_rfl) (opens_u8 Try.underlying5)))))) (opens_next (by kernel_rfl) (opens_bool Try.underlying4) (opens_last (by kernel_rfl) (opens_slice Try.underlying24 (by kernel_rfl) (opens_u8 Try.underlying5)))))))))))))) Try.underlying26 (by kernel_rfl) rfl rfl Try.underlying23 Try.underlying24 (by kernel_rfl) (by kernel_rfl) (by kernel_rfl) (by kernel_rfl)))))))) h0 rch0
  replace s0 := arg_slice Try.underlying37 (hval 0 37 v0 rfl rfl) s0
  clear hA0 hval0
  refine Calls.mono (NetCounts_c s0) fun e W' ⟨u, he, hr, hE⟩ => ?_
  subst he hr
  have bel := hE.below
  exact ⟨_, rfl, _, _, _, [], _, [], hW', trodAll_mk1 (shut_bool Try.underlying4 _), (trodAll_cons_mk (Below.trod laidOut (by kernel_rfl) (of_decide_eq_true (by kernel_rfl)) g0 bel lt0) trodAll_mk0), rfl, bel.frame _, fun h => by cases h⟩
theorem over : Rows.netCountsRow.holds Try.pinned (OpenSpec.ofChange Rows.netCountsSpec) :=
  OpenClaim.holds_of_wide 4 Try.f4 rfl rfl rfl rfl rfl rfl rfl ⟨rfl, rfl, rfl, rfl, rfl⟩ rfl rfl rfl rfl rfl (by kernel_rfl) Try.func4 (by kernel_rfl)
    (of_decide_eq_true (by kernel_rfl)) (by unfold Func.isWrapper; first | (rw [if_pos (by decide +kernel)]; kernel_rfl) | (rw [if_neg (by decide +kernel)]; exact ⟨rfl, rfl⟩))
    (fun os started H enc _ => lifted os started H enc)
/-- the statement -/
theorem proved : Rows.NetCountsSaid := over
end Go.Proofs.Ytaidpdjlchnonaa.netCounts
#print axioms Go.Proofs.Ytaidpdjlchnonaa.netCounts.proved
