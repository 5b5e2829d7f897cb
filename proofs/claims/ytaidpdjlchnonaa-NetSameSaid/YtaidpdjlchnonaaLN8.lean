/- NetSame: Two ways are the same just if the messages, and how many were lost, are: true for every input, and the call returns and leaves what was there before as it was. -/
import Derived.Test.YtaidpdjlchnonaaN54
import Derived.Test.YtaidpdjlchnonaaGn
import Derived.Test.YtaidpdjlchnonaaGb
import Derived.Test.YtaidpdjlchnonaaRows
namespace Go.Proofs.Ytaidpdjlchnonaa.netSame
open Go.ChangeShapes Go.WideShapes Go.ChangeAt Go.RowKit Go.Vc
set_option linter.unusedVariables false
set_option linter.unusedSimpArgs false
theorem own : ownKnob Try.prog.godebug = none := by kernel_rfl
theorem laidOut : laidOutB Try.prog = true := by kernel_rfl
set_option maxRecDepth 100000 in
theorem lifted (os : Os) (started : os.Started) (H : Type) (enc : TypeId × Value → H) :
    ReturnsInHanded {} Try.checked os 7 .any (Rows.netSameSpec.pre6 enc Try.prog Try.f7 Rows.netSameRow.domain false) (Rows.netSameSpec.post enc Try.prog Try.f7 false true false false) := by
  refine returnsInHanded_of_change_sized (C := Try.checked) own started (by kernel_rfl) Try.func7
    (ChangeSpec.witness6 (enc := enc) (C := Try.checked) false ⟨#[], #[.slice none 0 0, .slice none 0 0], []⟩ 8 (by kernel_rfl) (by kernel_rfl) (by kernel_rfl) (by kernel_rfl)) ?_
  intro W base args ds gs before hval0 hW hcnd hsz0 _
  have hsz : (DataW.weightsEach Try.prog (Try.f7.params.toList ++ Rows.netSameSpec.plain.varTypes Try.prog) (ds ++ gs)).all (fun x => decide (x ≤ reachBytes)) = true := hsz0
  have hval : ∀ (j : Nat) t v, Try.f7.params[j]? = some t → args[j]? = some v → Value.okWide Try.prog W .any base t v := hval0
  have hW' := hW
  obtain ⟨p, q, hA0, hV, rfl, hfz, hnd⟩ := hW
  have hA : DataW.TrodAll enc Try.prog W 0 (fun _ => true) true Try.f7.params.toList args.toList ds p := hA0
  rw [Try.params7] at hA hval hsz
  obtain ⟨v0, vs0, d0, ds0, p0, q0, hargs, rfl, rfl, h0, r0⟩ := trodAll_cons hA
  obtain ⟨v1, vs1, d1, ds1, p1, q1, rfl, rfl, rfl, h1, r1⟩ := trodAll_cons r0
  obtain ⟨rfl, rfl, rfl⟩ := trodAll_nil r1
  obtain rfl : args = #[v0, v1] := by cases args; simp_all
  obtain ⟨rfl, rfl⟩ := trodVars_none hV
  have rch0 : ∀ n ∈ d0.weights Try.prog 37, n ≤ reachBytes := fun n hn => by simpa using List.all_eq_true.1 hsz _ (DataW.weights_mem_each (j := 0) (t := 37) rfl rfl n hn)
  have rch1 : ∀ n ∈ d1.weights Try.prog 37, n ≤ reachBytes := fun n hn => by simpa using List.all_eq_true.1 hsz _ (DataW.weights_mem_each (j := 1) (t := 37) rfl rfl n hn)
  have lt0 := trod_lt1 h0
  have g0 := h0
  obtain ⟨x0, s0⟩ := opensR_arg (opensR_slice (t := tStp) Try.underlying37 (by kernel_rfl) (opensR_struct (P := Try.prog) (t := tStp) (l := [(3, 0), (3, 1), (41, 2)]) Try.underlying43 (by kernel_rfl) (by kernel_rfl) (opensR_next (by kernel_rfl) (opensR_of (opens_int Try.underlying3)) (opensR_next (by kernel_rfl) (opensR_of (opens_int Try.underlying3)) (opensR_last (by kernel_rfl) (opensR_slice Try.underlying41 (by kernel_rfl) (opensR_ms (L := [(22, 0), (3, 1), (3, 2), (3, 3), (2, 4), (2, 5), (2, 6), (2, 7), (23, 8), (4, 9), (24, 10)]) (opens_struct (P := Try.prog) (t := tMsT) (l := [(22, 0), (3, 1), (3, 2), (3, 3), (2, 4), (2, 5), (2, 6), (2, 7), (23, 8), (4, 9), (24, 10)]) Try.underlying26 (by kernel_rfl) (by kernel_rfl) (opens_next (by kernel_rfl) (opens_int Try.underlying22) (opens_next (by kernel_rfl) (opens_int Try.underlying3) (opens_next (by kernel_rfl) (opens_int Try.underlying3) (opens_next (by kernel_rfl) (opens_int Try.underlying3) (opens_next (by kernel_rfl) (opens_int Try.underlying2) (opens_next (by kernel_rfl) (opens_int Try.underlying2) (opens_next (by kernel_rfl) (opens_int Try.underlying2) (opens_next (by kernel_rfl) (opens_int Try.underlying2) (opens_next (by kernel_rfl) (opens_slice Try.underlying23 (by kernel_rfl) (opens_struct (P := Try.prog) (t := tEn) (l := [(2, 0), (24, 1)]) Try.underlying73 (by kernel_rfl) (by kernel_rfl) (opens_next (by kernel_rfl) (opens_int Try.underlying2) (opens_last (by kernel_rfl) (opens_slice Try.underlying24 (by kernel_rfl) (opens_u8 Try.underlying5)))))) (opens_next (by kernel_rfl) (opens_bool Try.underlying4) (opens_last (by kernel_rfl) (opens_slice Try.underlying24 (by kernel_rfl) (opens_u8 Try.underlying5)))))))))))))) Try.underlying26 (by kernel_rfl) rfl rfl Try.underlying23 Try.underlying24 (by kernel_rfl) (by kernel_rfl) (by kernel_rfl) (by kernel_rfl)))))))) h0 rch0
  replace s0 := arg_slice Try.underlying37 (hval 0 37 v0 rfl rfl) s0
  have lt1 := trod_lt1 h1
  have g1 := h1
  obtain ⟨x1, s1⟩ := opensR_arg (opensR_slice (t := tStp) Try.underlying37 (by kernel_rfl) (opensR_struct (P := Try.prog) (t := tStp) (l := [(3, 0), (3, 1), (41, 2)]) Try.underlying43 (by kernel_rfl) (by kernel_rfl) (opensR_next (by kernel_rfl) (opensR_of (opens_int Try.underlying3)) (opensR_next (by kernel_rfl) (opensR_of (opens_int Try.underlying3)) (opensR_last (by kernel_rfl) (opensR_slice Try.underlying41 (by kernel_rfl) (opensR_ms (L := [(22, 0), (3, 1), (3, 2), (3, 3), (2, 4), (2, 5), (2, 6), (2, 7), (23, 8), (4, 9), (24, 10)]) (opens_struct (P := Try.prog) (t := tMsT) (l := [(22, 0), (3, 1), (3, 2), (3, 3), (2, 4), (2, 5), (2, 6), (2, 7), (23, 8), (4, 9), (24, 10)]) Try.underlying26 (by kernel_rfl) (by kernel_rfl) (opens_next (by kernel_rfl) (opens_int Try.underlying22) (opens_next (by kernel_rfl) (opens_int Try.underlying3) (opens_next (by kernel_rfl) (opens_int Try.underlying3) (opens_next (by kernel_rfl) (opens_int Try.underlying3) (opens_next (by kernel_rfl) (opens_int Try.underlying2) (opens_next (by kernel_rfl) (opens_int Try.underlying2) (opens_next (by kernel_rfl) (opens_int Try.underlying2) (opens_next (by kernel_rfl) (opens_int Try.underlying2) (opens_next (by kernel_rfl) (opens_slice Try.underlying23 (by kernel_rfl) (opens_struct (P := Try.prog) (t := tEn) (l := [(2, 0), (24, 1)]) Try.underlying73 (by kernel_rfl) (by kernel_rfl) (opens_next (by kernel_rfl) (opens_int Try.underlying2) (opens_last (by kernel_rfl) (opens_slice Try.underlying24 (by kernel_rfl) (opens_u8 Try.underlying5)))))) (opens_next (by kernel_rfl) (opens_bool Try.underlying4) (opens_last (by kernel_rfl) (opens_slice Try.underlying24 (by kernel_rfl) (opens_u8 Try.underlying5)))))))))))))) Try.underlying26 (by kernel_rfl) rfl rfl Try.underlying23 Try.underlying24 (by kernel_rfl) (by kernel_rfl) (by kernel_rfl) (by kernel_rfl)))))))) h1 rch1
  replace s1 := arg_slice Try.underlying37 (hval 1 37 v1 rfl rfl) s1
  clear hA0 hval0
  refine Calls.mono (NetSame_c s0 s1) fun e W' ⟨u, he, hr, hE⟩ => ?_
  subst he hr
  have bel := hE.below
  exact ⟨_, rfl, _, _, _, [], _, [], hW', trodAll_mk1 (shut_bool Try.underlying4 _), (trodAll_cons_mk (Below.trod laidOut (by kernel_rfl) (of_decide_eq_true (by kernel_rfl)) g0 bel lt0) (trodAll_cons_mk (Below.trod laidOut (by kernel_rfl) (of_decide_eq_true (by kernel_rfl)) g1 bel lt1) trodAll_mk0)), rfl, bel.frame _, fun h => by cases h⟩
theorem over : Rows.netSameRow.holds Try.pinned (OpenSpec.ofChange Rows.netSameSpec) :=
  OpenClaim.holds_of_wide 7 Try.f7 rfl rfl rfl rfl rfl rfl rfl ⟨rfl, rfl, rfl, rfl, rfl⟩ rfl rfl rfl rfl rfl (by kernel_rfl) Try.func7 (by kernel_rfl)
    (of_decide_eq_true (by kernel_rfl)) (by unfold Func.isWrapper; first | (rw [if_pos (by decide +kernel)]; kernel_rfl) | (rw [if_neg (by decide +kernel)]; exact ⟨rfl, rfl⟩))
    (fun os started H enc _ => lifted os started H enc)
/-- the statement -/
theorem proved : Rows.NetSameSaid := over
end Go.Proofs.Ytaidpdjlchnonaa.netSame
#print axioms Go.Proofs.Ytaidpdjlchnonaa.netSame.proved
