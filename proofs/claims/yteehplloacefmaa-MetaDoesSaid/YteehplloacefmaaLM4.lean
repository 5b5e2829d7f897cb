/- MetaDoes: What comes of a state by a command is what the chapter says, else the error is the one that it names, and the state that was handed in stays; for any of at most 40 ranges and moves. -/
import Derived.Test.YteehplloacefmaaM16
import Derived.Test.YteehplloacefmaaMRe
import Derived.Test.YteehplloacefmaaGb
import Derived.Test.YteehplloacefmaaRows
namespace Go.Proofs.Yteehplloacefmaa.metaDoes
open Go.ChangeShapes Go.WideShapes Go.ChangeAt Go.RowKit Go.Vc
set_option linter.unusedVariables false
set_option linter.unusedSimpArgs false
theorem own : ownKnob Try.prog.godebug = none := by kernel_rfl
theorem laidOut : laidOutB Try.prog = true := by kernel_rfl
set_option maxRecDepth 100000 in
theorem lifted (os : Os) (started : os.Started) (H : Type) (enc : TypeId × Value → H) :
    ReturnsInHanded {} Try.checked os 4 .any (Rows.metaDoesSpec.pre6 enc Try.prog Try.f4 Rows.metaDoesRow.domain false) (Rows.metaDoesSpec.post enc Try.prog Try.f4 false true false false) := by
  refine returnsInHanded_of_change_sized (C := Try.checked) own started zk Try.func4
    (ChangeSpec.witness6 (enc := enc) (C := Try.checked) false ⟨#[], #[.agg #[.int .i64 0, .slice none 0 0, .int .i64 0, .slice none 0 0], .agg #[.int .i64 0, .int .i64 0, .int .i64 0, .int .i64 0, .slice none 0 0, .slice none 0 0, .slice none 0 0, .slice none 0 0, .bool false, .int .i64 0, .int .i64 0, .slice none 0 0, .slice none 0 0, .bool false, .int .i64 0, .int .i64 0, .slice none 0 0, .slice none 0 0, .slice none 0 0, .int .i64 0]], []⟩ 8 zk zk zk zk) ?_
  intro W base args ds gs before hval0 hW hcnd hsz0 _
  have hsz : (DataW.weightsEach Try.prog (Try.f4.params.toList ++ Rows.metaDoesSpec.plain.varTypes Try.prog) (ds ++ gs)).all (fun x => decide (x ≤ reachBytes)) = true := hsz0
  have hval : ∀ (j : Nat) t v, Try.f4.params[j]? = some t → args[j]? = some v → Value.okWide Try.prog W .any base t v := hval0
  have hW' := hW
  obtain ⟨p, q, hA0, hV, rfl, hfz, hnd⟩ := hW
  have hA : DataW.TrodAll enc Try.prog W 0 (fun _ => true) true Try.f4.params.toList args.toList ds p := hA0
  rw [Try.params4] at hA hval hsz
  obtain ⟨v0, vs0, d0, ds0, p0, q0, hargs, rfl, rfl, h0, r0⟩ := trodAll_cons hA
  obtain ⟨v1, vs1, d1, ds1, p1, q1, rfl, rfl, rfl, h1, r1⟩ := trodAll_cons r0
  obtain ⟨rfl, rfl, rfl⟩ := trodAll_nil r1
  obtain rfl : args = #[v0, v1] := by cases args; simp_all
  obtain ⟨rfl, rfl⟩ := trodVars_none hV
  have rch0 : ∀ n ∈ d0.weights Try.prog 27, n ≤ reachBytes := fun n hn => by simpa using List.all_eq_true.1 hsz _ (DataW.weights_mem_each (j := 0) (t := 27) rfl rfl n hn)
  have rch1 : ∀ n ∈ d1.weights Try.prog 42, n ≤ reachBytes := fun n hn => by simpa using List.all_eq_true.1 hsz _ (DataW.weights_mem_each (j := 1) (t := 42) rfl rfl n hn)
  have lt0 := trod_lt1 h0
  have g0 := h0
  obtain ⟨cs0, rfl, _⟩ := okWide_struct Try.underlying27 (hval 0 27 v0 rfl rfl)
  obtain ⟨x0, s0⟩ := opensR_arg (opensR_struct (P := Try.prog) (t := tMtR) (l := [(24, 0), (2, 2), (25, 3)]) Try.underlying27 zk zk (opensR_next zk (opensR_struct (P := Try.prog) (t := tMpR) (l := [(2, 0), (22, 1)]) Try.underlying24 zk zk (opensR_next zk (opensR_of (opens_int Try.underlying2)) (opensR_last zk (opensR_slice (t := tRgR) Try.underlying22 zk (opensR_struct (P := Try.prog) (t := tRgR) (l := [(33, 0), (33, 1), (4, 2), (3, 3)]) Try.underlying63 zk zk (opensR_next zk (opensR_by Try.underlying33 zk Try.underlying5 zk) (opensR_next zk (opensR_by Try.underlying33 zk Try.underlying5 zk) (opensR_next zk (opensR_of (opens_bool Try.underlying4)) (opensR_last zk (opensR_of (opens_int Try.underlying3))))))))))) (opensR_next zk (opensR_of (opens_int Try.underlying2)) (opensR_last zk (opensR_slice (t := tMaR) Try.underlying25 zk (opensR_struct (P := Try.prog) (t := tMaR) (l := [(39, 0), (4, 6)]) Try.underlying54 zk zk (opensR_next zk (opensR_struct (P := Try.prog) (t := tMvR) (l := [(2, 0), (33, 1), (33, 2), (4, 3), (3, 4), (3, 5)]) Try.underlying39 zk zk (opensR_next zk (opensR_of (opens_int Try.underlying2)) (opensR_next zk (opensR_by Try.underlying33 zk Try.underlying5 zk) (opensR_next zk (opensR_by Try.underlying33 zk Try.underlying5 zk) (opensR_next zk (opensR_of (opens_bool Try.underlying4)) (opensR_next zk (opensR_of (opens_int Try.underlying3)) (opensR_last zk (opensR_of (opens_int Try.underlying3))))))))) (opensR_last zk (opensR_of (opens_bool Try.underlying4)))))))))) h0 rch0
  have lt1 := trod_lt1 h1
  have g1 := h1
  obtain ⟨cs1, rfl, _⟩ := okWide_struct Try.underlying42 (hval 1 42 v1 rfl rfl)
  obtain ⟨x1, s1⟩ := opens_arg (opens_struct (P := Try.prog) (t := tCm) (l := [(31, 0), (37, 1), (39, 10), (40, 16), (33, 17), (33, 18), (3, 19)]) Try.underlying42 zk zk (opens_next zk (opens_int Try.underlying31) (opens_next zk (opens_struct (P := Try.prog) (t := tRq) (l := [(3, 0), (2, 1), (35, 2)]) Try.underlying37 zk zk (opens_next zk (opens_int Try.underlying3) (opens_next zk (opens_int Try.underlying2) (opens_last zk (opens_struct (P := Try.prog) (t := tAk) (l := [(32, 0), (33, 1), (33, 2), (33, 3), (33, 4), (4, 5), (3, 6)]) Try.underlying35 zk zk (opens_next zk (opens_int Try.underlying32) (opens_next zk (opens_slice Try.underlying33 zk (opens_u8 Try.underlying5)) (opens_next zk (opens_slice Try.underlying33 zk (opens_u8 Try.underlying5)) (opens_next zk (opens_slice Try.underlying33 zk (opens_u8 Try.underlying5)) (opens_next zk (opens_slice Try.underlying33 zk (opens_u8 Try.underlying5)) (opens_next zk (opens_bool Try.underlying4) (opens_last zk (opens_int Try.underlying3))))))))))))) (opens_next zk (opens_struct (P := Try.prog) (t := tMv) (l := [(2, 0), (33, 1), (33, 2), (4, 3), (3, 4), (3, 5)]) Try.underlying39 zk zk (opens_next zk (opens_int Try.underlying2) (opens_next zk (opens_slice Try.underlying33 zk (opens_u8 Try.underlying5)) (opens_next zk (opens_slice Try.underlying33 zk (opens_u8 Try.underlying5)) (opens_next zk (opens_bool Try.underlying4) (opens_next zk (opens_int Try.underlying3) (opens_last zk (opens_int Try.underlying3)))))))) (opens_next zk (opens_slice (t := tIk) Try.underlying40 zk (opens_struct (P := Try.prog) (t := tIk) (l := [(33, 0), (2, 1), (108, 2), (33, 3)]) Try.underlying110 zk zk (opens_next zk (opens_slice Try.underlying33 zk (opens_u8 Try.underlying5)) (opens_next zk (opens_int Try.underlying2) (opens_next zk (opens_int Try.underlying108) (opens_last zk (opens_slice Try.underlying33 zk (opens_u8 Try.underlying5)))))))) (opens_next zk (opens_slice Try.underlying33 zk (opens_u8 Try.underlying5)) (opens_next zk (opens_slice Try.underlying33 zk (opens_u8 Try.underlying5)) (opens_last zk (opens_int Try.underlying3))))))))) h1
  clear hA0 hval0
  refine Calls.mono (MetaDoes_c (AgV.imp imp_mtR ⟨_, rfl, s0⟩) ⟨_, rfl, s1⟩ (mtR_lens s0).1 (mtR_lens s0).2) fun e W' ⟨u, he, hr, hE⟩ => ?_
  subst he hr
  have bel := hE.below
  exact ⟨_, rfl, _, _, _, [], _, [], hW', trodAll_mk1 (shut_bool Try.underlying4 _), (trodAll_cons_mk (Below.trod laidOut zk (of_decide_eq_true zk) g0 bel lt0) (trodAll_cons_mk (Below.trod laidOut zk (of_decide_eq_true zk) g1 bel lt1) trodAll_mk0)), rfl, bel.frame _, fun h => by cases h⟩
theorem over : Rows.metaDoesRow.holds Try.pinned (OpenSpec.ofChange Rows.metaDoesSpec) :=
  OpenClaim.holds_of_wide 4 Try.f4 rfl rfl rfl rfl rfl rfl rfl ⟨rfl, rfl, rfl, rfl, rfl⟩ rfl rfl rfl rfl rfl zk Try.func4 zk
    (of_decide_eq_true zk) (by unfold Func.isWrapper; first | (rw [if_pos zd]; kernel_rfl) | (rw [if_neg zd]; exact ⟨rfl, rfl⟩))
    (fun os started H enc _ => lifted os started H enc)
/-- the statement -/
theorem proved : Rows.MetaDoesSaid := over
end Go.Proofs.Yteehplloacefmaa.metaDoes
#print axioms Go.Proofs.Yteehplloacefmaa.metaDoes.proved
