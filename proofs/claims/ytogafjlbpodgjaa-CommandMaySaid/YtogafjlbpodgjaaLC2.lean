/- CommandMay: Which commands may be, and which are the same, is what the chapter says; for any two of at most 60000 bytes and entries. -/
import Derived.Test.YtogafjlbpodgjaaCe
import Derived.Test.YtogafjlbpodgjaaGb
import Derived.Test.YtogafjlbpodgjaaRows
namespace Go.Proofs.Ytogafjlbpodgjaa.commandMay
open Go.ChangeShapes Go.WideShapes Go.ChangeAt Go.RowKit Go.Vc
set_option linter.unusedVariables false
set_option linter.unusedSimpArgs false
theorem own : ownKnob Try.prog.godebug = none := by kernel_rfl
theorem laidOut : laidOutB Try.prog = true := by kernel_rfl
set_option maxRecDepth 100000 in
theorem lifted (os : Os) (started : os.Started) (H : Type) (enc : TypeId × Value → H) :
    ReturnsInHanded {} Try.checked os 4 .any (Rows.commandMaySpec.pre6 enc Try.prog Try.f4 Rows.commandMayRow.domain false) (Rows.commandMaySpec.post enc Try.prog Try.f4 false true false false) := by
  refine returnsInHanded_of_change (C := Try.checked) own started (by kernel_rfl) Try.func4
    (ChangeSpec.witness6 (enc := enc) (C := Try.checked) false ⟨#[], #[.agg #[.int .i64 0, .int .i64 0, .int .i64 0, .int .i64 0, .slice none 0 0, .slice none 0 0, .slice none 0 0, .slice none 0 0, .bool false, .int .i64 0, .int .i64 0, .slice none 0 0, .slice none 0 0, .bool false, .int .i64 0, .int .i64 0, .slice none 0 0, .slice none 0 0, .slice none 0 0, .int .i64 0], .agg #[.int .i64 0, .int .i64 0, .int .i64 0, .int .i64 0, .slice none 0 0, .slice none 0 0, .slice none 0 0, .slice none 0 0, .bool false, .int .i64 0, .int .i64 0, .slice none 0 0, .slice none 0 0, .bool false, .int .i64 0, .int .i64 0, .slice none 0 0, .slice none 0 0, .slice none 0 0, .int .i64 0]], []⟩ 8 (by kernel_rfl) (by kernel_rfl) (by kernel_rfl) (by kernel_rfl)) ?_
  intro W base args ds gs before hval0 hW hcnd _
  have hval : ∀ (j : Nat) t v, Try.f4.params[j]? = some t → args[j]? = some v → Value.okWide Try.prog W .any base t v := hval0
  have hW' := hW
  obtain ⟨p, q, hA0, hV, rfl, hfz, hnd⟩ := hW
  have hA : DataW.TrodAll enc Try.prog W 0 (fun _ => true) true Try.f4.params.toList args.toList ds p := hA0
  rw [Try.params4] at hA hval
  obtain ⟨v0, vs0, d0, ds0, p0, q0, hargs, rfl, rfl, h0, r0⟩ := trodAll_cons hA
  obtain ⟨v1, vs1, d1, ds1, p1, q1, rfl, rfl, rfl, h1, r1⟩ := trodAll_cons r0
  obtain ⟨rfl, rfl, rfl⟩ := trodAll_nil r1
  obtain rfl : args = #[v0, v1] := by cases args; simp_all
  obtain ⟨rfl, rfl⟩ := trodVars_none hV
  have lt0 := trod_lt1 h0
  have g0 := h0
  obtain ⟨cs0, rfl, _⟩ := okWide_struct Try.underlying36 (hval 0 36 v0 rfl rfl)
  obtain ⟨x0, s0⟩ := opens_arg (opens_struct (P := Try.prog) (t := tCm) (l := [(31, 0), (27, 1), (33, 10), (34, 16), (23, 17), (23, 18), (3, 19)]) Try.underlying36 (by kernel_rfl) (by kernel_rfl) (opens_next (by kernel_rfl) (opens_int Try.underlying31) (opens_next (by kernel_rfl) (opens_struct (P := Try.prog) (t := tRq) (l := [(3, 0), (2, 1), (25, 2)]) Try.underlying27 (by kernel_rfl) (by kernel_rfl) (opens_next (by kernel_rfl) (opens_int Try.underlying3) (opens_next (by kernel_rfl) (opens_int Try.underlying2) (opens_last (by kernel_rfl) (opens_struct (P := Try.prog) (t := tAk) (l := [(22, 0), (23, 1), (23, 2), (23, 3), (23, 4), (4, 5), (3, 6)]) Try.underlying25 (by kernel_rfl) (by kernel_rfl) (opens_next (by kernel_rfl) (opens_int Try.underlying22) (opens_next (by kernel_rfl) (opens_slice Try.underlying23 (by kernel_rfl) (opens_u8 Try.underlying5)) (opens_next (by kernel_rfl) (opens_slice Try.underlying23 (by kernel_rfl) (opens_u8 Try.underlying5)) (opens_next (by kernel_rfl) (opens_slice Try.underlying23 (by kernel_rfl) (opens_u8 Try.underlying5)) (opens_next (by kernel_rfl) (opens_slice Try.underlying23 (by kernel_rfl) (opens_u8 Try.underlying5)) (opens_next (by kernel_rfl) (opens_bool Try.underlying4) (opens_last (by kernel_rfl) (opens_int Try.underlying3))))))))))))) (opens_next (by kernel_rfl) (opens_struct (P := Try.prog) (t := tMv) (l := [(2, 0), (23, 1), (23, 2), (4, 3), (3, 4), (3, 5)]) Try.underlying33 (by kernel_rfl) (by kernel_rfl) (opens_next (by kernel_rfl) (opens_int Try.underlying2) (opens_next (by kernel_rfl) (opens_slice Try.underlying23 (by kernel_rfl) (opens_u8 Try.underlying5)) (opens_next (by kernel_rfl) (opens_slice Try.underlying23 (by kernel_rfl) (opens_u8 Try.underlying5)) (opens_next (by kernel_rfl) (opens_bool Try.underlying4) (opens_next (by kernel_rfl) (opens_int Try.underlying3) (opens_last (by kernel_rfl) (opens_int Try.underlying3)))))))) (opens_next (by kernel_rfl) (opens_slice (t := tIk) Try.underlying34 (by kernel_rfl) (opens_struct (P := Try.prog) (t := tIk) (l := [(23, 0), (2, 1), (63, 2), (23, 3)]) Try.underlying65 (by kernel_rfl) (by kernel_rfl) (opens_next (by kernel_rfl) (opens_slice Try.underlying23 (by kernel_rfl) (opens_u8 Try.underlying5)) (opens_next (by kernel_rfl) (opens_int Try.underlying2) (opens_next (by kernel_rfl) (opens_int Try.underlying63) (opens_last (by kernel_rfl) (opens_slice Try.underlying23 (by kernel_rfl) (opens_u8 Try.underlying5)))))))) (opens_next (by kernel_rfl) (opens_slice Try.underlying23 (by kernel_rfl) (opens_u8 Try.underlying5)) (opens_next (by kernel_rfl) (opens_slice Try.underlying23 (by kernel_rfl) (opens_u8 Try.underlying5)) (opens_last (by kernel_rfl) (opens_int Try.underlying3))))))))) h0
  have lt1 := trod_lt1 h1
  have g1 := h1
  obtain ⟨cs1, rfl, _⟩ := okWide_struct Try.underlying36 (hval 1 36 v1 rfl rfl)
  obtain ⟨x1, s1⟩ := opens_arg (opens_struct (P := Try.prog) (t := tCm) (l := [(31, 0), (27, 1), (33, 10), (34, 16), (23, 17), (23, 18), (3, 19)]) Try.underlying36 (by kernel_rfl) (by kernel_rfl) (opens_next (by kernel_rfl) (opens_int Try.underlying31) (opens_next (by kernel_rfl) (opens_struct (P := Try.prog) (t := tRq) (l := [(3, 0), (2, 1), (25, 2)]) Try.underlying27 (by kernel_rfl) (by kernel_rfl) (opens_next (by kernel_rfl) (opens_int Try.underlying3) (opens_next (by kernel_rfl) (opens_int Try.underlying2) (opens_last (by kernel_rfl) (opens_struct (P := Try.prog) (t := tAk) (l := [(22, 0), (23, 1), (23, 2), (23, 3), (23, 4), (4, 5), (3, 6)]) Try.underlying25 (by kernel_rfl) (by kernel_rfl) (opens_next (by kernel_rfl) (opens_int Try.underlying22) (opens_next (by kernel_rfl) (opens_slice Try.underlying23 (by kernel_rfl) (opens_u8 Try.underlying5)) (opens_next (by kernel_rfl) (opens_slice Try.underlying23 (by kernel_rfl) (opens_u8 Try.underlying5)) (opens_next (by kernel_rfl) (opens_slice Try.underlying23 (by kernel_rfl) (opens_u8 Try.underlying5)) (opens_next (by kernel_rfl) (opens_slice Try.underlying23 (by kernel_rfl) (opens_u8 Try.underlying5)) (opens_next (by kernel_rfl) (opens_bool Try.underlying4) (opens_last (by kernel_rfl) (opens_int Try.underlying3))))))))))))) (opens_next (by kernel_rfl) (opens_struct (P := Try.prog) (t := tMv) (l := [(2, 0), (23, 1), (23, 2), (4, 3), (3, 4), (3, 5)]) Try.underlying33 (by kernel_rfl) (by kernel_rfl) (opens_next (by kernel_rfl) (opens_int Try.underlying2) (opens_next (by kernel_rfl) (opens_slice Try.underlying23 (by kernel_rfl) (opens_u8 Try.underlying5)) (opens_next (by kernel_rfl) (opens_slice Try.underlying23 (by kernel_rfl) (opens_u8 Try.underlying5)) (opens_next (by kernel_rfl) (opens_bool Try.underlying4) (opens_next (by kernel_rfl) (opens_int Try.underlying3) (opens_last (by kernel_rfl) (opens_int Try.underlying3)))))))) (opens_next (by kernel_rfl) (opens_slice (t := tIk) Try.underlying34 (by kernel_rfl) (opens_struct (P := Try.prog) (t := tIk) (l := [(23, 0), (2, 1), (63, 2), (23, 3)]) Try.underlying65 (by kernel_rfl) (by kernel_rfl) (opens_next (by kernel_rfl) (opens_slice Try.underlying23 (by kernel_rfl) (opens_u8 Try.underlying5)) (opens_next (by kernel_rfl) (opens_int Try.underlying2) (opens_next (by kernel_rfl) (opens_int Try.underlying63) (opens_last (by kernel_rfl) (opens_slice Try.underlying23 (by kernel_rfl) (opens_u8 Try.underlying5)))))))) (opens_next (by kernel_rfl) (opens_slice Try.underlying23 (by kernel_rfl) (opens_u8 Try.underlying5)) (opens_next (by kernel_rfl) (opens_slice Try.underlying23 (by kernel_rfl) (opens_u8 Try.underlying5)) (opens_last (by kernel_rfl) (opens_int Try.underlying3))))))))) h1
  clear hA0 hval0
  refine Calls.mono (CommandMay_c ⟨_, rfl, s0⟩ ⟨_, rfl, s1⟩) fun e W' ⟨u, he, hr, hE⟩ => ?_
  subst he hr
  have bel := hE.below
  exact ⟨_, rfl, _, _, _, [], _, [], hW', trodAll_mk1 (shut_bool Try.underlying4 _), (trodAll_cons_mk (Below.trod laidOut (by kernel_rfl) (of_decide_eq_true (by kernel_rfl)) g0 bel lt0) (trodAll_cons_mk (Below.trod laidOut (by kernel_rfl) (of_decide_eq_true (by kernel_rfl)) g1 bel lt1) trodAll_mk0)), rfl, bel.frame _, fun h => by cases h⟩
theorem over : Rows.commandMayRow.holds Try.pinned (OpenSpec.ofChange Rows.commandMaySpec) :=
  OpenClaim.holds_of_wide 4 Try.f4 rfl rfl rfl rfl rfl rfl rfl ⟨rfl, rfl, rfl, rfl, rfl⟩ rfl rfl rfl rfl rfl (by kernel_rfl) Try.func4 (by kernel_rfl)
    (of_decide_eq_true (by kernel_rfl)) (by unfold Func.isWrapper; first | (rw [if_pos (by decide +kernel)]; kernel_rfl) | (rw [if_neg (by decide +kernel)]; exact ⟨rfl, rfl⟩))
    (fun os started H enc _ => lifted os started H enc)
/-- the statement -/
theorem proved : Rows.CommandMaySaid := over
end Go.Proofs.Ytogafjlbpodgjaa.commandMay
#print axioms Go.Proofs.Ytogafjlbpodgjaa.commandMay.proved
