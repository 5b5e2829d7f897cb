/- JudgeDoes: judge.Do does to any map and any ask what the chapter says, and what it gives is its own. -/
import Derived.Test.YtifnkmflmgnfjaaJ29
import Derived.Test.YtifnkmflmgnfjaaGb
import Derived.Test.YtifnkmflmgnfjaaRows
namespace Go.Proofs.Ytifnkmflmgnfjaa.judgeDoes
open Go.ChangeShapes Go.WideShapes Go.ChangeAt Go.RowKit Go.Vc
set_option linter.unusedVariables false
set_option linter.unusedSimpArgs false
theorem own : ownKnob Try.prog.godebug = none := by kernel_rfl
theorem laidOut : laidOutB Try.prog = true := by kernel_rfl
set_option maxRecDepth 100000 in
theorem lifted (os : Os) (started : os.Started) (H : Type) (enc : TypeId × Value → H) :
    ReturnsInHanded {} Try.checked os 8 .any (Rows.judgeDoesSpec.pre6 enc Try.prog Try.f8 Rows.judgeDoesRow.domain false) (Rows.judgeDoesSpec.post enc Try.prog Try.f8 false true false false) := by
  refine returnsInHanded_of_change (C := Try.checked) own started zk Try.func8
    (ChangeSpec.witness6 (enc := enc) (C := Try.checked) false ⟨#[], #[.slice none 0 0, .agg #[.int .i64 0, .slice none 0 0, .slice none 0 0, .slice none 0 0, .slice none 0 0, .bool false, .int .i64 0]], []⟩ 8 zk zk zk zk) ?_
  intro W base args ds gs before hval0 hW hcnd _
  have hval : ∀ (j : Nat) t v, Try.f8.params[j]? = some t → args[j]? = some v → Value.okWide Try.prog W .any base t v := hval0
  have hW' := hW
  obtain ⟨p, q, hA0, hV, rfl, hfz, hnd⟩ := hW
  have hA : DataW.TrodAll enc Try.prog W 0 (fun _ => true) true Try.f8.params.toList args.toList ds p := hA0
  rw [Try.params8] at hA hval
  obtain ⟨v0, vs0, d0, ds0, p0, q0, hargs, rfl, rfl, h0, r0⟩ := trodAll_cons hA
  obtain ⟨v1, vs1, d1, ds1, p1, q1, rfl, rfl, rfl, h1, r1⟩ := trodAll_cons r0
  obtain ⟨rfl, rfl, rfl⟩ := trodAll_nil r1
  obtain rfl : args = #[v0, v1] := by cases args; simp_all
  obtain ⟨rfl, rfl⟩ := trodVars_none hV
  have lt0 := trod_lt1 h0
  have g0 := h0
  obtain ⟨x0, s0⟩ := opens_arg (opens_slice (t := tPr) Try.underlying22 zk (opens_struct (P := Try.prog) (t := tPr) (l := [(26, 0), (26, 1)]) Try.underlying50 zk zk (opens_next zk (opens_slice Try.underlying26 zk (opens_u8 Try.underlying5)) (opens_last zk (opens_slice Try.underlying26 zk (opens_u8 Try.underlying5)))))) h0
  replace s0 := arg_slice Try.underlying22 (hval 0 22 v0 rfl rfl) s0
  have lt1 := trod_lt1 h1
  have g1 := h1
  obtain ⟨cs1, rfl, _⟩ := okWide_struct Try.underlying28 (hval 1 28 v1 rfl rfl)
  obtain ⟨x1, s1⟩ := opens_arg (opens_struct (P := Try.prog) (t := tAk) (l := [(25, 0), (26, 1), (26, 2), (26, 3), (26, 4), (4, 5), (3, 6)]) Try.underlying28 zk zk (opens_next zk (opens_int Try.underlying25) (opens_next zk (opens_slice Try.underlying26 zk (opens_u8 Try.underlying5)) (opens_next zk (opens_slice Try.underlying26 zk (opens_u8 Try.underlying5)) (opens_next zk (opens_slice Try.underlying26 zk (opens_u8 Try.underlying5)) (opens_next zk (opens_slice Try.underlying26 zk (opens_u8 Try.underlying5)) (opens_next zk (opens_bool Try.underlying4) (opens_last zk (opens_int Try.underlying3))))))))) h1
  clear hA0 hval0
  refine Calls.mono (JudgeDoes_c s0 ⟨_, rfl, s1⟩) fun e W' ⟨u, he, hr, hE⟩ => ?_
  subst he hr
  have bel := hE.below
  exact ⟨_, rfl, _, _, _, [], _, [], hW', trodAll_mk1 (shut_bool Try.underlying4 _), (trodAll_cons_mk (Below.trod laidOut zk (of_decide_eq_true zk) g0 bel lt0) (trodAll_cons_mk (Below.trod laidOut zk (of_decide_eq_true zk) g1 bel lt1) trodAll_mk0)), rfl, bel.frame _, fun h => by cases h⟩
theorem over : Rows.judgeDoesRow.holds Try.pinned (OpenSpec.ofChange Rows.judgeDoesSpec) :=
  OpenClaim.holds_of_wide 8 Try.f8 rfl rfl rfl rfl rfl rfl rfl ⟨rfl, rfl, rfl, rfl, rfl⟩ rfl rfl rfl rfl rfl zk Try.func8 zk
    (of_decide_eq_true zk) (by unfold Func.isWrapper; first | (rw [if_pos zd]; kernel_rfl) | (rw [if_neg zd]; exact ⟨rfl, rfl⟩))
    (fun os started H enc _ => lifted os started H enc)
/-- the statement -/
theorem proved : Rows.JudgeDoesSaid := over
end Go.Proofs.Ytifnkmflmgnfjaa.judgeDoes
#print axioms Go.Proofs.Ytifnkmflmgnfjaa.judgeDoes.proved
