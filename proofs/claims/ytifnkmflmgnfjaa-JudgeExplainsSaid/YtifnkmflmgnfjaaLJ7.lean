/- JudgeExplains: a history that a map itself made, one request behind the other, is explained in that order and by that map; without its last answer it is explained too; with an error told in the place of one of its answers it is not; for any at most 24 asks of at most 3000 bytes, any clients, any place. -/
import Derived.Test.YtifnkmflmgnfjaaJ33
import Derived.Test.YtifnkmflmgnfjaaGb
import Derived.Test.YtifnkmflmgnfjaaRows
namespace Go.Proofs.Ytifnkmflmgnfjaa.judgeExplains
open Go.ChangeShapes Go.WideShapes Go.ChangeAt Go.RowKit Go.Vc
set_option linter.unusedVariables false
set_option linter.unusedSimpArgs false
theorem own : ownKnob Try.prog.godebug = none := by kernel_rfl
theorem laidOut : laidOutB Try.prog = true := by kernel_rfl
set_option maxRecDepth 100000 in
theorem lifted (os : Os) (started : os.Started) (H : Type) (enc : TypeId × Value → H) :
    ReturnsInHanded {} Try.checked os 9 .any (Rows.judgeExplainsSpec.pre6 enc Try.prog Try.f9 Rows.judgeExplainsRow.domain false) (Rows.judgeExplainsSpec.post enc Try.prog Try.f9 false true false false) := by
  refine returnsInHanded_of_change (C := Try.checked) own started zk Try.func9
    (ChangeSpec.witness6 (enc := enc) (C := Try.checked) false ⟨#[], #[.slice none 0 0, .slice none 0 0, .int .i64 0], []⟩ 8 zk zk zk zk) ?_
  intro W base args ds gs before hval0 hW hcnd _
  have hval : ∀ (j : Nat) t v, Try.f9.params[j]? = some t → args[j]? = some v → Value.okWide Try.prog W .any base t v := hval0
  have hW' := hW
  obtain ⟨p, q, hA0, hV, rfl, hfz, hnd⟩ := hW
  have hA : DataW.TrodAll enc Try.prog W 0 (fun _ => true) true Try.f9.params.toList args.toList ds p := hA0
  rw [Try.params9] at hA hval
  obtain ⟨v0, vs0, d0, ds0, p0, q0, hargs, rfl, rfl, h0, r0⟩ := trodAll_cons hA
  obtain ⟨v1, vs1, d1, ds1, p1, q1, rfl, rfl, rfl, h1, r1⟩ := trodAll_cons r0
  obtain ⟨v2, vs2, d2, ds2, p2, q2, rfl, rfl, rfl, h2, r2⟩ := trodAll_cons r1
  obtain ⟨rfl, rfl, rfl⟩ := trodAll_nil r2
  obtain rfl : args = #[v0, v1, v2] := by cases args; simp_all
  obtain ⟨rfl, rfl⟩ := trodVars_none hV
  have lt0 := trod_lt1 h0
  have g0 := h0
  obtain ⟨x0, s0⟩ := opens_arg (opens_slice (t := tAk) Try.underlying72 zk (opens_struct (P := Try.prog) (t := tAk) (l := [(25, 0), (26, 1), (26, 2), (26, 3), (26, 4), (4, 5), (3, 6)]) Try.underlying28 zk zk (opens_next zk (opens_int Try.underlying25) (opens_next zk (opens_slice Try.underlying26 zk (opens_u8 Try.underlying5)) (opens_next zk (opens_slice Try.underlying26 zk (opens_u8 Try.underlying5)) (opens_next zk (opens_slice Try.underlying26 zk (opens_u8 Try.underlying5)) (opens_next zk (opens_slice Try.underlying26 zk (opens_u8 Try.underlying5)) (opens_next zk (opens_bool Try.underlying4) (opens_last zk (opens_int Try.underlying3)))))))))) h0
  replace s0 := arg_slice Try.underlying72 (hval 0 72 v0 rfl rfl) s0
  have lt1 := trod_lt1 h1
  have g1 := h1
  obtain ⟨x1, s1⟩ := opens_arg (opens_slice (t := (tInt .i64)) Try.underlying53 zk (opens_int Try.underlying3)) h1
  replace s1 := arg_slice Try.underlying53 (hval 1 53 v1 rfl rfl) s1
  obtain ⟨a2, rfl, rfl, rfl, w2⟩ := open_int Try.underlying3 (hval 2 3 v2 rfl rfl) h2
  clear hA0 hval0
  refine Calls.mono (JudgeExplains_c s0 s1 (wf_i64 w2)) fun e W' ⟨u, he, hr, hE⟩ => ?_
  subst he hr
  have bel := hE.below
  exact ⟨_, rfl, _, _, _, [], _, [], hW', trodAll_mk1 (shut_bool Try.underlying4 _), (trodAll_cons_mk (Below.trod laidOut zk (of_decide_eq_true zk) g0 bel lt0) (trodAll_cons_mk (Below.trod laidOut zk (of_decide_eq_true zk) g1 bel lt1) (trodAll_cons_mk (shut_int Try.underlying3 w2) trodAll_mk0))), rfl, bel.frame _, fun h => by cases h⟩
theorem over : Rows.judgeExplainsRow.holds Try.pinned (OpenSpec.ofChange Rows.judgeExplainsSpec) :=
  OpenClaim.holds_of_wide 9 Try.f9 rfl rfl rfl rfl rfl rfl rfl ⟨rfl, rfl, rfl, rfl, rfl⟩ rfl rfl rfl rfl rfl zk Try.func9 zk
    (of_decide_eq_true zk) (by unfold Func.isWrapper; first | (rw [if_pos zd]; kernel_rfl) | (rw [if_neg zd]; exact ⟨rfl, rfl⟩))
    (fun os started H enc _ => lifted os started H enc)
/-- the statement -/
theorem proved : Rows.JudgeExplainsSaid := over
end Go.Proofs.Ytifnkmflmgnfjaa.judgeExplains
#print axioms Go.Proofs.Ytifnkmflmgnfjaa.judgeExplains.proved
