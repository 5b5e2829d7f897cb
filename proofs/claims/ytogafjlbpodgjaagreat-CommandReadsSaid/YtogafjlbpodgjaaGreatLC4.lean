/- CommandReads: Any bytes are the one command that they are, or none, and they stay; for any at most 60000. -/
import Derived.Test.YtogafjlbpodgjaaGreatC35
import Derived.Test.YtogafjlbpodgjaaGreatGb
import Derived.Test.YtogafjlbpodgjaaGreatRows
namespace Go.Proofs.YtogafjlbpodgjaaGreat.commandReads
open Go.ChangeShapes Go.WideShapes Go.ChangeAt Go.RowKit Go.Vc
set_option linter.unusedVariables false
set_option linter.unusedSimpArgs false
theorem own : ownKnob Tryz.prog.godebug = none := by kernel_rfl
theorem laidOut : laidOutB Tryz.prog = true := by kernel_rfl
set_option maxRecDepth 100000 in
theorem lifted (os : Os) (started : os.Started) (H : Type) (enc : TypeId × Value → H) :
    ReturnsInHanded {} Tryz.checked os 4 .any (Rows.commandReadsSpec.pre6 enc Tryz.prog Tryz.f4 Rows.commandReadsRow.domain false) (Rows.commandReadsSpec.post enc Tryz.prog Tryz.f4 false true false false) := by
  refine returnsInHanded_of_change (C := Tryz.checked) own started zk Tryz.func4
    (ChangeSpec.witness6 (enc := enc) (C := Tryz.checked) false ⟨#[], #[.slice none 0 0], []⟩ 8 zk zk zk zk) ?_
  intro W base args ds gs before hval0 hW hcnd _
  have hval : ∀ (j : Nat) t v, Tryz.f4.params[j]? = some t → args[j]? = some v → Value.okWide Tryz.prog W .any base t v := hval0
  have hW' := hW
  obtain ⟨p, q, hA0, hV, rfl, hfz, hnd⟩ := hW
  have hA : DataW.TrodAll enc Tryz.prog W 0 (fun _ => true) true Tryz.f4.params.toList args.toList ds p := hA0
  rw [Tryz.params4] at hA hval
  obtain ⟨v0, vs0, d0, ds0, p0, q0, hargs, rfl, rfl, h0, r0⟩ := trodAll_cons hA
  obtain ⟨rfl, rfl, rfl⟩ := trodAll_nil r0
  obtain rfl : args = #[v0] := by cases args; simp_all
  obtain ⟨rfl, rfl⟩ := trodVars_none hV
  have lt0 := trod_lt1 h0
  have g0 := h0
  obtain ⟨x0, s0⟩ := opens_arg (opens_slice Tryz.underlying24 zk (opens_u8 Tryz.underlying5)) h0
  replace s0 := arg_slice Tryz.underlying24 (hval 0 24 v0 rfl rfl) s0
  clear hA0 hval0
  refine Calls.mono (CommandReads_c s0) fun e W' ⟨u, he, hr, hE⟩ => ?_
  subst he hr
  have bel := hE.below
  exact ⟨_, rfl, _, _, _, [], _, [], hW', trodAll_mk1 (shut_bool Tryz.underlying4 _), (trodAll_cons_mk (Below.trod laidOut zk (of_decide_eq_true zk) g0 bel lt0) trodAll_mk0), rfl, bel.frame _, fun h => by cases h⟩
theorem over : Rows.commandReadsRow.holds Tryz.pinned (OpenSpec.ofChange Rows.commandReadsSpec) :=
  OpenClaim.holds_of_wide 4 Tryz.f4 rfl rfl rfl rfl rfl rfl rfl ⟨rfl, rfl, rfl, rfl, rfl⟩ rfl rfl rfl rfl rfl zk Tryz.func4 zk
    (of_decide_eq_true zk) (by unfold Func.isWrapper; first | (rw [if_pos zd]; kernel_rfl) | (rw [if_neg zd]; exact ⟨rfl, rfl⟩))
    (fun os started H enc _ => lifted os started H enc)
/-- the statement -/
theorem proved : Rows.CommandReadsSaid := over
end Go.Proofs.YtogafjlbpodgjaaGreat.commandReads
#print axioms Go.Proofs.YtogafjlbpodgjaaGreat.commandReads.proved
