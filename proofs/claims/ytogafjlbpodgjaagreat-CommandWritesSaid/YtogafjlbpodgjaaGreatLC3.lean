/- CommandWrites: Every command has the bytes that the chapter writes, or is refused; for any of at most 60000 bytes and entries. -/
import Derived.Test.YtogafjlbpodgjaaGreatC28
import Derived.Test.YtogafjlbpodgjaaGreatGb
import Derived.Test.YtogafjlbpodgjaaGreatRows
namespace Go.Proofs.YtogafjlbpodgjaaGreat.commandWrites
open Go.ChangeShapes Go.WideShapes Go.ChangeAt Go.RowKit Go.Vc
set_option linter.unusedVariables false
set_option linter.unusedSimpArgs false
theorem own : ownKnob Tryz.prog.godebug = none := by kernel_rfl
theorem laidOut : laidOutB Tryz.prog = true := by kernel_rfl
set_option maxRecDepth 100000 in
theorem lifted (os : Os) (started : os.Started) (H : Type) (enc : TypeId × Value → H) :
    ReturnsInHanded {} Tryz.checked os 3 .any (Rows.commandWritesSpec.pre6 enc Tryz.prog Tryz.f3 Rows.commandWritesRow.domain false) (Rows.commandWritesSpec.post enc Tryz.prog Tryz.f3 false true false false) := by
  refine returnsInHanded_of_change (C := Tryz.checked) own started zk Tryz.func3
    (ChangeSpec.witness6 (enc := enc) (C := Tryz.checked) false ⟨#[], #[.agg #[.int .i64 0, .int .i64 0, .int .i64 0, .int .i64 0, .slice none 0 0, .slice none 0 0, .slice none 0 0, .slice none 0 0, .bool false, .int .i64 0, .int .i64 0, .slice none 0 0, .slice none 0 0, .bool false, .int .i64 0, .int .i64 0, .slice none 0 0, .slice none 0 0, .slice none 0 0, .int .i64 0]], []⟩ 8 zk zk zk zk) ?_
  intro W base args ds gs before hval0 hW hcnd _
  have hval : ∀ (j : Nat) t v, Tryz.f3.params[j]? = some t → args[j]? = some v → Value.okWide Tryz.prog W .any base t v := hval0
  have hW' := hW
  obtain ⟨p, q, hA0, hV, rfl, hfz, hnd⟩ := hW
  have hA : DataW.TrodAll enc Tryz.prog W 0 (fun _ => true) true Tryz.f3.params.toList args.toList ds p := hA0
  rw [Tryz.params3] at hA hval
  obtain ⟨v0, vs0, d0, ds0, p0, q0, hargs, rfl, rfl, h0, r0⟩ := trodAll_cons hA
  obtain ⟨rfl, rfl, rfl⟩ := trodAll_nil r0
  obtain rfl : args = #[v0] := by cases args; simp_all
  obtain ⟨rfl, rfl⟩ := trodVars_none hV
  have lt0 := trod_lt1 h0
  have g0 := h0
  obtain ⟨cs0, rfl, _⟩ := okWide_struct Tryz.underlying33 (hval 0 33 v0 rfl rfl)
  obtain ⟨x0, s0⟩ := opens_arg (opens_struct (P := Tryz.prog) (t := tCm) (l := [(22, 0), (28, 1), (30, 10), (31, 16), (24, 17), (24, 18), (3, 19)]) Tryz.underlying33 zk zk (opens_next zk (opens_int Tryz.underlying22) (opens_next zk (opens_struct (P := Tryz.prog) (t := tRq) (l := [(3, 0), (2, 1), (26, 2)]) Tryz.underlying28 zk zk (opens_next zk (opens_int Tryz.underlying3) (opens_next zk (opens_int Tryz.underlying2) (opens_last zk (opens_struct (P := Tryz.prog) (t := tAk) (l := [(23, 0), (24, 1), (24, 2), (24, 3), (24, 4), (4, 5), (3, 6)]) Tryz.underlying26 zk zk (opens_next zk (opens_int Tryz.underlying23) (opens_next zk (opens_slice Tryz.underlying24 zk (opens_u8 Tryz.underlying5)) (opens_next zk (opens_slice Tryz.underlying24 zk (opens_u8 Tryz.underlying5)) (opens_next zk (opens_slice Tryz.underlying24 zk (opens_u8 Tryz.underlying5)) (opens_next zk (opens_slice Tryz.underlying24 zk (opens_u8 Tryz.underlying5)) (opens_next zk (opens_bool Tryz.underlying4) (opens_last zk (opens_int Tryz.underlying3))))))))))))) (opens_next zk (opens_struct (P := Tryz.prog) (t := tMv) (l := [(2, 0), (24, 1), (24, 2), (4, 3), (3, 4), (3, 5)]) Tryz.underlying30 zk zk (opens_next zk (opens_int Tryz.underlying2) (opens_next zk (opens_slice Tryz.underlying24 zk (opens_u8 Tryz.underlying5)) (opens_next zk (opens_slice Tryz.underlying24 zk (opens_u8 Tryz.underlying5)) (opens_next zk (opens_bool Tryz.underlying4) (opens_next zk (opens_int Tryz.underlying3) (opens_last zk (opens_int Tryz.underlying3)))))))) (opens_next zk (opens_slice (t := tIk) Tryz.underlying31 zk (opens_struct (P := Tryz.prog) (t := tIk) (l := [(24, 0), (2, 1), (91, 2), (24, 3)]) Tryz.underlying93 zk zk (opens_next zk (opens_slice Tryz.underlying24 zk (opens_u8 Tryz.underlying5)) (opens_next zk (opens_int Tryz.underlying2) (opens_next zk (opens_int Tryz.underlying91) (opens_last zk (opens_slice Tryz.underlying24 zk (opens_u8 Tryz.underlying5)))))))) (opens_next zk (opens_slice Tryz.underlying24 zk (opens_u8 Tryz.underlying5)) (opens_next zk (opens_slice Tryz.underlying24 zk (opens_u8 Tryz.underlying5)) (opens_last zk (opens_int Tryz.underlying3))))))))) h0
  clear hA0 hval0
  refine Calls.mono (CommandWrites_c ⟨_, rfl, s0⟩) fun e W' ⟨u, he, hr, hE⟩ => ?_
  subst he hr
  have bel := hE.below
  exact ⟨_, rfl, _, _, _, [], _, [], hW', trodAll_mk1 (shut_bool Tryz.underlying4 _), (trodAll_cons_mk (Below.trod laidOut zk (of_decide_eq_true zk) g0 bel lt0) trodAll_mk0), rfl, bel.frame _, fun h => by cases h⟩
theorem over : Rows.commandWritesRow.holds Tryz.pinned (OpenSpec.ofChange Rows.commandWritesSpec) :=
  OpenClaim.holds_of_wide 3 Tryz.f3 rfl rfl rfl rfl rfl rfl rfl ⟨rfl, rfl, rfl, rfl, rfl⟩ rfl rfl rfl rfl rfl zk Tryz.func3 zk
    (of_decide_eq_true zk) (by unfold Func.isWrapper; first | (rw [if_pos zd]; kernel_rfl) | (rw [if_neg zd]; exact ⟨rfl, rfl⟩))
    (fun os started H enc _ => lifted os started H enc)
/-- the statement -/
theorem proved : Rows.CommandWritesSaid := over
end Go.Proofs.YtogafjlbpodgjaaGreat.commandWrites
#print axioms Go.Proofs.YtogafjlbpodgjaaGreat.commandWrites.proved
