/- RangesOne: whatever is done from the first map on, each key is in just one range, which Find tells; each change is an epoch more; a union behind its split gives the ranges back; and the map comes back from its bytes. -/
import Derived.Test.YtkaangdfpjkjpaaR35
import Derived.Test.YtkaangdfpjkjpaaGb
import Derived.Test.YtkaangdfpjkjpaaRows
namespace Go.Proofs.Ytkaangdfpjkjpaa.rangesOne
open Go.ChangeShapes Go.WideShapes Go.ChangeAt Go.RowKit Go.Vc
set_option linter.unusedVariables false
set_option linter.unusedSimpArgs false
theorem own : ownKnob Try.prog.godebug = none := by kernel_rfl
theorem laidOut : laidOutB Try.prog = true := by kernel_rfl
set_option maxRecDepth 100000 in
theorem lifted (os : Os) (started : os.Started) (H : Type) (enc : TypeId × Value → H) :
    ReturnsInHanded {} Try.checked os 15 .any (Rows.rangesOneSpec.pre6 enc Try.prog Try.f15 Rows.rangesOneRow.domain false) (Rows.rangesOneSpec.post enc Try.prog Try.f15 false true false false) := by
  refine returnsInHanded_of_change (C := Try.checked) own started (by kernel_rfl) Try.func15
    (ChangeSpec.witness6 (enc := enc) (C := Try.checked) false ⟨#[], #[.int .i64 0, .slice none 0 0, .slice none 0 0], []⟩ 8 (by kernel_rfl) (by kernel_rfl) (by kernel_rfl) (by kernel_rfl)) ?_
  intro W base args ds gs before hval0 hW hcnd _
  have hval : ∀ (j : Nat) t v, Try.f15.params[j]? = some t → args[j]? = some v → Value.okWide Try.prog W .any base t v := hval0
  have hW' := hW
  obtain ⟨p, q, hA0, hV, rfl, hfz, hnd⟩ := hW
  have hA : DataW.TrodAll enc Try.prog W 0 (fun _ => true) true Try.f15.params.toList args.toList ds p := hA0
  rw [Try.params15] at hA hval
  obtain ⟨v0, vs0, d0, ds0, p0, q0, hargs, rfl, rfl, h0, r0⟩ := trodAll_cons hA
  obtain ⟨v1, vs1, d1, ds1, p1, q1, rfl, rfl, rfl, h1, r1⟩ := trodAll_cons r0
  obtain ⟨v2, vs2, d2, ds2, p2, q2, rfl, rfl, rfl, h2, r2⟩ := trodAll_cons r1
  obtain ⟨rfl, rfl, rfl⟩ := trodAll_nil r2
  obtain rfl : args = #[v0, v1, v2] := by cases args; simp_all
  obtain ⟨rfl, rfl⟩ := trodVars_none hV
  obtain ⟨a0, rfl, rfl, rfl, w0⟩ := open_int Try.underlying3 (hval 0 3 v0 rfl rfl) h0
  have lt1 := trod_lt1 h1
  have g1 := h1
  obtain ⟨x1, s1⟩ := opens_arg (opens_slice (P := Try.prog) Try.underlying57 (by kernel_rfl) (opens_struct (P := Try.prog) (t := tSt) (l := [(3, 0), (3, 1), (35, 2)]) Try.underlying59 (by kernel_rfl) (by kernel_rfl) (opens_next (by kernel_rfl) (opens_int Try.underlying3) (opens_next (by kernel_rfl) (opens_int Try.underlying3) (opens_last (by kernel_rfl) (opens_slice Try.underlying35 (by kernel_rfl) (opens_u8 Try.underlying5))))))) h1
  replace s1 := arg_slice Try.underlying57 (hval 1 57 v1 rfl rfl) s1
  have lt2 := trod_lt1 h2
  have g2 := h2
  obtain ⟨x2, s2⟩ := opens_arg (opens_slice (P := Try.prog) Try.underlying35 (by kernel_rfl) (opens_u8 Try.underlying5)) h2
  replace s2 := arg_slice Try.underlying35 (hval 2 35 v2 rfl rfl) s2
  clear hA0 hval0
  refine Calls.mono (RangesOne_c (wf_i64 w0) s1 s2) fun e W' ⟨u, he, hr, hE⟩ => ?_
  subst he hr
  have bel := hE.below
  exact ⟨_, rfl, _, _, _, [], _, [], hW', trodAll_mk1 (shut_bool Try.underlying4 _), (trodAll_cons_mk (shut_int Try.underlying3 w0) (trodAll_cons_mk (Below.trod laidOut (by kernel_rfl) (of_decide_eq_true (by kernel_rfl)) g1 bel lt1) (trodAll_cons_mk (Below.trod laidOut (by kernel_rfl) (of_decide_eq_true (by kernel_rfl)) g2 bel lt2) trodAll_mk0))), rfl, bel.frame _, fun h => by cases h⟩
theorem over : Rows.rangesOneRow.holds Try.pinned (OpenSpec.ofChange Rows.rangesOneSpec) :=
  OpenClaim.holds_of_wide 15 Try.f15 rfl rfl rfl rfl rfl rfl rfl ⟨rfl, rfl, rfl, rfl, rfl⟩ rfl rfl rfl rfl rfl (by kernel_rfl) Try.func15 (by kernel_rfl)
    (of_decide_eq_true (by kernel_rfl)) (by unfold Func.isWrapper; first | (rw [if_pos (by decide +kernel)]; kernel_rfl) | (rw [if_neg (by decide +kernel)]; exact ⟨rfl, rfl⟩))
    (fun os started H enc _ => lifted os started H enc)
/-- the statement -/
theorem proved : Rows.RangesOneSaid := over
end Go.Proofs.Ytkaangdfpjkjpaa.rangesOne
#print axioms Go.Proofs.Ytkaangdfpjkjpaa.rangesOne.proved
