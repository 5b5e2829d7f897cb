/- A part of the proof: steps and lemmas for the walks through the given program. -/
import Derived.Test.YtaidpdjlchnonaaGw
import Derived.Test.YtaidpdjlchnonaaGn
namespace Go.Proofs.Ytaidpdjlchnonaa
open Go.Vc
set_option linter.unusedVariables false
set_option linter.unusedSimpArgs false
set_option maxRecDepth 100000

set_option maxHeartbeats 4000000 in
theorem kinds_c {w : World} : CallsR Try.prog 41 #[] w (fun o w' => o = .agg kCells ∧ Ext w w') := by
  refine enter 9 Try.func41 rfl rfl (by simp) ?_
  refine c_seq ?_
  have E := Keep.refl (K := NoK) w
  refine wp_reg (by decide +kernel) ?_
  refine l_to (to_alloc (z := (.agg #[.bool false, .bool false, .bool false, .bool false, .bool false, .bool false, .bool false, .bool false, .bool false, .bool false, .bool false, .bool false, .bool false, .bool false, .bool false, .bool false, .bool false, .bool false, .bool false, .bool false, .bool false, .bool false, .bool false, .bool false, .bool false, .bool false, .bool false, .bool false, .bool false, .bool false, .bool false, .bool false, .bool false, .bool false, .bool false, .bool false, .bool false, .bool false, .bool false, .bool false, .bool false, .bool false, .bool false, .bool false, .bool false, .bool false, .bool false, .bool false])) (by unfold kZero; kernel_rfl) ?_)
  rintro b1 w1 zb1 HB1 e1 z1
  have zs_e1 := e1.size
  replace E := E.trans (Ext.keep e1)
  try simp only [Value.cells] at HB1
  refine l_nil ?_
  refine n_then ?_
  refine c_seq ?_
  refine wp_reg (by decide +kernel) ?_
  refine l_v (v_build (pl := [(0, 1), (1, 1), (2, 1), (3, 1), (4, 1), (5, 1)]) (z := .agg #[.bool false, .bool false, .bool false, .bool false, .bool false, .bool false]) (zl := [.bool false, .bool false, .bool false, .bool false, .bool false, .bool false]) (by kernel_rfl) (by unfold kZero; kernel_rfl) rfl rfl (cells := [_, _, _, _, _, _]) rfl) ?_
  refine l_v (v_build (pl := [(0, 1), (1, 1), (2, 1), (3, 1), (4, 1), (5, 1)]) (z := .agg #[.bool false, .bool false, .bool false, .bool false, .bool false, .bool false]) (zl := [.bool false, .bool false, .bool false, .bool false, .bool false, .bool false]) (by kernel_rfl) (by unfold kZero; kernel_rfl) rfl rfl (cells := [_, _, _, _, _, _]) rfl) ?_
  refine l_v (v_build (pl := [(0, 1), (1, 1), (2, 1), (3, 1), (4, 1), (5, 1)]) (z := .agg #[.bool false, .bool false, .bool false, .bool false, .bool false, .bool false]) (zl := [.bool false, .bool false, .bool false, .bool false, .bool false, .bool false]) (by kernel_rfl) (by unfold kZero; kernel_rfl) rfl rfl (cells := [_, _, _, _, _, _]) rfl) ?_
  refine l_v (v_build (pl := [(0, 1), (1, 1), (2, 1), (3, 1), (4, 1), (5, 1)]) (z := .agg #[.bool false, .bool false, .bool false, .bool false, .bool false, .bool false]) (zl := [.bool false, .bool false, .bool false, .bool false, .bool false, .bool false]) (by kernel_rfl) (by unfold kZero; kernel_rfl) rfl rfl (cells := [_, _, _, _, _, _]) rfl) ?_
  refine l_v (v_build (pl := [(0, 1), (1, 1), (2, 1), (3, 1), (4, 1), (5, 1)]) (z := .agg #[.bool false, .bool false, .bool false, .bool false, .bool false, .bool false]) (zl := [.bool false, .bool false, .bool false, .bool false, .bool false, .bool false]) (by kernel_rfl) (by unfold kZero; kernel_rfl) rfl rfl (cells := [_, _, _, _, _, _]) rfl) ?_
  refine l_v (v_build (pl := [(0, 1), (1, 1), (2, 1), (3, 1), (4, 1), (5, 1)]) (z := .agg #[.bool false, .bool false, .bool false, .bool false, .bool false, .bool false]) (zl := [.bool false, .bool false, .bool false, .bool false, .bool false, .bool false]) (by kernel_rfl) (by unfold kZero; kernel_rfl) rfl rfl (cells := [_, _, _, _, _, _]) rfl) ?_
  refine l_v (v_build (pl := [(0, 1), (1, 1), (2, 1), (3, 1), (4, 1), (5, 1)]) (z := .agg #[.bool false, .bool false, .bool false, .bool false, .bool false, .bool false]) (zl := [.bool false, .bool false, .bool false, .bool false, .bool false, .bool false]) (by kernel_rfl) (by unfold kZero; kernel_rfl) rfl rfl (cells := [_, _, _, _, _, _]) rfl) ?_
  refine l_v (v_buildArr (et := 77) (n := 8) (sz := 6) (z := .agg #[.bool false, .bool false, .bool false, .bool false, .bool false, .bool false, .bool false, .bool false, .bool false, .bool false, .bool false, .bool false, .bool false, .bool false, .bool false, .bool false, .bool false, .bool false, .bool false, .bool false, .bool false, .bool false, .bool false, .bool false, .bool false, .bool false, .bool false, .bool false, .bool false, .bool false, .bool false, .bool false, .bool false, .bool false, .bool false, .bool false, .bool false, .bool false, .bool false, .bool false, .bool false, .bool false, .bool false, .bool false, .bool false, .bool false, .bool false, .bool false]) (zl := [.bool false, .bool false, .bool false, .bool false, .bool false, .bool false, .bool false, .bool false, .bool false, .bool false, .bool false, .bool false, .bool false, .bool false, .bool false, .bool false, .bool false, .bool false, .bool false, .bool false, .bool false, .bool false, .bool false, .bool false, .bool false, .bool false, .bool false, .bool false, .bool false, .bool false, .bool false, .bool false, .bool false, .bool false, .bool false, .bool false, .bool false, .bool false, .bool false, .bool false, .bool false, .bool false, .bool false, .bool false, .bool false, .bool false, .bool false, .bool false]) (by kernel_rfl) (by unfold kZero; kernel_rfl) rfl rfl (cells := [_, _, _, _, _, _, _, _, _, _, _, _, _, _, _, _, _, _, _, _, _, _, _, _, _, _, _, _, _, _, _, _, _, _, _, _, _, _, _, _, _, _, _, _, _, _, _, _]) rfl) ?_
  refine l_to (to_storeA (n := 48) rfl rfl (show _ = (Value.agg _) from rfl) (by kernel_rfl) rfl (by first | (simp [slice_one]; done) | (simp only [List.forall_mem_cons, List.cons_append, List.nil_append]; repeat' (first | exact rfl | apply And.intro | (intro u hu; cases hu; done)))) HB1 (by first | exact of_decide_eq_true rfl | (simp; done) | decide) ?_)
  rintro w101 HX101 k101 z101
  have zs_k101 := k101.size
  replace E := E.step k101 (by intro i hi he; (try dsimp only [NoK] at hi he ⊢); first | exact he.elim | omega | exact he)
  replace HB1 := HX101
  clear HX101
  try simp only [List.set_cons_zero, List.set_cons_succ, setAt, List.take_zero, List.take_succ_cons, List.drop_zero, List.drop_succ_cons, List.nil_append, List.cons_append, List.append_nil, List.length_cons, List.length_nil, Nat.zero_add, Nat.reduceAdd, List.drop_nil] at HB1
  refine l_nil ?_
  refine n_then ?_
  refine c_ret ?_
  refine ret1c (n := 48) rfl (by decide) rfl (by kernel_rfl) HB1.pv rfl ?_
  exact ⟨rfl, E⟩
end Go.Proofs.Ytaidpdjlchnonaa
