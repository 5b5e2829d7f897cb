/- A part of the proof: steps and lemmas for the walks through the given program. -/
import Derived.Test.YtaidpdjlchnonaaN23
namespace Go.Proofs.Ytaidpdjlchnonaa
open Go.Vc
set_option linter.unusedVariables false
set_option linter.unusedSimpArgs false
set_option maxRecDepth 100000

theorem Send_nil {w : World} {o : Option Addr} {v : Value} (ht : NoWay o w) : CallsR Try.prog 21 #[.pointer o, v] w (fun r w' => r = .tuple #[.int .i64 0, .int .i64 1] ∧ Ext w w') := by
  refine enter 63 Try.func21 rfl rfl (by simp) ?_
  refine c_seq ?_
  have E := Keep.refl (K := NoK) w
  refine wp_reg (by decide +kernel) ?_
  refine l_v (v_assign rfl) ?_
  refine l_v (v_assign rfl) ?_
  refine l_nil ?_
  refine n_then ?_
  refine c_seq ?_
  refine c_block ?_
  refine c_seq ?_
  refine wp_reg (by decide +kernel) ?_
  refine l_v (v_move (t := .pointer _) rfl) ?_
  refine l_to (to_f1 (by kernel_rfl) (show _ = (Value.pointer _) from rfl) (CallsR.mono (ht _ E) ?_))
  rintro _ w101 ⟨rfl, e101⟩
  have zs_e101 := e101.size
  replace E := E.trans (Ext.keep e101)
  refine l_v (v_not rfl) ?_
  refine l_v (v_assign (t := .bool _) rfl) ?_
  refine l_nil ?_
  refine n_then ?_
  refine c_cond rfl rfl (fun hc => ?_) (fun hc => ?_)
  · skip
    refine c_seq ?_
    refine wp_reg (by decide +kernel) ?_
    refine l_v (v_assign rfl) ?_
    refine l_v (v_assign rfl) ?_
    refine l_nil ?_
    refine n_then ?_
    refine c_ret ?_
    refine r_blk ?_
    refine r_then ?_
    refine ret2v rfl (by decide) (by decide) (show _ = (Value.int _ _) from rfl) (show _ = (Value.int _ _) from rfl) ?_
    exact ⟨rfl, E⟩
  · skip
    cases hc
theorem At_nil {w : World} {o : Option Addr} {n : Int} (ht : NoWay o w) : CallsR Try.prog 61 #[.pointer o, .int .i64 n] w (fun r w' => r = .tuple #[.agg #[.int .i64 0, .int .i64 0, .int .i64 0, .int .i64 0, .int .i64 0, .int .i64 0, .int .i64 0, .int .i64 0, .slice none 0 0, .bool false, .slice none 0 0], .int .i64 1] ∧ Ext w w') := by
  refine enter 32 Try.func61 rfl rfl (by simp) ?_
  refine c_seq ?_
  have E := Keep.refl (K := NoK) w
  refine wp_reg (by decide +kernel) ?_
  refine l_to (to_alloc (z := (.agg #[.int .i64 0, .int .i64 0, .int .i64 0, .int .i64 0, .int .i64 0, .int .i64 0, .int .i64 0, .int .i64 0, .slice none 0 0, .bool false, .slice none 0 0])) (by unfold kZero; kernel_rfl) ?_)
  rintro b2 w2 zb2 HB2 e2 z2
  have zs_e2 := e2.size
  replace E := E.trans (Ext.keep e2)
  try simp only [Value.cells] at HB2
  refine l_v (v_assign rfl) ?_
  refine l_nil ?_
  refine n_then ?_
  refine c_seq ?_
  refine c_block ?_
  refine c_seq ?_
  refine wp_reg (by decide +kernel) ?_
  refine l_v (v_move (t := .pointer _) rfl) ?_
  refine l_to (to_f1 (by kernel_rfl) (show _ = (Value.pointer _) from rfl) (CallsR.mono (ht _ E) ?_))
  rintro _ w101 ⟨rfl, e101⟩
  have zs_e101 := e101.size
  replace E := E.trans (Ext.keep e101)
  replace HB2 := HB2.ext e101
  refine l_v (v_not rfl) ?_
  refine l_v (v_assign (t := .bool _) rfl) ?_
  refine l_nil ?_
  refine n_then ?_
  refine c_cond rfl rfl (fun hc => ?_) (fun hc => ?_)
  · skip
    refine c_seq ?_
    refine wp_reg (by decide +kernel) ?_
    refine l_v (v_build (pl := [(0, 1), (1, 1), (2, 1), (3, 1), (4, 1), (5, 1), (6, 1), (7, 1), (8, 1), (9, 1), (10, 1)]) (z := .agg #[.int .i64 0, .int .i64 0, .int .i64 0, .int .i64 0, .int .i64 0, .int .i64 0, .int .i64 0, .int .i64 0, .slice none 0 0, .bool false, .slice none 0 0]) (zl := [.int .i64 0, .int .i64 0, .int .i64 0, .int .i64 0, .int .i64 0, .int .i64 0, .int .i64 0, .int .i64 0, .slice none 0 0, .bool false, .slice none 0 0]) (by kernel_rfl) (by unfold kZero; kernel_rfl) rfl rfl (cells := [_, _, _, _, _, _, _, _, _, _, _]) rfl) ?_
    refine l_to (to_storeA (n := 11) rfl rfl (show _ = (Value.agg _) from rfl) (by kernel_rfl) rfl (by first | (simp [slice_one]; done) | (simp only [List.forall_mem_cons, List.cons_append, List.nil_append]; repeat' (first | exact rfl | apply And.intro | (intro u hu; cases hu; done)))) HB2 (by first | exact of_decide_eq_true rfl | (simp; done) | decide) ?_)
    rintro w102 HX102 k102 z102
    have zs_k102 := k102.size
    replace E := E.step k102 (by intro i hi he; (try dsimp only [NoK] at hi he ⊢); first | exact he.elim | omega | exact he)
    replace HB2 := HX102
    clear HX102
    try simp only [List.set_cons_zero, List.set_cons_succ, setAt, List.take_zero, List.take_succ_cons, List.drop_zero, List.drop_succ_cons, List.nil_append, List.cons_append, List.append_nil, List.length_cons, List.length_nil, Nat.zero_add, Nat.reduceAdd, List.drop_nil] at HB2
    refine l_v (v_assign rfl) ?_
    refine l_nil ?_
    refine n_then ?_
    refine c_ret ?_
    refine r_blk ?_
    refine r_then ?_
    refine ret2cv (n := 11) rfl (by decide) (by decide) rfl (by kernel_rfl) HB2.pv rfl (show _ = (Value.int _ _) from rfl) ?_
    exact ⟨rfl, E⟩
  · skip
    cases hc
theorem Take_nil {w : World} {o : Option Addr} {n : Int} (ht : NoWay o w) : CallsR Try.prog 22 #[.pointer o, .int .i64 n] w (fun r w' => r = .tuple #[.agg #[.int .i64 0, .int .i64 0, .int .i64 0, .int .i64 0, .int .i64 0, .int .i64 0, .int .i64 0, .int .i64 0, .slice none 0 0, .bool false, .slice none 0 0], .int .i64 1] ∧ Ext w w') := by
  refine enter 36 Try.func22 rfl rfl (by simp) ?_
  refine c_seq ?_
  have E := Keep.refl (K := NoK) w
  refine wp_reg (by decide +kernel) ?_
  refine l_to (to_alloc (z := (.agg #[.int .i64 0, .int .i64 0, .int .i64 0, .int .i64 0, .int .i64 0, .int .i64 0, .int .i64 0, .int .i64 0, .slice none 0 0, .bool false, .slice none 0 0])) (by unfold kZero; kernel_rfl) ?_)
  rintro b2 w2 zb2 HB2 e2 z2
  have zs_e2 := e2.size
  replace E := E.trans (Ext.keep e2)
  try simp only [Value.cells] at HB2
  refine l_v (v_assign rfl) ?_
  refine l_nil ?_
  refine n_then ?_
  refine c_seq ?_
  refine wp_reg (by decide +kernel) ?_
  refine l_v (v_move (t := .pointer _) rfl) ?_
  refine l_v (v_move (t := .int _ _) rfl) ?_
  refine l_to (to_f2 (by kernel_rfl) (show _ = (Value.pointer _) from rfl) (show _ = (Value.int _ _) from rfl) (CallsR.mono (At_nil (ht.ext E)) ?_))
  rintro _ w3 ⟨rfl, e3⟩
  have zs_e3 := e3.size
  replace E := E.trans (Ext.keep e3)
  replace HB2 := HB2.ext e3
  refine l_v (v_move (t := .tuple _) rfl) ?_
  refine l_v (v_extract (t := .agg _) rfl rfl) ?_
  refine l_v (v_extract (t := .int _ _) rfl rfl) ?_
  refine l_to (to_alloc (z := (.agg #[.int .i64 0, .int .i64 0, .int .i64 0, .int .i64 0, .int .i64 0, .int .i64 0, .int .i64 0, .int .i64 0, .slice none 0 0, .bool false, .slice none 0 0])) (by unfold kZero; kernel_rfl) ?_)
  rintro b4 w4 zb4 HB4 e4 z4
  have zs_e4 := e4.size
  replace E := E.trans (Ext.keep e4)
  replace HB2 := HB2.ext e4
  try simp only [Value.cells] at HB4
  refine l_to (to_storeA (n := 11) rfl rfl (show _ = (Value.agg _) from rfl) (by kernel_rfl) rfl (by first | (simp [slice_one]; done) | (simp only [List.forall_mem_cons, List.cons_append, List.nil_append]; repeat' (first | exact rfl | apply And.intro | (intro u hu; cases hu; done)))) HB4 (by first | exact of_decide_eq_true rfl | (simp; done) | decide) ?_)
  rintro w101 HX101 k101 z101
  have zs_k101 := k101.size
  replace E := E.step k101 (by intro i hi he; (try dsimp only [NoK] at hi he ⊢); first | exact he.elim | omega | exact he)
  replace HB2 := HB2.keep k101 (by intro h; (try dsimp only at h); first | omega)
  replace HB4 := HX101
  clear HX101
  try simp only [List.set_cons_zero, List.set_cons_succ, setAt, List.take_zero, List.take_succ_cons, List.drop_zero, List.drop_succ_cons, List.nil_append, List.cons_append, List.append_nil, List.length_cons, List.length_nil, Nat.zero_add, Nat.reduceAdd, List.drop_nil] at HB4
  refine l_v (v_assign (t := .int _ _) rfl) ?_
  refine l_nil ?_
  refine n_then ?_
  refine c_seq ?_
  refine c_seq ?_
  refine wp_reg (by decide +kernel) ?_
  refine l_v (v_move (t := .int _ _) rfl) ?_
  refine l_v (v_eql rfl rfl) ?_
  refine l_nil ?_
  refine n_then ?_
  refine c_cond rfl rfl (fun hc => ?_) (fun hc => ?_)
  · skip
    cases hc
  · skip
    refine c_skip ?_
    refine n_then ?_
    refine c_seq ?_
    refine wp_reg (by decide +kernel) ?_
    refine l_v (v_loadA (by kernel_rfl) rfl (by first | exact HB4.pv | exact HB2.pv | assumption) rfl) ?_
    refine l_v (v_move (t := .int _ _) rfl) ?_
    refine l_to (to_storeA (n := 11) rfl rfl (show _ = (Value.agg _) from rfl) (by kernel_rfl) rfl (by first | (simp [slice_one]; done) | (simp only [List.forall_mem_cons, List.cons_append, List.nil_append]; repeat' (first | exact rfl | apply And.intro | (intro u hu; cases hu; done)))) HB2 (by first | exact of_decide_eq_true rfl | (simp; done) | decide) ?_)
    rintro w102 HX102 k102 z102
    have zs_k102 := k102.size
    replace E := E.step k102 (by intro i hi he; (try dsimp only [NoK] at hi he ⊢); first | exact he.elim | omega | exact he)
    replace HB4 := HB4.keep k102 (by intro h; (try dsimp only at h); first | omega)
    replace HB2 := HX102
    clear HX102
    try simp only [List.set_cons_zero, List.set_cons_succ, setAt, List.take_zero, List.take_succ_cons, List.drop_zero, List.drop_succ_cons, List.nil_append, List.cons_append, List.append_nil, List.length_cons, List.length_nil, Nat.zero_add, Nat.reduceAdd, List.drop_nil] at HB2
    refine l_v (v_assign (t := .int _ _) rfl) ?_
    refine l_nil ?_
    refine n_then ?_
    refine c_ret ?_
    refine ret2cv (n := 11) rfl (by decide) (by decide) rfl (by kernel_rfl) HB2.pv rfl (show _ = (Value.int _ _) from rfl) ?_
    exact ⟨rfl, E⟩
theorem Drop_nil {w : World} {o : Option Addr} {n : Int} (ht : NoWay o w) : CallsR Try.prog 23 #[.pointer o, .int .i64 n] w (fun r w' => r = .int .i64 1 ∧ Ext w w') := by
  refine enter 23 Try.func23 rfl rfl (by simp) ?_
  refine c_seq ?_
  have E := Keep.refl (K := NoK) w
  refine wp_reg (by decide +kernel) ?_
  refine l_v (v_assign rfl) ?_
  refine l_nil ?_
  refine n_then ?_
  refine c_seq ?_
  refine wp_reg (by decide +kernel) ?_
  refine l_v (v_move (t := .pointer _) rfl) ?_
  refine l_v (v_move (t := .int _ _) rfl) ?_
  refine l_to (to_f2 (by kernel_rfl) (show _ = (Value.pointer _) from rfl) (show _ = (Value.int _ _) from rfl) (CallsR.mono (Take_nil (ht.ext E)) ?_))
  rintro _ w3 ⟨rfl, e3⟩
  have zs_e3 := e3.size
  replace E := E.trans (Ext.keep e3)
  refine l_v (v_move (t := .tuple _) rfl) ?_
  refine l_v (v_extract (t := .agg _) rfl rfl) ?_
  refine l_v (v_extract (t := .int _ _) rfl rfl) ?_
  refine l_to (to_alloc (z := (.agg #[.int .i64 0, .int .i64 0, .int .i64 0, .int .i64 0, .int .i64 0, .int .i64 0, .int .i64 0, .int .i64 0, .slice none 0 0, .bool false, .slice none 0 0])) (by unfold kZero; kernel_rfl) ?_)
  rintro b4 w4 zb4 HB4 e4 z4
  have zs_e4 := e4.size
  replace E := E.trans (Ext.keep e4)
  try simp only [Value.cells] at HB4
  refine l_to (to_storeA (n := 11) rfl rfl (show _ = (Value.agg _) from rfl) (by kernel_rfl) rfl (by first | (simp [slice_one]; done) | (simp only [List.forall_mem_cons, List.cons_append, List.nil_append]; repeat' (first | exact rfl | apply And.intro | (intro u hu; cases hu; done)))) HB4 (by first | exact of_decide_eq_true rfl | (simp; done) | decide) ?_)
  rintro w101 HX101 k101 z101
  have zs_k101 := k101.size
  replace E := E.step k101 (by intro i hi he; (try dsimp only [NoK] at hi he ⊢); first | exact he.elim | omega | exact he)
  replace HB4 := HX101
  clear HX101
  try simp only [List.set_cons_zero, List.set_cons_succ, setAt, List.take_zero, List.take_succ_cons, List.drop_zero, List.drop_succ_cons, List.nil_append, List.cons_append, List.append_nil, List.length_cons, List.length_nil, Nat.zero_add, Nat.reduceAdd, List.drop_nil] at HB4
  refine l_v (v_assign (t := .int _ _) rfl) ?_
  refine l_nil ?_
  refine n_then ?_
  refine c_seq ?_
  refine c_seq ?_
  refine wp_reg (by decide +kernel) ?_
  refine l_v (v_move (t := .int _ _) rfl) ?_
  refine l_v (v_eql rfl rfl) ?_
  refine l_nil ?_
  refine n_then ?_
  refine c_cond rfl rfl (fun hc => ?_) (fun hc => ?_)
  · skip
    cases hc
  · skip
    refine c_skip ?_
    refine n_then ?_
    refine c_seq ?_
    refine wp_reg (by decide +kernel) ?_
    refine l_v (v_move (t := .int _ _) rfl) ?_
    refine l_v (v_assign (t := .int _ _) rfl) ?_
    refine l_nil ?_
    refine n_then ?_
    refine c_ret ?_
    refine ret1v rfl (by decide) (show _ = (Value.int _ _) from rfl) ?_
    exact ⟨rfl, E⟩
theorem Double_nil {w : World} {o : Option Addr} {n : Int} (ht : NoWay o w) : CallsR Try.prog 24 #[.pointer o, .int .i64 n] w (fun r w' => r = .int .i64 1 ∧ Ext w w') := by
  refine enter 20 Try.func24 rfl rfl (by simp) ?_
  refine c_seq ?_
  have E := Keep.refl (K := NoK) w
  refine wp_reg (by decide +kernel) ?_
  refine l_v (v_assign rfl) ?_
  refine l_nil ?_
  refine n_then ?_
  refine c_seq ?_
  refine wp_reg (by decide +kernel) ?_
  refine l_v (v_move (t := .pointer _) rfl) ?_
  refine l_v (v_move (t := .int _ _) rfl) ?_
  refine l_to (to_f2 (by kernel_rfl) (show _ = (Value.pointer _) from rfl) (show _ = (Value.int _ _) from rfl) (CallsR.mono (At_nil (ht.ext E)) ?_))
  rintro _ w3 ⟨rfl, e3⟩
  have zs_e3 := e3.size
  replace E := E.trans (Ext.keep e3)
  refine l_v (v_move (t := .tuple _) rfl) ?_
  refine l_v (v_extract (t := .agg _) rfl rfl) ?_
  refine l_v (v_extract (t := .int _ _) rfl rfl) ?_
  refine l_to (to_alloc (z := (.agg #[.int .i64 0, .int .i64 0, .int .i64 0, .int .i64 0, .int .i64 0, .int .i64 0, .int .i64 0, .int .i64 0, .slice none 0 0, .bool false, .slice none 0 0])) (by unfold kZero; kernel_rfl) ?_)
  rintro b4 w4 zb4 HB4 e4 z4
  have zs_e4 := e4.size
  replace E := E.trans (Ext.keep e4)
  try simp only [Value.cells] at HB4
  refine l_to (to_storeA (n := 11) rfl rfl (show _ = (Value.agg _) from rfl) (by kernel_rfl) rfl (by first | (simp [slice_one]; done) | (simp only [List.forall_mem_cons, List.cons_append, List.nil_append]; repeat' (first | exact rfl | apply And.intro | (intro u hu; cases hu; done)))) HB4 (by first | exact of_decide_eq_true rfl | (simp; done) | decide) ?_)
  rintro w101 HX101 k101 z101
  have zs_k101 := k101.size
  replace E := E.step k101 (by intro i hi he; (try dsimp only [NoK] at hi he ⊢); first | exact he.elim | omega | exact he)
  replace HB4 := HX101
  clear HX101
  try simp only [List.set_cons_zero, List.set_cons_succ, setAt, List.take_zero, List.take_succ_cons, List.drop_zero, List.drop_succ_cons, List.nil_append, List.cons_append, List.append_nil, List.length_cons, List.length_nil, Nat.zero_add, Nat.reduceAdd, List.drop_nil] at HB4
  refine l_v (v_assign (t := .int _ _) rfl) ?_
  refine l_nil ?_
  refine n_then ?_
  refine c_seq ?_
  refine c_seq ?_
  refine wp_reg (by decide +kernel) ?_
  refine l_v (v_move (t := .int _ _) rfl) ?_
  refine l_v (v_eql rfl rfl) ?_
  refine l_nil ?_
  refine n_then ?_
  refine c_cond rfl rfl (fun hc => ?_) (fun hc => ?_)
  · skip
    cases hc
  · skip
    refine c_skip ?_
    refine n_then ?_
    refine c_seq ?_
    refine wp_reg (by decide +kernel) ?_
    refine l_v (v_move (t := .int _ _) rfl) ?_
    refine l_v (v_assign (t := .int _ _) rfl) ?_
    refine l_nil ?_
    refine n_then ?_
    refine c_ret ?_
    refine ret1v rfl (by decide) (show _ = (Value.int _ _) from rfl) ?_
    exact ⟨rfl, E⟩
theorem Lost_nil {w : World} {o : Option Addr} (ht : NoWay o w) : CallsR Try.prog 26 #[.pointer o] w (fun r w' => r = .int .i64 0 ∧ Ext w w') := by
  refine enter 10 Try.func26 rfl rfl (by simp) ?_
  refine c_seq ?_
  have E := Keep.refl (K := NoK) w
  refine wp_reg (by decide +kernel) ?_
  refine l_v (v_assign rfl) ?_
  refine l_nil ?_
  refine n_then ?_
  refine c_seq ?_
  refine c_seq ?_
  refine wp_reg (by decide +kernel) ?_
  refine l_v (v_move (t := .pointer _) rfl) ?_
  refine l_to (to_f1 (by kernel_rfl) (show _ = (Value.pointer _) from rfl) (CallsR.mono (ht _ E) ?_))
  rintro _ w101 ⟨rfl, e101⟩
  have zs_e101 := e101.size
  replace E := E.trans (Ext.keep e101)
  refine l_v (v_not rfl) ?_
  refine l_nil ?_
  refine n_then ?_
  refine c_cond rfl rfl (fun hc => ?_) (fun hc => ?_)
  · skip
    refine c_seq ?_
    refine wp_reg (by decide +kernel) ?_
    refine l_v (v_assign rfl) ?_
    refine l_nil ?_
    refine n_then ?_
    refine c_ret ?_
    refine r_then ?_
    refine ret1v rfl (by decide) (show _ = (Value.int _ _) from rfl) ?_
    exact ⟨rfl, E⟩
  · skip
    cases hc
theorem Copy_nil {w : World} {o : Option Addr} (ht : NoWay o w) : CallsR Try.prog 73 #[.pointer o] w (fun r w' => r = .pointer none ∧ Ext w w') := by
  refine enter 17 Try.func73 rfl rfl (by simp) ?_
  refine c_seq ?_
  have E := Keep.refl (K := NoK) w
  refine wp_reg (by decide +kernel) ?_
  refine l_v (v_assign rfl) ?_
  refine l_nil ?_
  refine n_then ?_
  refine c_seq ?_
  refine c_seq ?_
  refine wp_reg (by decide +kernel) ?_
  refine l_v (v_move (t := .pointer _) rfl) ?_
  refine l_to (to_f1 (by kernel_rfl) (show _ = (Value.pointer _) from rfl) (CallsR.mono (ht _ E) ?_))
  rintro _ w101 ⟨rfl, e101⟩
  have zs_e101 := e101.size
  replace E := E.trans (Ext.keep e101)
  refine l_v (v_not rfl) ?_
  refine l_nil ?_
  refine n_then ?_
  refine c_cond rfl rfl (fun hc => ?_) (fun hc => ?_)
  · skip
    refine c_seq ?_
    refine wp_reg (by decide +kernel) ?_
    refine l_v (v_assign rfl) ?_
    refine l_nil ?_
    refine n_then ?_
    refine c_ret ?_
    refine r_then ?_
    refine ret1v rfl (by decide) (show _ = (Value.pointer _) from rfl) ?_
    exact ⟨rfl, E⟩
  · skip
    cases hc
theorem NoWay.none (w : World) : NoWay none w := fun W _ => there_nil
theorem NoWay.blk {w : World} {b : Nat} {x y : Value} (HB1 : Blk w b [.bool false, x, y] 68) : NoWay (some ⟨b, 0, .none⟩) w := fun W e => there_c (HB1.ext e)
theorem SameWay_nil {w : World} {o : Option Addr} (ht : NoWay o w) : CallsR Try.prog 34 #[.pointer o, .pointer none] w (fun r w' => r = .bool true ∧ Ext w w') := by
  refine enter 38 Try.func34 rfl rfl (by simp) ?_
  refine c_seq ?_
  have E := Keep.refl (K := NoK) w
  refine wp_reg (by decide +kernel) ?_
  refine l_v (v_assign rfl) ?_
  refine l_nil ?_
  refine n_then ?_
  refine c_seq ?_
  refine c_seq ?_
  refine wp_reg (by decide +kernel) ?_
  refine l_v (v_move (t := .pointer _) rfl) ?_
  refine l_to (to_f1 (by kernel_rfl) (show _ = (Value.pointer _) from rfl) (CallsR.mono (ht _ E) ?_))
  rintro _ w101 ⟨rfl, e101⟩
  have zs_e101 := e101.size
  replace E := E.trans (Ext.keep e101)
  refine l_v (v_not rfl) ?_
  refine l_v (v_move (t := .bool _) rfl) ?_
  refine l_skip (u := .bool true) rfl rfl rfl ?_
  refine l_skip (u := .bool true) rfl rfl rfl ?_
  refine l_skip (u := .bool true) rfl rfl rfl ?_
  refine l_v (v_orC rfl) ?_
  refine l_nil ?_
  refine n_then ?_
  refine c_cond rfl rfl (fun hc => ?_) (fun hc => ?_)
  · skip
    refine c_seq ?_
    refine wp_reg (by decide +kernel) ?_
    refine l_v (v_move (t := .pointer _) rfl) ?_
    refine l_to (to_f1 (by kernel_rfl) (show _ = (Value.pointer _) from rfl) (CallsR.mono (ht _ E) ?_))
    rintro _ w102 ⟨rfl, e102⟩
    have zs_e102 := e102.size
    replace E := E.trans (Ext.keep e102)
    refine l_v (v_move (t := .pointer _) rfl) ?_
    refine l_to (to_f1 (by kernel_rfl) (show _ = (Value.pointer _) from rfl) (CallsR.mono (there_nil) ?_))
    rintro _ w103 ⟨rfl, e103⟩
    have zs_e103 := e103.size
    replace E := E.trans (Ext.keep e103)
    refine l_v (v_beql (by kernel_rfl) rfl rfl) ?_
    refine l_v (v_assign (t := .bool _) rfl) ?_
    refine l_nil ?_
    refine n_then ?_
    refine c_ret ?_
    refine r_then ?_
    refine ret1v rfl (by decide) (show _ = (Value.bool _) from rfl) ?_
    exact ⟨rfl, E⟩
  · skip
    cases hc
theorem SameWay_made_nil {w : World} {b : Nat} {x y : Value} (HB1 : Blk w b [.bool true, x, y] 68) : CallsR Try.prog 34 #[.pointer (some ⟨b, 0, none⟩), .pointer none] w (fun r w' => r = .bool false ∧ Ext w w') := by
  refine enter 38 Try.func34 rfl rfl (by simp) ?_
  refine c_seq ?_
  have E := Keep.refl (K := NoK) w
  refine wp_reg (by decide +kernel) ?_
  refine l_v (v_assign rfl) ?_
  refine l_nil ?_
  refine n_then ?_
  refine c_seq ?_
  refine c_seq ?_
  refine wp_reg (by decide +kernel) ?_
  refine l_v (v_move (t := .pointer _) rfl) ?_
  refine l_to (to_f1 (by kernel_rfl) (show _ = (Value.pointer _) from rfl) (CallsR.mono (there_c HB1) ?_))
  rintro _ w101 ⟨rfl, e101⟩
  have zs_e101 := e101.size
  replace E := E.trans (Ext.keep e101)
  replace HB1 := HB1.ext e101
  refine l_v (v_not rfl) ?_
  refine l_v (v_move (t := .bool _) rfl) ?_
  refine l_gt rfl rfl (OpTo.of_v (v_move (t := .pointer _) rfl) ?_)
  refine l_gt rfl rfl (to_f1 (by kernel_rfl) (show _ = (Value.pointer _) from rfl) (CallsR.mono (there_nil) ?_))
  rintro _ w102 ⟨rfl, e102⟩
  have zs_e102 := e102.size
  replace E := E.trans (Ext.keep e102)
  replace HB1 := HB1.ext e102
  refine l_gt rfl rfl (OpTo.of_v (v_not rfl) ?_)
  refine l_v (v_orT rfl rfl) ?_
  refine l_nil ?_
  refine n_then ?_
  refine c_cond rfl rfl (fun hc => ?_) (fun hc => ?_)
  · skip
    refine c_seq ?_
    refine wp_reg (by decide +kernel) ?_
    refine l_v (v_move (t := .pointer _) rfl) ?_
    refine l_to (to_f1 (by kernel_rfl) (show _ = (Value.pointer _) from rfl) (CallsR.mono (there_c HB1) ?_))
    rintro _ w103 ⟨rfl, e103⟩
    have zs_e103 := e103.size
    replace E := E.trans (Ext.keep e103)
    replace HB1 := HB1.ext e103
    refine l_v (v_move (t := .pointer _) rfl) ?_
    refine l_to (to_f1 (by kernel_rfl) (show _ = (Value.pointer _) from rfl) (CallsR.mono (there_nil) ?_))
    rintro _ w104 ⟨rfl, e104⟩
    have zs_e104 := e104.size
    replace E := E.trans (Ext.keep e104)
    replace HB1 := HB1.ext e104
    refine l_v (v_beql (by kernel_rfl) rfl rfl) ?_
    refine l_v (v_assign (t := .bool _) rfl) ?_
    refine l_nil ?_
    refine n_then ?_
    refine c_ret ?_
    refine r_then ?_
    refine ret1v rfl (by decide) (show _ = (Value.bool _) from rfl) ?_
    exact ⟨rfl, E⟩
  · skip
    cases hc
set_option maxHeartbeats 4000000 in
theorem nothing_c {w : World} {o : Option Addr} (ht : NoWay o w) : CallsR Try.prog 38 #[.pointer o] w (fun r w' => r = .bool true ∧ Ext w w') := by
  refine enter 82 Try.func38 rfl rfl (by simp) ?_
  refine c_seq ?_
  have E := Keep.refl (K := NoK) w
  refine wp_reg (by decide +kernel) ?_
  refine l_v (v_assign rfl) ?_
  refine l_nil ?_
  refine n_then ?_
  refine c_seq ?_
  refine wp_reg (by decide +kernel) ?_
  refine l_v (v_move (t := .pointer _) rfl) ?_
  refine l_to (to_f2 (by kernel_rfl) (show _ = (Value.int _ _) from rfl) (show _ = (Value.int _ _) from rfl) (CallsR.mono (vote_c) ?_))
  rintro _ w101 ⟨rfl, e101⟩
  have zs_e101 := e101.size
  replace E := E.trans (Ext.keep e101)
  refine l_to (to_slice1 (t := tMs) (et := 26) (bytes := 120) (by kernel_rfl) (by decide) (show _ = (Value.agg _) from rfl) (vote_rep (F := NoK) i64_0 i64_1) ?_)
  rintro b12 w12 zb12 HO12 e12 z12
  have zs_e12 := e12.size
  replace E := E.trans (Ext.keep e12)
  have zo_HO12 := fun (b : Nat) h => HO12.own_lt (b := b) h
  refine l_to (to_f2 (by kernel_rfl) (show _ = (Value.pointer _) from rfl) (show _ = (Value.slice _ _ _) from rfl) (CallsR.mono (Send_nil (ht.ext E)) ?_))
  rintro _ w102 ⟨rfl, e102⟩
  have zs_e102 := e102.size
  replace E := E.trans (Ext.keep e102)
  replace HO12 := HO12.ext e102
  refine l_v (v_move (t := .tuple _) rfl) ?_
  refine l_v (v_extract (t := .int _ _) rfl rfl) ?_
  refine l_v (v_extract (t := .int _ _) rfl rfl) ?_
  refine l_v (v_assign (t := .int _ _) rfl) ?_
  refine l_v (v_assign (t := .int _ _) rfl) ?_
  refine l_nil ?_
  refine n_then ?_
  refine c_seq ?_
  refine wp_reg (by decide +kernel) ?_
  refine l_v (v_move (t := .pointer _) rfl) ?_
  refine l_to (to_f2 (by kernel_rfl) (show _ = (Value.pointer _) from rfl) (show _ = (Value.int _ _) from rfl) (CallsR.mono (Take_nil (ht.ext E)) ?_))
  rintro _ w103 ⟨rfl, e103⟩
  have zs_e103 := e103.size
  replace E := E.trans (Ext.keep e103)
  refine l_v (v_move (t := .tuple _) rfl) ?_
  refine l_v (v_extract (t := .agg _) rfl rfl) ?_
  refine l_v (v_extract (t := .int _ _) rfl rfl) ?_
  refine l_to (to_alloc (z := (.agg #[.int .i64 0, .int .i64 0, .int .i64 0, .int .i64 0, .int .i64 0, .int .i64 0, .int .i64 0, .int .i64 0, .slice none 0 0, .bool false, .slice none 0 0])) (by unfold kZero; kernel_rfl) ?_)
  rintro b5 w5 zb5 HB5 e5 z5
  have zs_e5 := e5.size
  replace E := E.trans (Ext.keep e5)
  try simp only [Value.cells] at HB5
  refine l_to (to_storeA (n := 11) rfl rfl (show _ = (Value.agg _) from rfl) (by kernel_rfl) rfl (by first | (simp [slice_one]; done) | (simp only [List.forall_mem_cons, List.cons_append, List.nil_append]; repeat' (first | exact rfl | apply And.intro | (intro u hu; cases hu; done)))) HB5 (by first | exact of_decide_eq_true rfl | (simp; done) | decide) ?_)
  rintro w104 HX104 k104 z104
  have zs_k104 := k104.size
  replace E := E.step k104 (by intro i hi he; (try dsimp only [NoK] at hi he ⊢); first | exact he.elim | omega | exact he)
  replace HB5 := HX104
  clear HX104
  try simp only [List.set_cons_zero, List.set_cons_succ, setAt, List.take_zero, List.take_succ_cons, List.drop_zero, List.drop_succ_cons, List.nil_append, List.cons_append, List.append_nil, List.length_cons, List.length_nil, Nat.zero_add, Nat.reduceAdd, List.drop_nil] at HB5
  refine l_v (v_assign (t := .int _ _) rfl) ?_
  refine l_nil ?_
  refine n_then ?_
  refine c_seq ?_
  refine wp_reg (by decide +kernel) ?_
  refine l_v (v_move (t := .pointer _) rfl) ?_
  refine l_to (to_f2 (by kernel_rfl) (show _ = (Value.pointer _) from rfl) (show _ = (Value.int _ _) from rfl) (CallsR.mono (At_nil (ht.ext E)) ?_))
  rintro _ w105 ⟨rfl, e105⟩
  have zs_e105 := e105.size
  replace E := E.trans (Ext.keep e105)
  replace HB5 := HB5.ext e105
  refine l_v (v_move (t := .tuple _) rfl) ?_
  refine l_v (v_extract (t := .agg _) rfl rfl) ?_
  refine l_v (v_extract (t := .int _ _) rfl rfl) ?_
  refine l_to (to_alloc (z := (.agg #[.int .i64 0, .int .i64 0, .int .i64 0, .int .i64 0, .int .i64 0, .int .i64 0, .int .i64 0, .int .i64 0, .slice none 0 0, .bool false, .slice none 0 0])) (by unfold kZero; kernel_rfl) ?_)
  rintro b7 w7 zb7 HB7 e7 z7
  have zs_e7 := e7.size
  replace E := E.trans (Ext.keep e7)
  replace HB5 := HB5.ext e7
  try simp only [Value.cells] at HB7
  refine l_to (to_storeA (n := 11) rfl rfl (show _ = (Value.agg _) from rfl) (by kernel_rfl) rfl (by first | (simp [slice_one]; done) | (simp only [List.forall_mem_cons, List.cons_append, List.nil_append]; repeat' (first | exact rfl | apply And.intro | (intro u hu; cases hu; done)))) HB7 (by first | exact of_decide_eq_true rfl | (simp; done) | decide) ?_)
  rintro w106 HX106 k106 z106
  have zs_k106 := k106.size
  replace E := E.step k106 (by intro i hi he; (try dsimp only [NoK] at hi he ⊢); first | exact he.elim | omega | exact he)
  replace HB5 := HB5.keep k106 (by intro h; (try dsimp only at h); first | omega)
  replace HB7 := HX106
  clear HX106
  try simp only [List.set_cons_zero, List.set_cons_succ, setAt, List.take_zero, List.take_succ_cons, List.drop_zero, List.drop_succ_cons, List.nil_append, List.cons_append, List.append_nil, List.length_cons, List.length_nil, Nat.zero_add, Nat.reduceAdd, List.drop_nil] at HB7
  refine l_v (v_assign (t := .int _ _) rfl) ?_
  refine l_nil ?_
  refine n_then ?_
  refine c_seq ?_
  refine wp_reg (by decide +kernel) ?_
  refine l_v (v_move (t := .int _ _) rfl) ?_
  refine l_to (to_f1 (by kernel_rfl) (show _ = (Value.int _ _) from rfl) (CallsR.mono (num_c) ?_))
  rintro _ w107 ⟨rfl, e107⟩
  have zs_e107 := e107.size
  replace E := E.trans (Ext.keep e107)
  replace HB5 := HB5.ext e107
  replace HB7 := HB7.ext e107
  refine l_v (OpVat.as (b := true) (v_eql rfl rfl) (by first | rfl | (simp; done) | (simp; omega))) ?_
  refine l_v (v_move (t := .bool _) rfl) ?_
  refine l_gt rfl rfl (OpTo.of_v (v_move (t := .int _ _) rfl) ?_)
  refine l_gt rfl rfl (to_f1 (by kernel_rfl) (show _ = (Value.int _ _) from rfl) (CallsR.mono (num_c) ?_))
  rintro _ w108 ⟨rfl, e108⟩
  have zs_e108 := e108.size
  replace E := E.trans (Ext.keep e108)
  replace HB5 := HB5.ext e108
  replace HB7 := HB7.ext e108
  refine l_gt rfl rfl (OpTo.of_v (OpVat.as (b := true) (v_eql rfl rfl) (by first | rfl | (simp; done) | (simp; omega))) ?_)
  refine l_v (v_andT rfl rfl) ?_
  refine l_v (v_move (t := .bool _) rfl) ?_
  refine l_gt rfl rfl (OpTo.of_v (v_move (t := .int _ _) rfl) ?_)
  refine l_gt rfl rfl (to_f1 (by kernel_rfl) (show _ = (Value.int _ _) from rfl) (CallsR.mono (num_c) ?_))
  rintro _ w109 ⟨rfl, e109⟩
  have zs_e109 := e109.size
  replace E := E.trans (Ext.keep e109)
  replace HB5 := HB5.ext e109
  replace HB7 := HB7.ext e109
  refine l_gt rfl rfl (OpTo.of_v (OpVat.as (b := true) (v_eql rfl rfl) (by first | rfl | (simp; done) | (simp; omega))) ?_)
  refine l_v (v_andT rfl rfl) ?_
  refine l_v (v_move (t := .bool _) rfl) ?_
  refine l_gt rfl rfl (OpTo.of_v (v_move (t := .pointer _) rfl) ?_)
  refine l_gt rfl rfl (to_f2 (by kernel_rfl) (show _ = (Value.pointer _) from rfl) (show _ = (Value.int _ _) from rfl) (CallsR.mono (Drop_nil (ht.ext E)) ?_))
  rintro _ w110 ⟨rfl, e110⟩
  have zs_e110 := e110.size
  replace E := E.trans (Ext.keep e110)
  replace HB5 := HB5.ext e110
  replace HB7 := HB7.ext e110
  refine l_gt rfl rfl (to_f1 (by kernel_rfl) (show _ = (Value.int _ _) from rfl) (CallsR.mono (num_c) ?_))
  rintro _ w111 ⟨rfl, e111⟩
  have zs_e111 := e111.size
  replace E := E.trans (Ext.keep e111)
  replace HB5 := HB5.ext e111
  replace HB7 := HB7.ext e111
  refine l_gt rfl rfl (OpTo.of_v (OpVat.as (b := true) (v_eql rfl rfl) (by first | rfl | (simp; done) | (simp; omega))) ?_)
  refine l_v (v_andT rfl rfl) ?_
  refine l_v (v_move (t := .bool _) rfl) ?_
  refine l_gt rfl rfl (OpTo.of_v (v_move (t := .pointer _) rfl) ?_)
  refine l_gt rfl rfl (to_f2 (by kernel_rfl) (show _ = (Value.pointer _) from rfl) (show _ = (Value.int _ _) from rfl) (CallsR.mono (Double_nil (ht.ext E)) ?_))
  rintro _ w112 ⟨rfl, e112⟩
  have zs_e112 := e112.size
  replace E := E.trans (Ext.keep e112)
  replace HB5 := HB5.ext e112
  replace HB7 := HB7.ext e112
  refine l_gt rfl rfl (to_f1 (by kernel_rfl) (show _ = (Value.int _ _) from rfl) (CallsR.mono (num_c) ?_))
  rintro _ w113 ⟨rfl, e113⟩
  have zs_e113 := e113.size
  replace E := E.trans (Ext.keep e113)
  replace HB5 := HB5.ext e113
  replace HB7 := HB7.ext e113
  refine l_gt rfl rfl (OpTo.of_v (OpVat.as (b := true) (v_eql rfl rfl) (by first | rfl | (simp; done) | (simp; omega))) ?_)
  refine l_v (v_andT rfl rfl) ?_
  refine l_v (v_move (t := .bool _) rfl) ?_
  refine l_gt rfl rfl (OpTo.of_v (v_move (t := .pointer _) rfl) ?_)
  refine l_gt rfl rfl (to_f1 (by kernel_rfl) (show _ = (Value.pointer _) from rfl) (CallsR.mono (Len_g (WaySeq.no (ht.ext E)) (by decide)) ?_))
  rintro _ w114 ⟨rfl, e114⟩
  have zs_e114 := e114.size
  replace E := E.trans (Ext.keep e114)
  replace HB5 := HB5.ext e114
  replace HB7 := HB7.ext e114
  refine l_gt rfl rfl (OpTo.of_v (OpVat.as (b := true) (v_eql rfl rfl) (by first | rfl | (simp; done) | (simp; omega))) ?_)
  refine l_v (v_andT rfl rfl) ?_
  refine l_v (v_move (t := .bool _) rfl) ?_
  refine l_gt rfl rfl (OpTo.of_v (v_move (t := .pointer _) rfl) ?_)
  refine l_gt rfl rfl (to_f1 (by kernel_rfl) (show _ = (Value.pointer _) from rfl) (CallsR.mono (Lost_nil (ht.ext E)) ?_))
  rintro _ w115 ⟨rfl, e115⟩
  have zs_e115 := e115.size
  replace E := E.trans (Ext.keep e115)
  replace HB5 := HB5.ext e115
  replace HB7 := HB7.ext e115
  refine l_gt rfl rfl (OpTo.of_v (OpVat.as (b := true) (v_eql rfl rfl) (by first | rfl | (simp; done) | (simp; omega))) ?_)
  refine l_v (v_andT rfl rfl) ?_
  refine l_v (v_move (t := .bool _) rfl) ?_
  refine l_gt rfl rfl (OpTo.of_v (v_move (t := .pointer _) rfl) ?_)
  refine l_gt rfl rfl (to_f2 (by kernel_rfl) (show _ = (Value.pointer _) from rfl) (show _ = (Value.int _ _) from rfl) (CallsR.mono (To_g (ms := []) (WaySeq.no (ht.ext E)) (by decide)) ?_))
  rintro _ w63 ⟨⟨a63, c63, rfl, HS63⟩, e63⟩
  have zs_e63 := e63.size
  replace E := E.trans (Ext.keep e63)
  replace HB5 := HB5.ext e63
  replace HB7 := HB7.ext e63
  refine l_gt rfl rfl (OpTo.of_v (v_len (et := 3) (by kernel_rfl) rfl) ?_)
  refine l_gt rfl rfl (OpTo.of_v (OpVat.as (b := true) (v_eql rfl rfl) (by first | rfl | (simp; done) | (simp; omega))) ?_)
  refine l_v (v_andT rfl rfl) ?_
  refine l_v (v_move (t := .bool _) rfl) ?_
  refine l_gt rfl rfl (OpTo.of_v (v_move (t := .pointer _) rfl) ?_)
  refine l_gt rfl rfl (OpTo.of_v (v_build (pl := [(0, 1), (1, 1)]) (z := .agg #[.slice none 0 0, .int .i64 0]) (zl := [.slice none 0 0, .int .i64 0]) (by kernel_rfl) (by unfold kZero; kernel_rfl) rfl rfl (cells := [_, _]) rfl) ?_)
  refine l_gt rfl rfl (to_box (show _ = (Value.agg _) from rfl) ?_)
  rintro b70 w70 zb70 HB70 e70 z70
  have zs_e70 := e70.size
  replace E := E.trans (Ext.keep e70)
  replace HB5 := HB5.ext e70
  replace HB7 := HB7.ext e70
  replace HS63 := HS63.ext e70
  try simp only [Value.cells] at HB70
  refine l_gt rfl rfl (to_f3 (by kernel_rfl) (show _ = (Value.pointer _) from rfl) (show _ = (Value.pointer _) from rfl) (show _ = (Value.int _ _) from rfl) (CallsR.mono (once_g (ms := []) (F := NoK) (WaySeq.no (ht.ext E)) (by decide) HB70 (SlV.nil _ _ _)) ?_))
  rintro _ w116 ⟨rfl, e116⟩
  have zs_e116 := e116.size
  replace E := E.trans (Ext.keep e116)
  replace HB5 := HB5.ext e116
  replace HB7 := HB7.ext e116
  replace HS63 := HS63.ext e116
  replace HB70 := HB70.ext e116
  refine l_v (v_andT rfl rfl) ?_
  refine l_v (v_move (t := .bool _) rfl) ?_
  refine l_gt rfl rfl (OpTo.of_v (v_move (t := .pointer _) rfl) ?_)
  refine l_gt rfl rfl (to_f1 (by kernel_rfl) (show _ = (Value.pointer _) from rfl) (CallsR.mono (Copy_nil (ht.ext E)) ?_))
  rintro _ w117 ⟨rfl, e117⟩
  have zs_e117 := e117.size
  replace E := E.trans (Ext.keep e117)
  replace HB5 := HB5.ext e117
  replace HB7 := HB7.ext e117
  replace HS63 := HS63.ext e117
  replace HB70 := HB70.ext e117
  refine l_gt rfl rfl (OpTo.of_v (OpVat.as (b := true) (v_peql (et := 68) (by kernel_rfl) rfl rfl) (by first | rfl | (simp; done) | (simp; omega))) ?_)
  refine l_v (v_andT rfl rfl) ?_
  refine l_v (v_move (t := .bool _) rfl) ?_
  refine l_gt rfl rfl (OpTo.of_v (v_move (t := .pointer _) rfl) ?_)
  refine l_gt rfl rfl (to_f2 (by kernel_rfl) (show _ = (Value.pointer _) from rfl) (show _ = (Value.pointer _) from rfl) (CallsR.mono (SameWay_nil (ht.ext E)) ?_))
  rintro _ w118 ⟨rfl, e118⟩
  have zs_e118 := e118.size
  replace E := E.trans (Ext.keep e118)
  replace HB5 := HB5.ext e118
  replace HB7 := HB7.ext e118
  replace HS63 := HS63.ext e118
  replace HB70 := HB70.ext e118
  refine l_v (v_andT rfl rfl) ?_
  refine l_v (v_assign (t := .bool _) rfl) ?_
  refine l_nil ?_
  refine n_then ?_
  refine c_ret ?_
  refine ret1v rfl (by decide) (show _ = (Value.bool _) from rfl) ?_
  exact ⟨rfl, E⟩
end Go.Proofs.Ytaidpdjlchnonaa
