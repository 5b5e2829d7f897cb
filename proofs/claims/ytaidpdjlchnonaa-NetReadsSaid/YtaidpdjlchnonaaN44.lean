/- A part of the proof: steps and lemmas for the walks through the given program. -/
import Derived.Test.YtaidpdjlchnonaaN43
namespace Go.Proofs.Ytaidpdjlchnonaa
open Go.Vc
set_option linter.unusedVariables false
set_option linter.unusedSimpArgs false
set_option maxRecDepth 100000

theorem qS_len (m : Nat) (q : QSt) : (qS m q).1.length ≤ q.1.length := rest_len q.1
theorem q8_len (l : List UInt8) : (q5 l).1.length ≤ l.length ∧ (q8 l).1.length ≤ l.length := by
  have h1 : (q1 l).1.length ≤ l.length := qS_len 7 (l, true)
  have h2 := qS_len 5 (q1 l)
  have h3 := qS_len 5 (q2 l)
  have h4 := qS_len 5 (q3 l)
  have h5 := qS_len 2147483647 (q4 l)
  have h6 := qS_len 2147483647 (q5 l)
  have h7 := qS_len 2147483647 (q6 l)
  have h8 := qS_len 2147483647 (q7 l)
  have a5 : (q5 l).1.length ≤ l.length := Nat.le_trans h5 (Nat.le_trans h4 (Nat.le_trans h3 (Nat.le_trans h2 h1)))
  exact ⟨a5, Nat.le_trans h8 (Nat.le_trans h7 (Nat.le_trans h6 a5))⟩
set_option maxHeartbeats 8000000 in
theorem refRead_c {w : World} {F0 : Nat → Prop} {v : Value} {l : List UInt8} (HS1 : Bv w F0 v l) (hl : l.length ≤ 100000) : CallsR Try.prog 40 #[v] w (fun o w' => (∃ x, o = .tuple #[x, .int .i64 (readN l).2] ∧ AgV tMs w' AllB x (readN l).1) ∧ Ext w w') := by
  obtain ⟨a1, c1, rfl⟩ := HS1.shape
  have hql := q8_len l
  refine enter 123 Try.func40 rfl rfl (by simp) ?_
  refine c_seq ?_
  have E := Keep.refl (K := NoK) w
  replace HS1 := HS1.all
  refine wp_reg (by decide +kernel) ?_
  refine l_to (to_alloc (z := (.agg #[.int .i64 0, .int .i64 0, .int .i64 0, .int .i64 0, .int .i64 0, .int .i64 0, .int .i64 0, .int .i64 0, .slice none 0 0, .bool false, .slice none 0 0])) (by unfold kZero; kernel_rfl) ?_)
  rintro b2 w2 zb2 HB2 e2 z2
  have zs_e2 := e2.size
  replace E := E.trans (Ext.keep e2)
  replace HS1 := HS1.ext e2
  try simp only [Value.cells] at HB2
  refine l_v (v_assign rfl) ?_
  refine l_nil ?_
  refine n_then ?_
  refine c_seq ?_
  refine wp_reg (by decide +kernel) ?_
  refine l_v (v_move (t := .slice _ _ _) rfl) ?_
  refine l_v (v_build (pl := [(0, 1)]) (z := .agg #[.slice none 0 0]) (zl := [.slice none 0 0]) (by kernel_rfl) (by unfold kZero; kernel_rfl) rfl rfl (cells := [_]) rfl) ?_
  refine l_to (to_box (show _ = (Value.agg _) from rfl) ?_)
  rintro b3 w3 zb3 HB3 e3 z3
  have zs_e3 := e3.size
  replace E := E.trans (Ext.keep e3)
  replace HS1 := HS1.ext e3
  replace HB2 := HB2.ext e3
  try simp only [Value.cells] at HB3
  have HR : Rf _ b3 (fun k => k < w.heap.size) l := ⟨_, HB3, HS1⟩
  have hF : ∀ k, k < w.heap.size → k < b3 := fun k h => by omega
  refine l_v (v_build (pl := [(0, 1), (1, 1)]) (z := .agg #[.pointer none, .bool false]) (zl := [.pointer none, .bool false]) (by kernel_rfl) (by unfold kZero; kernel_rfl) rfl rfl (cells := [_, _]) rfl) ?_
  refine l_to (to_box (show _ = (Value.agg _) from rfl) ?_)
  rintro b4 w4 zb4 HB4 e4 z4
  have zs_e4 := e4.size
  replace HB4 : Blk w4 b4 [.pointer (some ⟨b3, 0, none⟩), .bool true] 128 := HB4
  replace E := E.trans (Ext.keep e4)
  replace HB2 := HB2.ext e4
  replace HR := HR.ext e4
  try simp only [Value.cells] at HB4
  have hx : b3 < b4 := by omega
  refine l_v (v_assign (t := .pointer _) rfl) ?_
  refine l_nil ?_
  refine n_then ?_
  refine c_seq ?_
  refine wp_reg (by decide +kernel) ?_
  refine l_v (v_move (t := .pointer _) rfl) ?_
  refine l_to (to_f2 (by kernel_rfl) (show _ = (Value.pointer _) from rfl) (show _ = (Value.int _ _) from rfl) (CallsR.mono (refnum_c (most := 7) HB4 HR hF hx (by decide)) ?_))
  rintro _ w21 ⟨rfl, ⟨HB4, HR⟩, k21⟩
  have zs_k21 := k21.size
  replace HR : Rf w21 b3 (fun k => k < w.heap.size) (q1 l).1 := HR
  replace HB4 : Blk w21 b4 [.pointer (some ⟨b3, 0, none⟩), .bool (q1 l).2] 128 := HB4
  replace E := E.step k21 (by intro i hi he; (try dsimp only [NoK] at hi he ⊢); first | exact he.elim | omega | exact he)
  replace HB2 := HB2.keep k21 (by intro h; (try dsimp only at h); first | omega)
  refine l_v (v_build (pl := [(0, 1), (1, 1), (2, 1), (3, 1), (4, 1), (5, 1), (6, 1), (7, 1), (8, 1), (9, 1), (10, 1)]) (z := .agg #[.int .i64 0, .int .i64 0, .int .i64 0, .int .i64 0, .int .i64 0, .int .i64 0, .int .i64 0, .int .i64 0, .slice none 0 0, .bool false, .slice none 0 0]) (zl := [.int .i64 0, .int .i64 0, .int .i64 0, .int .i64 0, .int .i64 0, .int .i64 0, .int .i64 0, .int .i64 0, .slice none 0 0, .bool false, .slice none 0 0]) (by kernel_rfl) (by unfold kZero; kernel_rfl) rfl rfl (cells := [_, _, _, _, _, _, _, _, _, _, _]) rfl) ?_
  refine l_to (to_alloc (z := (.agg #[.int .i64 0, .int .i64 0, .int .i64 0, .int .i64 0, .int .i64 0, .int .i64 0, .int .i64 0, .int .i64 0, .slice none 0 0, .bool false, .slice none 0 0])) (by unfold kZero; kernel_rfl) ?_)
  rintro b5 w5 zb5 HB5 e5 z5
  have zs_e5 := e5.size
  replace E := E.trans (Ext.keep e5)
  replace HB2 := HB2.ext e5
  replace HB4 := HB4.ext e5
  replace HR := HR.ext e5
  try simp only [Value.cells] at HB5
  refine l_to (to_storeA (n := 11) rfl rfl (show _ = (Value.agg _) from rfl) (by kernel_rfl) rfl (by first | (simp [slice_one]; done) | (simp only [List.forall_mem_cons, List.cons_append, List.nil_append]; repeat' (first | exact rfl | apply And.intro | (intro u hu; cases hu; done)))) HB5 (by first | exact of_decide_eq_true rfl | (simp; done) | decide) ?_)
  rintro w101 HX101 k101 z101
  have zs_k101 := k101.size
  replace E := E.step k101 (by intro i hi he; (try dsimp only [NoK] at hi he ⊢); first | exact he.elim | omega | exact he)
  replace HB2 := HB2.keep k101 (by intro h; (try dsimp only at h); first | omega)
  replace HB4 := HB4.keep k101 (by intro h; (try dsimp only at h); first | omega)
  replace HR := HR.keep k101 (by intro h; have h := h; (try dsimp only [NoK] at h); first | exact h | omega | (rcases h with h | h <;> omega)) (by intro i hi he; have hi0 := hi; have hi := hi; have he := he; (try dsimp only [NoK] at hi he); first | exact he.elim | omega | (have := hF i hi0; omega))
  replace HB5 := HX101
  clear HX101
  try simp only [List.set_cons_zero, List.set_cons_succ, setAt, List.take_zero, List.take_succ_cons, List.drop_zero, List.drop_succ_cons, List.nil_append, List.cons_append, List.append_nil, List.length_cons, List.length_nil, Nat.zero_add, Nat.reduceAdd, List.drop_nil] at HB5
  refine l_nil ?_
  refine n_then ?_
  refine c_seq ?_
  refine wp_reg (by decide +kernel) ?_
  refine l_v (v_move (t := .pointer _) rfl) ?_
  refine l_to (to_f2 (by kernel_rfl) (show _ = (Value.pointer _) from rfl) (show _ = (Value.int _ _) from rfl) (CallsR.mono (refnum_c (most := 5) HB4 HR hF hx (by decide)) ?_))
  rintro _ w22 ⟨rfl, ⟨HB4, HR⟩, k22⟩
  have zs_k22 := k22.size
  replace HR : Rf w22 b3 (fun k => k < w.heap.size) (q2 l).1 := HR
  replace HB4 : Blk w22 b4 [.pointer (some ⟨b3, 0, none⟩), .bool (q2 l).2] 128 := HB4
  replace E := E.step k22 (by intro i hi he; (try dsimp only [NoK] at hi he ⊢); first | exact he.elim | omega | exact he)
  replace HB2 := HB2.keep k22 (by intro h; (try dsimp only at h); first | omega)
  replace HB5 := HB5.keep k22 (by intro h; (try dsimp only at h); first | omega)
  refine l_v (v_fieldAddr (off := 1) (ft := 3) (by kernel_rfl) rfl) ?_
  refine l_to (to_store rfl rfl (show _ = (Value.int _ _) from rfl) rfl (by kernel_rfl) HB5 (by first | exact of_decide_eq_true rfl | (simp; done) | decide) ?_)
  rintro w102 HX102 k102 z102
  have zs_k102 := k102.size
  replace E := E.step k102 (by intro i hi he; (try dsimp only [NoK] at hi he ⊢); first | exact he.elim | omega | exact he)
  replace HB2 := HB2.keep k102 (by intro h; (try dsimp only at h); first | omega)
  replace HB4 := HB4.keep k102 (by intro h; (try dsimp only at h); first | omega)
  replace HR := HR.keep k102 (by intro h; have h := h; (try dsimp only [NoK] at h); first | exact h | omega | (rcases h with h | h <;> omega)) (by intro i hi he; have hi0 := hi; have hi := hi; have he := he; (try dsimp only [NoK] at hi he); first | exact he.elim | omega | (have := hF i hi0; omega))
  replace HB5 := HX102
  clear HX102
  try simp only [List.set_cons_zero, List.set_cons_succ, setAt, List.take_zero, List.take_succ_cons, List.drop_zero, List.drop_succ_cons, List.nil_append, List.cons_append, List.append_nil, List.length_cons, List.length_nil, Nat.zero_add, Nat.reduceAdd, List.drop_nil] at HB5
  refine l_nil ?_
  refine n_then ?_
  refine c_seq ?_
  refine wp_reg (by decide +kernel) ?_
  refine l_v (v_move (t := .pointer _) rfl) ?_
  refine l_to (to_f2 (by kernel_rfl) (show _ = (Value.pointer _) from rfl) (show _ = (Value.int _ _) from rfl) (CallsR.mono (refnum_c (most := 5) HB4 HR hF hx (by decide)) ?_))
  rintro _ w24 ⟨rfl, ⟨HB4, HR⟩, k24⟩
  have zs_k24 := k24.size
  replace HR : Rf w24 b3 (fun k => k < w.heap.size) (q3 l).1 := HR
  replace HB4 : Blk w24 b4 [.pointer (some ⟨b3, 0, none⟩), .bool (q3 l).2] 128 := HB4
  replace E := E.step k24 (by intro i hi he; (try dsimp only [NoK] at hi he ⊢); first | exact he.elim | omega | exact he)
  replace HB2 := HB2.keep k24 (by intro h; (try dsimp only at h); first | omega)
  replace HB5 := HB5.keep k24 (by intro h; (try dsimp only at h); first | omega)
  refine l_v (v_fieldAddr (off := 2) (ft := 3) (by kernel_rfl) rfl) ?_
  refine l_to (to_store rfl rfl (show _ = (Value.int _ _) from rfl) rfl (by kernel_rfl) HB5 (by first | exact of_decide_eq_true rfl | (simp; done) | decide) ?_)
  rintro w103 HX103 k103 z103
  have zs_k103 := k103.size
  replace E := E.step k103 (by intro i hi he; (try dsimp only [NoK] at hi he ⊢); first | exact he.elim | omega | exact he)
  replace HB2 := HB2.keep k103 (by intro h; (try dsimp only at h); first | omega)
  replace HB4 := HB4.keep k103 (by intro h; (try dsimp only at h); first | omega)
  replace HR := HR.keep k103 (by intro h; have h := h; (try dsimp only [NoK] at h); first | exact h | omega | (rcases h with h | h <;> omega)) (by intro i hi he; have hi0 := hi; have hi := hi; have he := he; (try dsimp only [NoK] at hi he); first | exact he.elim | omega | (have := hF i hi0; omega))
  replace HB5 := HX103
  clear HX103
  try simp only [List.set_cons_zero, List.set_cons_succ, setAt, List.take_zero, List.take_succ_cons, List.drop_zero, List.drop_succ_cons, List.nil_append, List.cons_append, List.append_nil, List.length_cons, List.length_nil, Nat.zero_add, Nat.reduceAdd, List.drop_nil] at HB5
  refine l_nil ?_
  refine n_then ?_
  refine c_seq ?_
  refine wp_reg (by decide +kernel) ?_
  refine l_v (v_move (t := .pointer _) rfl) ?_
  refine l_to (to_f2 (by kernel_rfl) (show _ = (Value.pointer _) from rfl) (show _ = (Value.int _ _) from rfl) (CallsR.mono (refnum_c (most := 5) HB4 HR hF hx (by decide)) ?_))
  rintro _ w26 ⟨rfl, ⟨HB4, HR⟩, k26⟩
  have zs_k26 := k26.size
  replace HR : Rf w26 b3 (fun k => k < w.heap.size) (q4 l).1 := HR
  replace HB4 : Blk w26 b4 [.pointer (some ⟨b3, 0, none⟩), .bool (q4 l).2] 128 := HB4
  replace E := E.step k26 (by intro i hi he; (try dsimp only [NoK] at hi he ⊢); first | exact he.elim | omega | exact he)
  replace HB2 := HB2.keep k26 (by intro h; (try dsimp only at h); first | omega)
  replace HB5 := HB5.keep k26 (by intro h; (try dsimp only at h); first | omega)
  refine l_v (v_fieldAddr (off := 3) (ft := 3) (by kernel_rfl) rfl) ?_
  refine l_to (to_store rfl rfl (show _ = (Value.int _ _) from rfl) rfl (by kernel_rfl) HB5 (by first | exact of_decide_eq_true rfl | (simp; done) | decide) ?_)
  rintro w104 HX104 k104 z104
  have zs_k104 := k104.size
  replace E := E.step k104 (by intro i hi he; (try dsimp only [NoK] at hi he ⊢); first | exact he.elim | omega | exact he)
  replace HB2 := HB2.keep k104 (by intro h; (try dsimp only at h); first | omega)
  replace HB4 := HB4.keep k104 (by intro h; (try dsimp only at h); first | omega)
  replace HR := HR.keep k104 (by intro h; have h := h; (try dsimp only [NoK] at h); first | exact h | omega | (rcases h with h | h <;> omega)) (by intro i hi he; have hi0 := hi; have hi := hi; have he := he; (try dsimp only [NoK] at hi he); first | exact he.elim | omega | (have := hF i hi0; omega))
  replace HB5 := HX104
  clear HX104
  try simp only [List.set_cons_zero, List.set_cons_succ, setAt, List.take_zero, List.take_succ_cons, List.drop_zero, List.drop_succ_cons, List.nil_append, List.cons_append, List.append_nil, List.length_cons, List.length_nil, Nat.zero_add, Nat.reduceAdd, List.drop_nil] at HB5
  refine l_nil ?_
  refine n_then ?_
  refine c_seq ?_
  refine wp_reg (by decide +kernel) ?_
  refine l_v (v_move (t := .pointer _) rfl) ?_
  refine l_to (to_f2 (by kernel_rfl) (show _ = (Value.pointer _) from rfl) (show _ = (Value.int _ _) from rfl) (CallsR.mono (refnum_c (most := 2147483647) HB4 HR hF hx (by decide)) ?_))
  rintro _ w28 ⟨rfl, ⟨HB4, HR⟩, k28⟩
  have zs_k28 := k28.size
  replace HR : Rf w28 b3 (fun k => k < w.heap.size) (q5 l).1 := HR
  replace HB4 : Blk w28 b4 [.pointer (some ⟨b3, 0, none⟩), .bool (q5 l).2] 128 := HB4
  replace E := E.step k28 (by intro i hi he; (try dsimp only [NoK] at hi he ⊢); first | exact he.elim | omega | exact he)
  replace HB2 := HB2.keep k28 (by intro h; (try dsimp only at h); first | omega)
  replace HB5 := HB5.keep k28 (by intro h; (try dsimp only at h); first | omega)
  refine l_v (v_fieldAddr (off := 4) (ft := 2) (by kernel_rfl) rfl) ?_
  refine l_to (to_store rfl rfl (show _ = (Value.int _ _) from rfl) rfl (by kernel_rfl) HB5 (by first | exact of_decide_eq_true rfl | (simp; done) | decide) ?_)
  rintro w105 HX105 k105 z105
  have zs_k105 := k105.size
  replace E := E.step k105 (by intro i hi he; (try dsimp only [NoK] at hi he ⊢); first | exact he.elim | omega | exact he)
  replace HB2 := HB2.keep k105 (by intro h; (try dsimp only at h); first | omega)
  replace HB4 := HB4.keep k105 (by intro h; (try dsimp only at h); first | omega)
  replace HR := HR.keep k105 (by intro h; have h := h; (try dsimp only [NoK] at h); first | exact h | omega | (rcases h with h | h <;> omega)) (by intro i hi he; have hi0 := hi; have hi := hi; have he := he; (try dsimp only [NoK] at hi he); first | exact he.elim | omega | (have := hF i hi0; omega))
  replace HB5 := HX105
  clear HX105
  try simp only [List.set_cons_zero, List.set_cons_succ, setAt, List.take_zero, List.take_succ_cons, List.drop_zero, List.drop_succ_cons, List.nil_append, List.cons_append, List.append_nil, List.length_cons, List.length_nil, Nat.zero_add, Nat.reduceAdd, List.drop_nil] at HB5
  refine l_nil ?_
  refine n_then ?_
  refine c_seq ?_
  refine c_seq ?_
  refine wp_reg (by decide +kernel) ?_
  refine l_v (v_fieldAddr (off := 0) (ft := 22) (by kernel_rfl) rfl) ?_
  refine l_v (v_load (by kernel_rfl) rfl (by first | exact HB4.pv 0 _ rfl | exact HB5.pv 0 _ rfl | exact HB2.pv 0 _ rfl | assumption)) ?_
  refine l_nil ?_
  refine n_then ?_
  refine c_block ?_
  refine c_seq ?_
  refine wp_reg (by decide +kernel) ?_
  refine l_v (v_eql rfl rfl) ?_
  refine l_v (v_assign (t := .bool _) rfl) ?_
  refine l_nil ?_
  refine n_then ?_
  refine c_cond rfl rfl (fun h1 => ?_) (fun h1 => ?_)
  · skip
    have h1 : qV l = 1 := dtrue h1
    refine c_seq ?_
    refine wp_reg (by decide +kernel) ?_
    refine l_v (v_move (t := .pointer _) rfl) ?_
    refine l_to (to_f2 (by kernel_rfl) (show _ = (Value.pointer _) from rfl) (show _ = (Value.int _ _) from rfl) (CallsR.mono (refnum_c (most := 2147483647) HB4 HR hF hx (by decide)) ?_))
    rintro _ w30 ⟨rfl, ⟨HB4, HR⟩, k30⟩
    have zs_k30 := k30.size
    replace HR : Rf w30 b3 (fun k => k < w.heap.size) (q6 l).1 := HR
    replace HB4 : Blk w30 b4 [.pointer (some ⟨b3, 0, none⟩), .bool (q6 l).2] 128 := HB4
    replace E := E.step k30 (by intro i hi he; (try dsimp only [NoK] at hi he ⊢); first | exact he.elim | omega | exact he)
    replace HB2 := HB2.keep k30 (by intro h; (try dsimp only at h); first | omega)
    replace HB5 := HB5.keep k30 (by intro h; (try dsimp only at h); first | omega)
    refine l_v (v_fieldAddr (off := 5) (ft := 2) (by kernel_rfl) rfl) ?_
    refine l_to (to_store rfl rfl (show _ = (Value.int _ _) from rfl) rfl (by kernel_rfl) HB5 (by first | exact of_decide_eq_true rfl | (simp; done) | decide) ?_)
    rintro w106 HX106 k106 z106
    have zs_k106 := k106.size
    replace E := E.step k106 (by intro i hi he; (try dsimp only [NoK] at hi he ⊢); first | exact he.elim | omega | exact he)
    replace HB2 := HB2.keep k106 (by intro h; (try dsimp only at h); first | omega)
    replace HB4 := HB4.keep k106 (by intro h; (try dsimp only at h); first | omega)
    replace HR := HR.keep k106 (by intro h; have h := h; (try dsimp only [NoK] at h); first | exact h | omega | (rcases h with h | h <;> omega)) (by intro i hi he; have hi0 := hi; have hi := hi; have he := he; (try dsimp only [NoK] at hi he); first | exact he.elim | omega | (have := hF i hi0; omega))
    replace HB5 := HX106
    clear HX106
    try simp only [List.set_cons_zero, List.set_cons_succ, setAt, List.take_zero, List.take_succ_cons, List.drop_zero, List.drop_succ_cons, List.nil_append, List.cons_append, List.append_nil, List.length_cons, List.length_nil, Nat.zero_add, Nat.reduceAdd, List.drop_nil] at HB5
    refine l_nil ?_
    refine n_then ?_
    refine wp_reg (by decide +kernel) ?_
    refine l_v (v_move (t := .pointer _) rfl) ?_
    refine l_to (to_f2 (by kernel_rfl) (show _ = (Value.pointer _) from rfl) (show _ = (Value.int _ _) from rfl) (CallsR.mono (refnum_c (most := 2147483647) HB4 HR hF hx (by decide)) ?_))
    rintro _ w32 ⟨rfl, ⟨HB4, HR⟩, k32⟩
    have zs_k32 := k32.size
    replace HR : Rf w32 b3 (fun k => k < w.heap.size) (q7 l).1 := HR
    replace HB4 : Blk w32 b4 [.pointer (some ⟨b3, 0, none⟩), .bool (q7 l).2] 128 := HB4
    replace E := E.step k32 (by intro i hi he; (try dsimp only [NoK] at hi he ⊢); first | exact he.elim | omega | exact he)
    replace HB2 := HB2.keep k32 (by intro h; (try dsimp only at h); first | omega)
    replace HB5 := HB5.keep k32 (by intro h; (try dsimp only at h); first | omega)
    have hwm : ({ hdM l with idx := qV (q5 l).1, lt := qV (q6 l).1 }).Wf := ⟨qV_wf _, qV_wf _, qV_wf _, qV_wf _, qV_wf _, qV_wf _, qV_wf _, i64_0⟩
    refine l_v (v_fieldAddr (off := 6) (ft := 2) (by kernel_rfl) rfl) ?_
    refine l_to (to_store rfl rfl (show _ = (Value.int _ _) from rfl) rfl (by kernel_rfl) HB5 (by first | exact of_decide_eq_true rfl | (simp; done) | decide) ?_)
    rintro w107 HX107 k107 z107
    have zs_k107 := k107.size
    replace E := E.step k107 (by intro i hi he; (try dsimp only [NoK] at hi he ⊢); first | exact he.elim | omega | exact he)
    replace HB2 := HB2.keep k107 (by intro h; (try dsimp only at h); first | omega)
    replace HB4 := HB4.keep k107 (by intro h; (try dsimp only at h); first | omega)
    replace HR := HR.keep k107 (by intro h; have h := h; (try dsimp only [NoK] at h); first | exact h | omega | (rcases h with h | h <;> omega)) (by intro i hi he; have hi0 := hi; have hi := hi; have he := he; (try dsimp only [NoK] at hi he); first | exact he.elim | omega | (have := hF i hi0; omega))
    replace HB5 := HX107
    clear HX107
    try simp only [List.set_cons_zero, List.set_cons_succ, setAt, List.take_zero, List.take_succ_cons, List.drop_zero, List.drop_succ_cons, List.nil_append, List.cons_append, List.append_nil, List.length_cons, List.length_nil, Nat.zero_add, Nat.reduceAdd, List.drop_nil] at HB5
    refine l_nil ?_
    refine n_blk ?_
    refine n_then ?_
    refine c_seq ?_
    refine c_seq ?_
    refine wp_reg (by decide +kernel) ?_
    refine l_v (v_move (t := .pointer _) rfl) ?_
    refine l_v (v_nilCheck rfl) ?_
    refine l_v (v_fieldAddr (off := 1) (ft := 4) (by kernel_rfl) rfl) ?_
    refine l_v (v_load (by kernel_rfl) rfl (by first | exact HB4.pv 1 _ rfl | exact HB5.pv 1 _ rfl | exact HB2.pv 1 _ rfl | assumption)) ?_
    refine l_v (v_not rfl) ?_
    refine l_v (v_move (t := .bool _) rfl) ?_
    refine l_g1 rfl rfl (fun hG => v_move (t := .pointer _) rfl) ?_
    refine l_g1 rfl rfl (fun hG => v_nilCheck (gd hG rfl)) ?_
    refine l_g1 rfl rfl (fun hG => v_fieldAddr (off := 0) (ft := 124) (by kernel_rfl) (gd hG rfl)) ?_
    refine l_g1 rfl rfl (fun hG => v_load (by kernel_rfl) (gd hG rfl) (by first | exact HB4.pv 0 _ rfl | exact HB5.pv 0 _ rfl | exact HB2.pv 0 _ rfl | assumption)) ?_
    refine l_g1f rfl rfl (fun hG => to_f1 (by kernel_rfl) (gd hG rfl) (refLeft_c HR)) ?_
    rintro w108 e108
    have zs_e108 := e108.size
    replace E := E.trans (Ext.keep e108)
    replace HB2 := HB2.ext e108
    replace HB5 := HB5.ext e108
    replace HB4 := HB4.ext e108
    replace HR := HR.ext e108
    refine l_g1 rfl rfl (fun hG => v_gtr (gd hG rfl) rfl) ?_
    refine l_v (v_or rfl rfl) ?_
    refine l_v (v_move (t := .bool _) rfl) ?_
    refine l_g1 rfl rfl (fun hG => v_loadA (by kernel_rfl) rfl (by first | exact HB4.pv | exact HB5.pv | exact HB2.pv | assumption) rfl) ?_
    refine l_g1f rfl rfl (fun hG => to_f1 (by kernel_rfl) (gd hG rfl) (refMay_c (AgV.mkMs (m := { hdM l with idx := qV (q5 l).1, lt := qV (q6 l).1 }) (SlV.nil tEn _ NoK) (SlV.nil tU8 _ NoK) hwm))) ?_
    rintro w109 e109
    have zs_e109 := e109.size
    replace E := E.trans (Ext.keep e109)
    replace HB2 := HB2.ext e109
    replace HB5 := HB5.ext e109
    replace HB4 := HB4.ext e109
    replace HR := HR.ext e109
    refine l_g1 rfl rfl (fun hG => v_not (gd hG rfl)) ?_
    refine l_v (v_or rfl rfl) ?_
    refine l_nil ?_
    refine n_then ?_
    refine c_cond rfl rfl (fun hz => ?_) (fun hz => ?_)
    · skip
      refine c_seq ?_
      refine wp_reg (by decide +kernel) ?_
      refine l_v (v_build (pl := [(0, 1), (1, 1), (2, 1), (3, 1), (4, 1), (5, 1), (6, 1), (7, 1), (8, 1), (9, 1), (10, 1)]) (z := .agg #[.int .i64 0, .int .i64 0, .int .i64 0, .int .i64 0, .int .i64 0, .int .i64 0, .int .i64 0, .int .i64 0, .slice none 0 0, .bool false, .slice none 0 0]) (zl := [.int .i64 0, .int .i64 0, .int .i64 0, .int .i64 0, .int .i64 0, .int .i64 0, .int .i64 0, .int .i64 0, .slice none 0 0, .bool false, .slice none 0 0]) (by kernel_rfl) (by unfold kZero; kernel_rfl) rfl rfl (cells := [_, _, _, _, _, _, _, _, _, _, _]) rfl) ?_
      refine l_to (to_storeA (n := 11) rfl rfl (show _ = (Value.agg _) from rfl) (by kernel_rfl) rfl (by first | (simp [slice_one]; done) | (simp only [List.forall_mem_cons, List.cons_append, List.nil_append]; repeat' (first | exact rfl | apply And.intro | (intro u hu; cases hu; done)))) HB2 (by first | exact of_decide_eq_true rfl | (simp; done) | decide) ?_)
      rintro w110 HX110 k110 z110
      have zs_k110 := k110.size
      replace E := E.step k110 (by intro i hi he; (try dsimp only [NoK] at hi he ⊢); first | exact he.elim | omega | exact he)
      replace HB5 := HB5.keep k110 (by intro h; (try dsimp only at h); first | omega)
      replace HB4 := HB4.keep k110 (by intro h; (try dsimp only at h); first | omega)
      replace HR := HR.keep k110 (by intro h; have h := h; (try dsimp only [NoK] at h); first | exact h | omega | (rcases h with h | h <;> omega)) (by intro i hi he; have hi0 := hi; have hi := hi; have he := he; (try dsimp only [NoK] at hi he); first | exact he.elim | omega | (have := hF i hi0; omega))
      replace HB2 := HX110
      clear HX110
      try simp only [List.set_cons_zero, List.set_cons_succ, setAt, List.take_zero, List.take_succ_cons, List.drop_zero, List.drop_succ_cons, List.nil_append, List.cons_append, List.append_nil, List.length_cons, List.length_nil, Nat.zero_add, Nat.reduceAdd, List.drop_nil] at HB2
      refine l_v (v_assign rfl) ?_
      refine l_nil ?_
      refine n_then ?_
      refine c_ret ?_
      refine r_then ?_
      refine ret2cv (n := 11) rfl (by decide) (by decide) rfl (by kernel_rfl) HB2.pv rfl (show _ = (Value.int _ _) from rfl) ?_
      have hn : ¬ ((q7 l).2 = true ∧ (q7 l).1 = [] ∧ mayN ({ hdM l with idx := qV (q5 l).1, lt := qV (q6 l).1 }) = true) := by
        rintro ⟨h1, h2, h3⟩
        rw [h1, h2, h3] at hz; simp at hz
      rw [kN1 h1, if_neg hn]
      exact ⟨⟨_, rfl, zero_ag⟩, E⟩
    · skip
      refine c_skip ?_
      refine n_then ?_
      refine c_seq ?_
      refine wp_reg (by decide +kernel) ?_
      refine l_v (v_loadA (by kernel_rfl) rfl (by first | exact HB4.pv | exact HB5.pv | exact HB2.pv | assumption) rfl) ?_
      refine l_to (to_storeA (n := 11) rfl rfl (show _ = (Value.agg _) from rfl) (by kernel_rfl) rfl (by first | (simp [slice_one]; done) | (simp only [List.forall_mem_cons, List.cons_append, List.nil_append]; repeat' (first | exact rfl | apply And.intro | (intro u hu; cases hu; done)))) HB2 (by first | exact of_decide_eq_true rfl | (simp; done) | decide) ?_)
      rintro w111 HX111 k111 z111
      have zs_k111 := k111.size
      replace E := E.step k111 (by intro i hi he; (try dsimp only [NoK] at hi he ⊢); first | exact he.elim | omega | exact he)
      replace HB5 := HB5.keep k111 (by intro h; (try dsimp only at h); first | omega)
      replace HB4 := HB4.keep k111 (by intro h; (try dsimp only at h); first | omega)
      replace HR := HR.keep k111 (by intro h; have h := h; (try dsimp only [NoK] at h); first | exact h | omega | (rcases h with h | h <;> omega)) (by intro i hi he; have hi0 := hi; have hi := hi; have he := he; (try dsimp only [NoK] at hi he); first | exact he.elim | omega | (have := hF i hi0; omega))
      replace HB2 := HX111
      clear HX111
      try simp only [List.set_cons_zero, List.set_cons_succ, setAt, List.take_zero, List.take_succ_cons, List.drop_zero, List.drop_succ_cons, List.nil_append, List.cons_append, List.append_nil, List.length_cons, List.length_nil, Nat.zero_add, Nat.reduceAdd, List.drop_nil] at HB2
      refine l_v (v_assign rfl) ?_
      refine l_nil ?_
      refine n_then ?_
      refine c_ret ?_
      refine ret2cv (n := 11) rfl (by decide) (by decide) rfl (by kernel_rfl) HB2.pv rfl (show _ = (Value.int _ _) from rfl) ?_
      have hn : (q7 l).2 = true ∧ (q7 l).1 = [] ∧ mayN ({ hdM l with idx := qV (q5 l).1, lt := qV (q6 l).1 }) = true := by
        simp only [Bool.or_eq_false_iff, Bool.not_eq_false', decide_eq_false_iff_not] at hz
        refine ⟨hz.1.1, ?_, hz.2⟩
        exact List.eq_nil_of_length_eq_zero (by have := hz.1.2; omega)
      rw [kN1 h1, if_pos hn]
      exact ⟨⟨_, rfl, AgV.mkMs (m := { hdM l with idx := qV (q5 l).1, lt := qV (q6 l).1 }) ((SlV.nil tEn _ NoK).mono fun _ _ _ => trivial) ((SlV.nil tU8 _ NoK).mono fun _ _ _ => trivial) hwm⟩, E⟩
  · skip
    have h1 := dfalse h1
    refine c_seq ?_
    refine wp_reg (by decide +kernel) ?_
    refine l_v (v_eql rfl rfl) ?_
    refine l_v (v_assign (t := .bool _) rfl) ?_
    refine l_nil ?_
    refine n_then ?_
    refine c_cond rfl rfl (fun h2 => ?_) (fun h2 => ?_)
    · skip
      have h2 : qV l = 2 := dtrue h2
      refine wp_reg (by decide +kernel) ?_
      refine l_v (v_move (t := .pointer _) rfl) ?_
      refine l_to (to_f1 (by kernel_rfl) (show _ = (Value.pointer _) from rfl) (CallsR.mono (refrflag_c HB4 HR hF hx) ?_))
      rintro _ w34 ⟨rfl, ⟨HB4, HR⟩, k34⟩
      have zs_k34 := k34.size
      replace HR : Rf w34 b3 (fun k => k < w.heap.size) (qFS (q5 l)).1 := HR
      replace HB4 : Blk w34 b4 [.pointer (some ⟨b3, 0, none⟩), .bool (qFS (q5 l)).2] 128 := HB4
      replace E := E.step k34 (by intro i hi he; (try dsimp only [NoK] at hi he ⊢); first | exact he.elim | omega | exact he)
      replace HB2 := HB2.keep k34 (by intro h; (try dsimp only at h); first | omega)
      replace HB5 := HB5.keep k34 (by intro h; (try dsimp only at h); first | omega)
      have hwm : ({ hdM l with ok := qFV (q5 l).1 }).Wf := ⟨qV_wf _, qV_wf _, qV_wf _, qV_wf _, qV_wf _, i64_0, i64_0, i64_0⟩
      refine l_v (v_fieldAddr (off := 9) (ft := 4) (by kernel_rfl) rfl) ?_
      refine l_to (to_store rfl rfl (show _ = (Value.bool _) from rfl) rfl (by kernel_rfl) HB5 (by first | exact of_decide_eq_true rfl | (simp; done) | decide) ?_)
      rintro w112 HX112 k112 z112
      have zs_k112 := k112.size
      replace E := E.step k112 (by intro i hi he; (try dsimp only [NoK] at hi he ⊢); first | exact he.elim | omega | exact he)
      replace HB2 := HB2.keep k112 (by intro h; (try dsimp only at h); first | omega)
      replace HB4 := HB4.keep k112 (by intro h; (try dsimp only at h); first | omega)
      replace HR := HR.keep k112 (by intro h; have h := h; (try dsimp only [NoK] at h); first | exact h | omega | (rcases h with h | h <;> omega)) (by intro i hi he; have hi0 := hi; have hi := hi; have he := he; (try dsimp only [NoK] at hi he); first | exact he.elim | omega | (have := hF i hi0; omega))
      replace HB5 := HX112
      clear HX112
      try simp only [List.set_cons_zero, List.set_cons_succ, setAt, List.take_zero, List.take_succ_cons, List.drop_zero, List.drop_succ_cons, List.nil_append, List.cons_append, List.append_nil, List.length_cons, List.length_nil, Nat.zero_add, Nat.reduceAdd, List.drop_nil] at HB5
      refine l_nil ?_
      refine n_blk ?_
      refine n_then ?_
      refine c_seq ?_
      refine c_seq ?_
      refine wp_reg (by decide +kernel) ?_
      refine l_v (v_move (t := .pointer _) rfl) ?_
      refine l_v (v_nilCheck rfl) ?_
      refine l_v (v_fieldAddr (off := 1) (ft := 4) (by kernel_rfl) rfl) ?_
      refine l_v (v_load (by kernel_rfl) rfl (by first | exact HB4.pv 1 _ rfl | exact HB5.pv 1 _ rfl | exact HB2.pv 1 _ rfl | assumption)) ?_
      refine l_v (v_not rfl) ?_
      refine l_v (v_move (t := .bool _) rfl) ?_
      refine l_g1 rfl rfl (fun hG => v_move (t := .pointer _) rfl) ?_
      refine l_g1 rfl rfl (fun hG => v_nilCheck (gd hG rfl)) ?_
      refine l_g1 rfl rfl (fun hG => v_fieldAddr (off := 0) (ft := 124) (by kernel_rfl) (gd hG rfl)) ?_
      refine l_g1 rfl rfl (fun hG => v_load (by kernel_rfl) (gd hG rfl) (by first | exact HB4.pv 0 _ rfl | exact HB5.pv 0 _ rfl | exact HB2.pv 0 _ rfl | assumption)) ?_
      refine l_g1f rfl rfl (fun hG => to_f1 (by kernel_rfl) (gd hG rfl) (refLeft_c HR)) ?_
      rintro w113 e113
      have zs_e113 := e113.size
      replace E := E.trans (Ext.keep e113)
      replace HB2 := HB2.ext e113
      replace HB5 := HB5.ext e113
      replace HB4 := HB4.ext e113
      replace HR := HR.ext e113
      refine l_g1 rfl rfl (fun hG => v_gtr (gd hG rfl) rfl) ?_
      refine l_v (v_or rfl rfl) ?_
      refine l_v (v_move (t := .bool _) rfl) ?_
      refine l_g1 rfl rfl (fun hG => v_loadA (by kernel_rfl) rfl (by first | exact HB4.pv | exact HB5.pv | exact HB2.pv | assumption) rfl) ?_
      refine l_g1f rfl rfl (fun hG => to_f1 (by kernel_rfl) (gd hG rfl) (refMay_c (AgV.mkMs (m := { hdM l with ok := qFV (q5 l).1 }) (SlV.nil tEn _ NoK) (SlV.nil tU8 _ NoK) hwm))) ?_
      rintro w114 e114
      have zs_e114 := e114.size
      replace E := E.trans (Ext.keep e114)
      replace HB2 := HB2.ext e114
      replace HB5 := HB5.ext e114
      replace HB4 := HB4.ext e114
      replace HR := HR.ext e114
      refine l_g1 rfl rfl (fun hG => v_not (gd hG rfl)) ?_
      refine l_v (v_or rfl rfl) ?_
      refine l_nil ?_
      refine n_then ?_
      refine c_cond rfl rfl (fun hz => ?_) (fun hz => ?_)
      · skip
        refine c_seq ?_
        refine wp_reg (by decide +kernel) ?_
        refine l_v (v_build (pl := [(0, 1), (1, 1), (2, 1), (3, 1), (4, 1), (5, 1), (6, 1), (7, 1), (8, 1), (9, 1), (10, 1)]) (z := .agg #[.int .i64 0, .int .i64 0, .int .i64 0, .int .i64 0, .int .i64 0, .int .i64 0, .int .i64 0, .int .i64 0, .slice none 0 0, .bool false, .slice none 0 0]) (zl := [.int .i64 0, .int .i64 0, .int .i64 0, .int .i64 0, .int .i64 0, .int .i64 0, .int .i64 0, .int .i64 0, .slice none 0 0, .bool false, .slice none 0 0]) (by kernel_rfl) (by unfold kZero; kernel_rfl) rfl rfl (cells := [_, _, _, _, _, _, _, _, _, _, _]) rfl) ?_
        refine l_to (to_storeA (n := 11) rfl rfl (show _ = (Value.agg _) from rfl) (by kernel_rfl) rfl (by first | (simp [slice_one]; done) | (simp only [List.forall_mem_cons, List.cons_append, List.nil_append]; repeat' (first | exact rfl | apply And.intro | (intro u hu; cases hu; done)))) HB2 (by first | exact of_decide_eq_true rfl | (simp; done) | decide) ?_)
        rintro w115 HX115 k115 z115
        have zs_k115 := k115.size
        replace E := E.step k115 (by intro i hi he; (try dsimp only [NoK] at hi he ⊢); first | exact he.elim | omega | exact he)
        replace HB5 := HB5.keep k115 (by intro h; (try dsimp only at h); first | omega)
        replace HB4 := HB4.keep k115 (by intro h; (try dsimp only at h); first | omega)
        replace HR := HR.keep k115 (by intro h; have h := h; (try dsimp only [NoK] at h); first | exact h | omega | (rcases h with h | h <;> omega)) (by intro i hi he; have hi0 := hi; have hi := hi; have he := he; (try dsimp only [NoK] at hi he); first | exact he.elim | omega | (have := hF i hi0; omega))
        replace HB2 := HX115
        clear HX115
        try simp only [List.set_cons_zero, List.set_cons_succ, setAt, List.take_zero, List.take_succ_cons, List.drop_zero, List.drop_succ_cons, List.nil_append, List.cons_append, List.append_nil, List.length_cons, List.length_nil, Nat.zero_add, Nat.reduceAdd, List.drop_nil] at HB2
        refine l_v (v_assign rfl) ?_
        refine l_nil ?_
        refine n_then ?_
        refine c_ret ?_
        refine r_then ?_
        refine ret2cv (n := 11) rfl (by decide) (by decide) rfl (by kernel_rfl) HB2.pv rfl (show _ = (Value.int _ _) from rfl) ?_
        have hn : ¬ ((qFS (q5 l)).2 = true ∧ (qFS (q5 l)).1 = [] ∧ mayN ({ hdM l with ok := qFV (q5 l).1 }) = true) := by
          rintro ⟨h1, h2, h3⟩
          rw [h1, h2, h3] at hz; simp at hz
        rw [kN2 h2, if_neg hn]
        exact ⟨⟨_, rfl, zero_ag⟩, E⟩
      · skip
        refine c_skip ?_
        refine n_then ?_
        refine c_seq ?_
        refine wp_reg (by decide +kernel) ?_
        refine l_v (v_loadA (by kernel_rfl) rfl (by first | exact HB4.pv | exact HB5.pv | exact HB2.pv | assumption) rfl) ?_
        refine l_to (to_storeA (n := 11) rfl rfl (show _ = (Value.agg _) from rfl) (by kernel_rfl) rfl (by first | (simp [slice_one]; done) | (simp only [List.forall_mem_cons, List.cons_append, List.nil_append]; repeat' (first | exact rfl | apply And.intro | (intro u hu; cases hu; done)))) HB2 (by first | exact of_decide_eq_true rfl | (simp; done) | decide) ?_)
        rintro w116 HX116 k116 z116
        have zs_k116 := k116.size
        replace E := E.step k116 (by intro i hi he; (try dsimp only [NoK] at hi he ⊢); first | exact he.elim | omega | exact he)
        replace HB5 := HB5.keep k116 (by intro h; (try dsimp only at h); first | omega)
        replace HB4 := HB4.keep k116 (by intro h; (try dsimp only at h); first | omega)
        replace HR := HR.keep k116 (by intro h; have h := h; (try dsimp only [NoK] at h); first | exact h | omega | (rcases h with h | h <;> omega)) (by intro i hi he; have hi0 := hi; have hi := hi; have he := he; (try dsimp only [NoK] at hi he); first | exact he.elim | omega | (have := hF i hi0; omega))
        replace HB2 := HX116
        clear HX116
        try simp only [List.set_cons_zero, List.set_cons_succ, setAt, List.take_zero, List.take_succ_cons, List.drop_zero, List.drop_succ_cons, List.nil_append, List.cons_append, List.append_nil, List.length_cons, List.length_nil, Nat.zero_add, Nat.reduceAdd, List.drop_nil] at HB2
        refine l_v (v_assign rfl) ?_
        refine l_nil ?_
        refine n_then ?_
        refine c_ret ?_
        refine ret2cv (n := 11) rfl (by decide) (by decide) rfl (by kernel_rfl) HB2.pv rfl (show _ = (Value.int _ _) from rfl) ?_
        have hn : (qFS (q5 l)).2 = true ∧ (qFS (q5 l)).1 = [] ∧ mayN ({ hdM l with ok := qFV (q5 l).1 }) = true := by
          simp only [Bool.or_eq_false_iff, Bool.not_eq_false', decide_eq_false_iff_not] at hz
          refine ⟨hz.1.1, ?_, hz.2⟩
          exact List.eq_nil_of_length_eq_zero (by have := hz.1.2; omega)
        rw [kN2 h2, if_pos hn]
        exact ⟨⟨_, rfl, AgV.mkMs (m := { hdM l with ok := qFV (q5 l).1 }) ((SlV.nil tEn _ NoK).mono fun _ _ _ => trivial) ((SlV.nil tU8 _ NoK).mono fun _ _ _ => trivial) hwm⟩, E⟩
    · skip
      have h2 := dfalse h2
      refine c_seq ?_
      refine wp_reg (by decide +kernel) ?_
      refine l_v (v_eql rfl rfl) ?_
      refine l_v (v_assign (t := .bool _) rfl) ?_
      refine l_nil ?_
      refine n_then ?_
      refine c_cond rfl rfl (fun h3 => ?_) (fun h3 => ?_)
      · skip
        have h3 : qV l = 3 := dtrue h3
        refine c_seq ?_
        refine wp_reg (by decide +kernel) ?_
        refine l_v (v_move (t := .pointer _) rfl) ?_
        refine l_to (to_f2 (by kernel_rfl) (show _ = (Value.pointer _) from rfl) (show _ = (Value.int _ _) from rfl) (CallsR.mono (refnum_c (most := 2147483647) HB4 HR hF hx (by decide)) ?_))
        rintro _ w36 ⟨rfl, ⟨HB4, HR⟩, k36⟩
        have zs_k36 := k36.size
        replace HR : Rf w36 b3 (fun k => k < w.heap.size) (q6 l).1 := HR
        replace HB4 : Blk w36 b4 [.pointer (some ⟨b3, 0, none⟩), .bool (q6 l).2] 128 := HB4
        replace E := E.step k36 (by intro i hi he; (try dsimp only [NoK] at hi he ⊢); first | exact he.elim | omega | exact he)
        replace HB2 := HB2.keep k36 (by intro h; (try dsimp only at h); first | omega)
        replace HB5 := HB5.keep k36 (by intro h; (try dsimp only at h); first | omega)
        refine l_v (v_fieldAddr (off := 5) (ft := 2) (by kernel_rfl) rfl) ?_
        refine l_to (to_store rfl rfl (show _ = (Value.int _ _) from rfl) rfl (by kernel_rfl) HB5 (by first | exact of_decide_eq_true rfl | (simp; done) | decide) ?_)
        rintro w117 HX117 k117 z117
        have zs_k117 := k117.size
        replace E := E.step k117 (by intro i hi he; (try dsimp only [NoK] at hi he ⊢); first | exact he.elim | omega | exact he)
        replace HB2 := HB2.keep k117 (by intro h; (try dsimp only at h); first | omega)
        replace HB4 := HB4.keep k117 (by intro h; (try dsimp only at h); first | omega)
        replace HR := HR.keep k117 (by intro h; have h := h; (try dsimp only [NoK] at h); first | exact h | omega | (rcases h with h | h <;> omega)) (by intro i hi he; have hi0 := hi; have hi := hi; have he := he; (try dsimp only [NoK] at hi he); first | exact he.elim | omega | (have := hF i hi0; omega))
        replace HB5 := HX117
        clear HX117
        try simp only [List.set_cons_zero, List.set_cons_succ, setAt, List.take_zero, List.take_succ_cons, List.drop_zero, List.drop_succ_cons, List.nil_append, List.cons_append, List.append_nil, List.length_cons, List.length_nil, Nat.zero_add, Nat.reduceAdd, List.drop_nil] at HB5
        refine l_nil ?_
        refine n_then ?_
        refine c_seq ?_
        refine wp_reg (by decide +kernel) ?_
        refine l_v (v_move (t := .pointer _) rfl) ?_
        refine l_to (to_f2 (by kernel_rfl) (show _ = (Value.pointer _) from rfl) (show _ = (Value.int _ _) from rfl) (CallsR.mono (refnum_c (most := 2147483647) HB4 HR hF hx (by decide)) ?_))
        rintro _ w38 ⟨rfl, ⟨HB4, HR⟩, k38⟩
        have zs_k38 := k38.size
        replace HR : Rf w38 b3 (fun k => k < w.heap.size) (q7 l).1 := HR
        replace HB4 : Blk w38 b4 [.pointer (some ⟨b3, 0, none⟩), .bool (q7 l).2] 128 := HB4
        replace E := E.step k38 (by intro i hi he; (try dsimp only [NoK] at hi he ⊢); first | exact he.elim | omega | exact he)
        replace HB2 := HB2.keep k38 (by intro h; (try dsimp only at h); first | omega)
        replace HB5 := HB5.keep k38 (by intro h; (try dsimp only at h); first | omega)
        refine l_v (v_fieldAddr (off := 6) (ft := 2) (by kernel_rfl) rfl) ?_
        refine l_to (to_store rfl rfl (show _ = (Value.int _ _) from rfl) rfl (by kernel_rfl) HB5 (by first | exact of_decide_eq_true rfl | (simp; done) | decide) ?_)
        rintro w118 HX118 k118 z118
        have zs_k118 := k118.size
        replace E := E.step k118 (by intro i hi he; (try dsimp only [NoK] at hi he ⊢); first | exact he.elim | omega | exact he)
        replace HB2 := HB2.keep k118 (by intro h; (try dsimp only at h); first | omega)
        replace HB4 := HB4.keep k118 (by intro h; (try dsimp only at h); first | omega)
        replace HR := HR.keep k118 (by intro h; have h := h; (try dsimp only [NoK] at h); first | exact h | omega | (rcases h with h | h <;> omega)) (by intro i hi he; have hi0 := hi; have hi := hi; have he := he; (try dsimp only [NoK] at hi he); first | exact he.elim | omega | (have := hF i hi0; omega))
        replace HB5 := HX118
        clear HX118
        try simp only [List.set_cons_zero, List.set_cons_succ, setAt, List.take_zero, List.take_succ_cons, List.drop_zero, List.drop_succ_cons, List.nil_append, List.cons_append, List.append_nil, List.length_cons, List.length_nil, Nat.zero_add, Nat.reduceAdd, List.drop_nil] at HB5
        refine l_nil ?_
        refine n_then ?_
        refine c_seq ?_
        refine wp_reg (by decide +kernel) ?_
        refine l_v (v_move (t := .pointer _) rfl) ?_
        refine l_to (to_f2 (by kernel_rfl) (show _ = (Value.pointer _) from rfl) (show _ = (Value.int _ _) from rfl) (CallsR.mono (refnum_c (most := 2147483647) HB4 HR hF hx (by decide)) ?_))
        rintro _ w40 ⟨rfl, ⟨HB4, HR⟩, k40⟩
        have zs_k40 := k40.size
        replace HR : Rf w40 b3 (fun k => k < w.heap.size) (q8 l).1 := HR
        replace HB4 : Blk w40 b4 [.pointer (some ⟨b3, 0, none⟩), .bool (q8 l).2] 128 := HB4
        replace E := E.step k40 (by intro i hi he; (try dsimp only [NoK] at hi he ⊢); first | exact he.elim | omega | exact he)
        replace HB2 := HB2.keep k40 (by intro h; (try dsimp only at h); first | omega)
        replace HB5 := HB5.keep k40 (by intro h; (try dsimp only at h); first | omega)
        refine l_v (v_fieldAddr (off := 7) (ft := 2) (by kernel_rfl) rfl) ?_
        refine l_to (to_store rfl rfl (show _ = (Value.int _ _) from rfl) rfl (by kernel_rfl) HB5 (by first | exact of_decide_eq_true rfl | (simp; done) | decide) ?_)
        rintro w119 HX119 k119 z119
        have zs_k119 := k119.size
        replace E := E.step k119 (by intro i hi he; (try dsimp only [NoK] at hi he ⊢); first | exact he.elim | omega | exact he)
        replace HB2 := HB2.keep k119 (by intro h; (try dsimp only at h); first | omega)
        replace HB4 := HB4.keep k119 (by intro h; (try dsimp only at h); first | omega)
        replace HR := HR.keep k119 (by intro h; have h := h; (try dsimp only [NoK] at h); first | exact h | omega | (rcases h with h | h <;> omega)) (by intro i hi he; have hi0 := hi; have hi := hi; have he := he; (try dsimp only [NoK] at hi he); first | exact he.elim | omega | (have := hF i hi0; omega))
        replace HB5 := HX119
        clear HX119
        try simp only [List.set_cons_zero, List.set_cons_succ, setAt, List.take_zero, List.take_succ_cons, List.drop_zero, List.drop_succ_cons, List.nil_append, List.cons_append, List.append_nil, List.length_cons, List.length_nil, Nat.zero_add, Nat.reduceAdd, List.drop_nil] at HB5
        refine l_nil ?_
        refine n_then ?_
        refine wp_reg (by decide +kernel) ?_
        refine l_v (v_move (t := .pointer _) rfl) ?_
        refine l_to (to_f1 (by kernel_rfl) (show _ = (Value.pointer _) from rfl) (CallsR.mono (refents_c HB4 HR hF hx (by have := hql; omega)) ?_))
        rintro _ w42 ⟨es, l7, ok7, ⟨HS7, ⟨HB4, HR⟩, hE7⟩, k42⟩
        have zs_k42 := k42.size
        obtain ⟨a7, c7, rfl⟩ := HS7.shape
        replace E := E.step k42 (by intro i hi he; (try dsimp only [NoK] at hi he ⊢); first | exact he.elim | omega | exact he)
        replace HB2 := HB2.keep k42 (by intro h; (try dsimp only at h); first | omega)
        replace HB5 := HB5.keep k42 (by intro h; (try dsimp only at h); first | omega)
        have hwm : ({ hdM l with idx := qV (q5 l).1, lt := qV (q6 l).1, com := qV (q7 l).1, ents := es }).Wf := ⟨qV_wf _, qV_wf _, qV_wf _, qV_wf _, qV_wf _, qV_wf _, qV_wf _, qV_wf _⟩
        refine l_v (v_fieldAddr (off := 8) (ft := 23) (by kernel_rfl) rfl) ?_
        refine l_to (to_store rfl rfl (show _ = (Value.slice _ _ _) from rfl) rfl (by kernel_rfl) HB5 (by first | exact of_decide_eq_true rfl | (simp; done) | decide) ?_)
        rintro w120 HX120 k120 z120
        have zs_k120 := k120.size
        replace E := E.step k120 (by intro i hi he; (try dsimp only [NoK] at hi he ⊢); first | exact he.elim | omega | exact he)
        replace HB2 := HB2.keep k120 (by intro h; (try dsimp only at h); first | omega)
        replace HS7 := HS7.keep k120 (by intro i _ hi he; (try dsimp only [NoK, AllB] at hi he); first | exact hi.elim | exact he.elim | omega | (rcases hi with hi | hi <;> omega) | (rcases he with he | he <;> omega))
        replace HB4 := HB4.keep k120 (by intro h; (try dsimp only at h); first | omega)
        replace HR := HR.keep k120 (by intro h; have h := h; (try dsimp only [NoK] at h); first | exact h | omega | (rcases h with h | h <;> omega)) (by intro i hi he; have hi0 := hi; have hi := hi; have he := he; (try dsimp only [NoK] at hi he); first | exact he.elim | omega | (have := hF i hi0; omega))
        replace HB5 := HX120
        clear HX120
        try simp only [List.set_cons_zero, List.set_cons_succ, setAt, List.take_zero, List.take_succ_cons, List.drop_zero, List.drop_succ_cons, List.nil_append, List.cons_append, List.append_nil, List.length_cons, List.length_nil, Nat.zero_add, Nat.reduceAdd, List.drop_nil] at HB5
        refine l_nil ?_
        refine n_blk ?_
        refine n_then ?_
        refine c_seq ?_
        refine c_seq ?_
        refine wp_reg (by decide +kernel) ?_
        refine l_v (v_move (t := .pointer _) rfl) ?_
        refine l_v (v_nilCheck rfl) ?_
        refine l_v (v_fieldAddr (off := 1) (ft := 4) (by kernel_rfl) rfl) ?_
        refine l_v (v_load (by kernel_rfl) rfl (by first | exact HB4.pv 1 _ rfl | exact HB5.pv 1 _ rfl | exact HB2.pv 1 _ rfl | assumption)) ?_
        refine l_v (v_not rfl) ?_
        refine l_v (v_move (t := .bool _) rfl) ?_
        refine l_g1 rfl rfl (fun hG => v_move (t := .pointer _) rfl) ?_
        refine l_g1 rfl rfl (fun hG => v_nilCheck (gd hG rfl)) ?_
        refine l_g1 rfl rfl (fun hG => v_fieldAddr (off := 0) (ft := 124) (by kernel_rfl) (gd hG rfl)) ?_
        refine l_g1 rfl rfl (fun hG => v_load (by kernel_rfl) (gd hG rfl) (by first | exact HB4.pv 0 _ rfl | exact HB5.pv 0 _ rfl | exact HB2.pv 0 _ rfl | assumption)) ?_
        refine l_g1f rfl rfl (fun hG => to_f1 (by kernel_rfl) (gd hG rfl) (refLeft_c HR)) ?_
        rintro w121 e121
        have zs_e121 := e121.size
        replace E := E.trans (Ext.keep e121)
        replace HB2 := HB2.ext e121
        replace HB5 := HB5.ext e121
        replace HS7 := HS7.ext e121
        replace HB4 := HB4.ext e121
        replace HR := HR.ext e121
        refine l_g1 rfl rfl (fun hG => v_gtr (gd hG rfl) rfl) ?_
        refine l_v (v_or rfl rfl) ?_
        refine l_v (v_move (t := .bool _) rfl) ?_
        refine l_g1 rfl rfl (fun hG => v_loadA (by kernel_rfl) rfl (by first | exact HB4.pv | exact HB5.pv | exact HB2.pv | assumption) rfl) ?_
        refine l_g1f rfl rfl (fun hG => to_f1 (by kernel_rfl) (gd hG rfl) (refMay_c (AgV.mkMs (m := { hdM l with idx := qV (q5 l).1, lt := qV (q6 l).1, com := qV (q7 l).1, ents := es }) (HS7) (SlV.nil _ _ _) hwm))) ?_
        rintro w122 e122
        have zs_e122 := e122.size
        replace E := E.trans (Ext.keep e122)
        replace HB2 := HB2.ext e122
        replace HB5 := HB5.ext e122
        replace HS7 := HS7.ext e122
        replace HB4 := HB4.ext e122
        replace HR := HR.ext e122
        refine l_g1 rfl rfl (fun hG => v_not (gd hG rfl)) ?_
        refine l_v (v_or rfl rfl) ?_
        refine l_nil ?_
        refine n_then ?_
        refine c_cond rfl rfl (fun hz => ?_) (fun hz => ?_)
        · skip
          refine c_seq ?_
          refine wp_reg (by decide +kernel) ?_
          refine l_v (v_build (pl := [(0, 1), (1, 1), (2, 1), (3, 1), (4, 1), (5, 1), (6, 1), (7, 1), (8, 1), (9, 1), (10, 1)]) (z := .agg #[.int .i64 0, .int .i64 0, .int .i64 0, .int .i64 0, .int .i64 0, .int .i64 0, .int .i64 0, .int .i64 0, .slice none 0 0, .bool false, .slice none 0 0]) (zl := [.int .i64 0, .int .i64 0, .int .i64 0, .int .i64 0, .int .i64 0, .int .i64 0, .int .i64 0, .int .i64 0, .slice none 0 0, .bool false, .slice none 0 0]) (by kernel_rfl) (by unfold kZero; kernel_rfl) rfl rfl (cells := [_, _, _, _, _, _, _, _, _, _, _]) rfl) ?_
          refine l_to (to_storeA (n := 11) rfl rfl (show _ = (Value.agg _) from rfl) (by kernel_rfl) rfl (by first | (simp [slice_one]; done) | (simp only [List.forall_mem_cons, List.cons_append, List.nil_append]; repeat' (first | exact rfl | apply And.intro | (intro u hu; cases hu; done)))) HB2 (by first | exact of_decide_eq_true rfl | (simp; done) | decide) ?_)
          rintro w123 HX123 k123 z123
          have zs_k123 := k123.size
          replace E := E.step k123 (by intro i hi he; (try dsimp only [NoK] at hi he ⊢); first | exact he.elim | omega | exact he)
          replace HB5 := HB5.keep k123 (by intro h; (try dsimp only at h); first | omega)
          replace HS7 := HS7.keep k123 (by intro i _ hi he; (try dsimp only [NoK, AllB] at hi he); first | exact hi.elim | exact he.elim | omega | (rcases hi with hi | hi <;> omega) | (rcases he with he | he <;> omega))
          replace HB4 := HB4.keep k123 (by intro h; (try dsimp only at h); first | omega)
          replace HR := HR.keep k123 (by intro h; have h := h; (try dsimp only [NoK] at h); first | exact h | omega | (rcases h with h | h <;> omega)) (by intro i hi he; have hi0 := hi; have hi := hi; have he := he; (try dsimp only [NoK] at hi he); first | exact he.elim | omega | (have := hF i hi0; omega))
          replace HB2 := HX123
          clear HX123
          try simp only [List.set_cons_zero, List.set_cons_succ, setAt, List.take_zero, List.take_succ_cons, List.drop_zero, List.drop_succ_cons, List.nil_append, List.cons_append, List.append_nil, List.length_cons, List.length_nil, Nat.zero_add, Nat.reduceAdd, List.drop_nil] at HB2
          refine l_v (v_assign rfl) ?_
          refine l_nil ?_
          refine n_then ?_
          refine c_ret ?_
          refine r_then ?_
          refine ret2cv (n := 11) rfl (by decide) (by decide) rfl (by kernel_rfl) HB2.pv rfl (show _ = (Value.int _ _) from rfl) ?_
          have hn : ¬ (ok7 = true ∧ l7 = [] ∧ mayN ({ hdM l with idx := qV (q5 l).1, lt := qV (q6 l).1, com := qV (q7 l).1, ents := es }) = true) := by
            rintro ⟨h1, h2, h3⟩
            rw [h1, h2, h3] at hz; simp at hz
          rw [kN3 (q := (l7, ok7)) h3 hE7, if_neg hn]
          exact ⟨⟨_, rfl, zero_ag⟩, E⟩
        · skip
          refine c_skip ?_
          refine n_then ?_
          refine c_seq ?_
          refine wp_reg (by decide +kernel) ?_
          refine l_v (v_loadA (by kernel_rfl) rfl (by first | exact HB4.pv | exact HB5.pv | exact HB2.pv | assumption) rfl) ?_
          refine l_to (to_storeA (n := 11) rfl rfl (show _ = (Value.agg _) from rfl) (by kernel_rfl) rfl (by first | (simp [slice_one]; done) | (simp only [List.forall_mem_cons, List.cons_append, List.nil_append]; repeat' (first | exact rfl | apply And.intro | (intro u hu; cases hu; done)))) HB2 (by first | exact of_decide_eq_true rfl | (simp; done) | decide) ?_)
          rintro w124 HX124 k124 z124
          have zs_k124 := k124.size
          replace E := E.step k124 (by intro i hi he; (try dsimp only [NoK] at hi he ⊢); first | exact he.elim | omega | exact he)
          replace HB5 := HB5.keep k124 (by intro h; (try dsimp only at h); first | omega)
          replace HS7 := HS7.keep k124 (by intro i _ hi he; (try dsimp only [NoK, AllB] at hi he); first | exact hi.elim | exact he.elim | omega | (rcases hi with hi | hi <;> omega) | (rcases he with he | he <;> omega))
          replace HB4 := HB4.keep k124 (by intro h; (try dsimp only at h); first | omega)
          replace HR := HR.keep k124 (by intro h; have h := h; (try dsimp only [NoK] at h); first | exact h | omega | (rcases h with h | h <;> omega)) (by intro i hi he; have hi0 := hi; have hi := hi; have he := he; (try dsimp only [NoK] at hi he); first | exact he.elim | omega | (have := hF i hi0; omega))
          replace HB2 := HX124
          clear HX124
          try simp only [List.set_cons_zero, List.set_cons_succ, setAt, List.take_zero, List.take_succ_cons, List.drop_zero, List.drop_succ_cons, List.nil_append, List.cons_append, List.append_nil, List.length_cons, List.length_nil, Nat.zero_add, Nat.reduceAdd, List.drop_nil] at HB2
          refine l_v (v_assign rfl) ?_
          refine l_nil ?_
          refine n_then ?_
          refine c_ret ?_
          refine ret2cv (n := 11) rfl (by decide) (by decide) rfl (by kernel_rfl) HB2.pv rfl (show _ = (Value.int _ _) from rfl) ?_
          have hn : ok7 = true ∧ l7 = [] ∧ mayN ({ hdM l with idx := qV (q5 l).1, lt := qV (q6 l).1, com := qV (q7 l).1, ents := es }) = true := by
            simp only [Bool.or_eq_false_iff, Bool.not_eq_false', decide_eq_false_iff_not] at hz
            refine ⟨hz.1.1, ?_, hz.2⟩
            exact List.eq_nil_of_length_eq_zero (by have := hz.1.2; omega)
          rw [kN3 (q := (l7, ok7)) h3 hE7, if_pos hn]
          exact ⟨⟨_, rfl, AgV.mkMs (m := { hdM l with idx := qV (q5 l).1, lt := qV (q6 l).1, com := qV (q7 l).1, ents := es }) ((HS7).mono fun _ _ _ => trivial) (SlV.nil _ _ _) hwm⟩, E⟩
      · skip
        have h3 := dfalse h3
        refine c_seq ?_
        refine wp_reg (by decide +kernel) ?_
        refine l_v (v_eql rfl rfl) ?_
        refine l_v (v_assign (t := .bool _) rfl) ?_
        refine l_nil ?_
        refine n_then ?_
        refine c_cond rfl rfl (fun h4 => ?_) (fun h4 => ?_)
        · skip
          have h4 : qV l = 4 := dtrue h4
          refine c_seq ?_
          refine wp_reg (by decide +kernel) ?_
          refine l_v (v_move (t := .pointer _) rfl) ?_
          refine l_to (to_f2 (by kernel_rfl) (show _ = (Value.pointer _) from rfl) (show _ = (Value.int _ _) from rfl) (CallsR.mono (refnum_c (most := 2147483647) HB4 HR hF hx (by decide)) ?_))
          rintro _ w44 ⟨rfl, ⟨HB4, HR⟩, k44⟩
          have zs_k44 := k44.size
          replace HR : Rf w44 b3 (fun k => k < w.heap.size) (q6 l).1 := HR
          replace HB4 : Blk w44 b4 [.pointer (some ⟨b3, 0, none⟩), .bool (q6 l).2] 128 := HB4
          replace E := E.step k44 (by intro i hi he; (try dsimp only [NoK] at hi he ⊢); first | exact he.elim | omega | exact he)
          replace HB2 := HB2.keep k44 (by intro h; (try dsimp only at h); first | omega)
          replace HB5 := HB5.keep k44 (by intro h; (try dsimp only at h); first | omega)
          refine l_v (v_fieldAddr (off := 5) (ft := 2) (by kernel_rfl) rfl) ?_
          refine l_to (to_store rfl rfl (show _ = (Value.int _ _) from rfl) rfl (by kernel_rfl) HB5 (by first | exact of_decide_eq_true rfl | (simp; done) | decide) ?_)
          rintro w125 HX125 k125 z125
          have zs_k125 := k125.size
          replace E := E.step k125 (by intro i hi he; (try dsimp only [NoK] at hi he ⊢); first | exact he.elim | omega | exact he)
          replace HB2 := HB2.keep k125 (by intro h; (try dsimp only at h); first | omega)
          replace HB4 := HB4.keep k125 (by intro h; (try dsimp only at h); first | omega)
          replace HR := HR.keep k125 (by intro h; have h := h; (try dsimp only [NoK] at h); first | exact h | omega | (rcases h with h | h <;> omega)) (by intro i hi he; have hi0 := hi; have hi := hi; have he := he; (try dsimp only [NoK] at hi he); first | exact he.elim | omega | (have := hF i hi0; omega))
          replace HB5 := HX125
          clear HX125
          try simp only [List.set_cons_zero, List.set_cons_succ, setAt, List.take_zero, List.take_succ_cons, List.drop_zero, List.drop_succ_cons, List.nil_append, List.cons_append, List.append_nil, List.length_cons, List.length_nil, Nat.zero_add, Nat.reduceAdd, List.drop_nil] at HB5
          refine l_nil ?_
          refine n_then ?_
          refine wp_reg (by decide +kernel) ?_
          refine l_v (v_move (t := .pointer _) rfl) ?_
          refine l_to (to_f1 (by kernel_rfl) (show _ = (Value.pointer _) from rfl) (CallsR.mono (refrflag_c HB4 HR hF hx) ?_))
          rintro _ w46 ⟨rfl, ⟨HB4, HR⟩, k46⟩
          have zs_k46 := k46.size
          replace HR : Rf w46 b3 (fun k => k < w.heap.size) (qFS (q6 l)).1 := HR
          replace HB4 : Blk w46 b4 [.pointer (some ⟨b3, 0, none⟩), .bool (qFS (q6 l)).2] 128 := HB4
          replace E := E.step k46 (by intro i hi he; (try dsimp only [NoK] at hi he ⊢); first | exact he.elim | omega | exact he)
          replace HB2 := HB2.keep k46 (by intro h; (try dsimp only at h); first | omega)
          replace HB5 := HB5.keep k46 (by intro h; (try dsimp only at h); first | omega)
          have hwm : ({ hdM l with idx := qV (q5 l).1, ok := qFV (q6 l).1 }).Wf := ⟨qV_wf _, qV_wf _, qV_wf _, qV_wf _, qV_wf _, qV_wf _, i64_0, i64_0⟩
          refine l_v (v_fieldAddr (off := 9) (ft := 4) (by kernel_rfl) rfl) ?_
          refine l_to (to_store rfl rfl (show _ = (Value.bool _) from rfl) rfl (by kernel_rfl) HB5 (by first | exact of_decide_eq_true rfl | (simp; done) | decide) ?_)
          rintro w126 HX126 k126 z126
          have zs_k126 := k126.size
          replace E := E.step k126 (by intro i hi he; (try dsimp only [NoK] at hi he ⊢); first | exact he.elim | omega | exact he)
          replace HB2 := HB2.keep k126 (by intro h; (try dsimp only at h); first | omega)
          replace HB4 := HB4.keep k126 (by intro h; (try dsimp only at h); first | omega)
          replace HR := HR.keep k126 (by intro h; have h := h; (try dsimp only [NoK] at h); first | exact h | omega | (rcases h with h | h <;> omega)) (by intro i hi he; have hi0 := hi; have hi := hi; have he := he; (try dsimp only [NoK] at hi he); first | exact he.elim | omega | (have := hF i hi0; omega))
          replace HB5 := HX126
          clear HX126
          try simp only [List.set_cons_zero, List.set_cons_succ, setAt, List.take_zero, List.take_succ_cons, List.drop_zero, List.drop_succ_cons, List.nil_append, List.cons_append, List.append_nil, List.length_cons, List.length_nil, Nat.zero_add, Nat.reduceAdd, List.drop_nil] at HB5
          refine l_nil ?_
          refine n_blk ?_
          refine n_then ?_
          refine c_seq ?_
          refine c_seq ?_
          refine wp_reg (by decide +kernel) ?_
          refine l_v (v_move (t := .pointer _) rfl) ?_
          refine l_v (v_nilCheck rfl) ?_
          refine l_v (v_fieldAddr (off := 1) (ft := 4) (by kernel_rfl) rfl) ?_
          refine l_v (v_load (by kernel_rfl) rfl (by first | exact HB4.pv 1 _ rfl | exact HB5.pv 1 _ rfl | exact HB2.pv 1 _ rfl | assumption)) ?_
          refine l_v (v_not rfl) ?_
          refine l_v (v_move (t := .bool _) rfl) ?_
          refine l_g1 rfl rfl (fun hG => v_move (t := .pointer _) rfl) ?_
          refine l_g1 rfl rfl (fun hG => v_nilCheck (gd hG rfl)) ?_
          refine l_g1 rfl rfl (fun hG => v_fieldAddr (off := 0) (ft := 124) (by kernel_rfl) (gd hG rfl)) ?_
          refine l_g1 rfl rfl (fun hG => v_load (by kernel_rfl) (gd hG rfl) (by first | exact HB4.pv 0 _ rfl | exact HB5.pv 0 _ rfl | exact HB2.pv 0 _ rfl | assumption)) ?_
          refine l_g1f rfl rfl (fun hG => to_f1 (by kernel_rfl) (gd hG rfl) (refLeft_c HR)) ?_
          rintro w127 e127
          have zs_e127 := e127.size
          replace E := E.trans (Ext.keep e127)
          replace HB2 := HB2.ext e127
          replace HB5 := HB5.ext e127
          replace HB4 := HB4.ext e127
          replace HR := HR.ext e127
          refine l_g1 rfl rfl (fun hG => v_gtr (gd hG rfl) rfl) ?_
          refine l_v (v_or rfl rfl) ?_
          refine l_v (v_move (t := .bool _) rfl) ?_
          refine l_g1 rfl rfl (fun hG => v_loadA (by kernel_rfl) rfl (by first | exact HB4.pv | exact HB5.pv | exact HB2.pv | assumption) rfl) ?_
          refine l_g1f rfl rfl (fun hG => to_f1 (by kernel_rfl) (gd hG rfl) (refMay_c (AgV.mkMs (m := { hdM l with idx := qV (q5 l).1, ok := qFV (q6 l).1 }) (SlV.nil tEn _ NoK) (SlV.nil tU8 _ NoK) hwm))) ?_
          rintro w128 e128
          have zs_e128 := e128.size
          replace E := E.trans (Ext.keep e128)
          replace HB2 := HB2.ext e128
          replace HB5 := HB5.ext e128
          replace HB4 := HB4.ext e128
          replace HR := HR.ext e128
          refine l_g1 rfl rfl (fun hG => v_not (gd hG rfl)) ?_
          refine l_v (v_or rfl rfl) ?_
          refine l_nil ?_
          refine n_then ?_
          refine c_cond rfl rfl (fun hz => ?_) (fun hz => ?_)
          · skip
            refine c_seq ?_
            refine wp_reg (by decide +kernel) ?_
            refine l_v (v_build (pl := [(0, 1), (1, 1), (2, 1), (3, 1), (4, 1), (5, 1), (6, 1), (7, 1), (8, 1), (9, 1), (10, 1)]) (z := .agg #[.int .i64 0, .int .i64 0, .int .i64 0, .int .i64 0, .int .i64 0, .int .i64 0, .int .i64 0, .int .i64 0, .slice none 0 0, .bool false, .slice none 0 0]) (zl := [.int .i64 0, .int .i64 0, .int .i64 0, .int .i64 0, .int .i64 0, .int .i64 0, .int .i64 0, .int .i64 0, .slice none 0 0, .bool false, .slice none 0 0]) (by kernel_rfl) (by unfold kZero; kernel_rfl) rfl rfl (cells := [_, _, _, _, _, _, _, _, _, _, _]) rfl) ?_
            refine l_to (to_storeA (n := 11) rfl rfl (show _ = (Value.agg _) from rfl) (by kernel_rfl) rfl (by first | (simp [slice_one]; done) | (simp only [List.forall_mem_cons, List.cons_append, List.nil_append]; repeat' (first | exact rfl | apply And.intro | (intro u hu; cases hu; done)))) HB2 (by first | exact of_decide_eq_true rfl | (simp; done) | decide) ?_)
            rintro w129 HX129 k129 z129
            have zs_k129 := k129.size
            replace E := E.step k129 (by intro i hi he; (try dsimp only [NoK] at hi he ⊢); first | exact he.elim | omega | exact he)
            replace HB5 := HB5.keep k129 (by intro h; (try dsimp only at h); first | omega)
            replace HB4 := HB4.keep k129 (by intro h; (try dsimp only at h); first | omega)
            replace HR := HR.keep k129 (by intro h; have h := h; (try dsimp only [NoK] at h); first | exact h | omega | (rcases h with h | h <;> omega)) (by intro i hi he; have hi0 := hi; have hi := hi; have he := he; (try dsimp only [NoK] at hi he); first | exact he.elim | omega | (have := hF i hi0; omega))
            replace HB2 := HX129
            clear HX129
            try simp only [List.set_cons_zero, List.set_cons_succ, setAt, List.take_zero, List.take_succ_cons, List.drop_zero, List.drop_succ_cons, List.nil_append, List.cons_append, List.append_nil, List.length_cons, List.length_nil, Nat.zero_add, Nat.reduceAdd, List.drop_nil] at HB2
            refine l_v (v_assign rfl) ?_
            refine l_nil ?_
            refine n_then ?_
            refine c_ret ?_
            refine r_then ?_
            refine ret2cv (n := 11) rfl (by decide) (by decide) rfl (by kernel_rfl) HB2.pv rfl (show _ = (Value.int _ _) from rfl) ?_
            have hn : ¬ ((qFS (q6 l)).2 = true ∧ (qFS (q6 l)).1 = [] ∧ mayN ({ hdM l with idx := qV (q5 l).1, ok := qFV (q6 l).1 }) = true) := by
              rintro ⟨h1, h2, h3⟩
              rw [h1, h2, h3] at hz; simp at hz
            rw [kN4 h4, if_neg hn]
            exact ⟨⟨_, rfl, zero_ag⟩, E⟩
          · skip
            refine c_skip ?_
            refine n_then ?_
            refine c_seq ?_
            refine wp_reg (by decide +kernel) ?_
            refine l_v (v_loadA (by kernel_rfl) rfl (by first | exact HB4.pv | exact HB5.pv | exact HB2.pv | assumption) rfl) ?_
            refine l_to (to_storeA (n := 11) rfl rfl (show _ = (Value.agg _) from rfl) (by kernel_rfl) rfl (by first | (simp [slice_one]; done) | (simp only [List.forall_mem_cons, List.cons_append, List.nil_append]; repeat' (first | exact rfl | apply And.intro | (intro u hu; cases hu; done)))) HB2 (by first | exact of_decide_eq_true rfl | (simp; done) | decide) ?_)
            rintro w130 HX130 k130 z130
            have zs_k130 := k130.size
            replace E := E.step k130 (by intro i hi he; (try dsimp only [NoK] at hi he ⊢); first | exact he.elim | omega | exact he)
            replace HB5 := HB5.keep k130 (by intro h; (try dsimp only at h); first | omega)
            replace HB4 := HB4.keep k130 (by intro h; (try dsimp only at h); first | omega)
            replace HR := HR.keep k130 (by intro h; have h := h; (try dsimp only [NoK] at h); first | exact h | omega | (rcases h with h | h <;> omega)) (by intro i hi he; have hi0 := hi; have hi := hi; have he := he; (try dsimp only [NoK] at hi he); first | exact he.elim | omega | (have := hF i hi0; omega))
            replace HB2 := HX130
            clear HX130
            try simp only [List.set_cons_zero, List.set_cons_succ, setAt, List.take_zero, List.take_succ_cons, List.drop_zero, List.drop_succ_cons, List.nil_append, List.cons_append, List.append_nil, List.length_cons, List.length_nil, Nat.zero_add, Nat.reduceAdd, List.drop_nil] at HB2
            refine l_v (v_assign rfl) ?_
            refine l_nil ?_
            refine n_then ?_
            refine c_ret ?_
            refine ret2cv (n := 11) rfl (by decide) (by decide) rfl (by kernel_rfl) HB2.pv rfl (show _ = (Value.int _ _) from rfl) ?_
            have hn : (qFS (q6 l)).2 = true ∧ (qFS (q6 l)).1 = [] ∧ mayN ({ hdM l with idx := qV (q5 l).1, ok := qFV (q6 l).1 }) = true := by
              simp only [Bool.or_eq_false_iff, Bool.not_eq_false', decide_eq_false_iff_not] at hz
              refine ⟨hz.1.1, ?_, hz.2⟩
              exact List.eq_nil_of_length_eq_zero (by have := hz.1.2; omega)
            rw [kN4 h4, if_pos hn]
            exact ⟨⟨_, rfl, AgV.mkMs (m := { hdM l with idx := qV (q5 l).1, ok := qFV (q6 l).1 }) ((SlV.nil tEn _ NoK).mono fun _ _ _ => trivial) ((SlV.nil tU8 _ NoK).mono fun _ _ _ => trivial) hwm⟩, E⟩
        · skip
          have h4 := dfalse h4
          refine c_seq ?_
          refine wp_reg (by decide +kernel) ?_
          refine l_v (v_eql rfl rfl) ?_
          refine l_v (v_assign (t := .bool _) rfl) ?_
          refine l_nil ?_
          refine n_then ?_
          refine c_cond rfl rfl (fun h5 => ?_) (fun h5 => ?_)
          · skip
            have h5 : qV l = 5 := dtrue h5
            refine c_seq ?_
            refine wp_reg (by decide +kernel) ?_
            refine l_v (v_move (t := .pointer _) rfl) ?_
            refine l_to (to_f2 (by kernel_rfl) (show _ = (Value.pointer _) from rfl) (show _ = (Value.int _ _) from rfl) (CallsR.mono (refnum_c (most := 2147483647) HB4 HR hF hx (by decide)) ?_))
            rintro _ w48 ⟨rfl, ⟨HB4, HR⟩, k48⟩
            have zs_k48 := k48.size
            replace HR : Rf w48 b3 (fun k => k < w.heap.size) (q6 l).1 := HR
            replace HB4 : Blk w48 b4 [.pointer (some ⟨b3, 0, none⟩), .bool (q6 l).2] 128 := HB4
            replace E := E.step k48 (by intro i hi he; (try dsimp only [NoK] at hi he ⊢); first | exact he.elim | omega | exact he)
            replace HB2 := HB2.keep k48 (by intro h; (try dsimp only at h); first | omega)
            replace HB5 := HB5.keep k48 (by intro h; (try dsimp only at h); first | omega)
            refine l_v (v_fieldAddr (off := 5) (ft := 2) (by kernel_rfl) rfl) ?_
            refine l_to (to_store rfl rfl (show _ = (Value.int _ _) from rfl) rfl (by kernel_rfl) HB5 (by first | exact of_decide_eq_true rfl | (simp; done) | decide) ?_)
            rintro w131 HX131 k131 z131
            have zs_k131 := k131.size
            replace E := E.step k131 (by intro i hi he; (try dsimp only [NoK] at hi he ⊢); first | exact he.elim | omega | exact he)
            replace HB2 := HB2.keep k131 (by intro h; (try dsimp only at h); first | omega)
            replace HB4 := HB4.keep k131 (by intro h; (try dsimp only at h); first | omega)
            replace HR := HR.keep k131 (by intro h; have h := h; (try dsimp only [NoK] at h); first | exact h | omega | (rcases h with h | h <;> omega)) (by intro i hi he; have hi0 := hi; have hi := hi; have he := he; (try dsimp only [NoK] at hi he); first | exact he.elim | omega | (have := hF i hi0; omega))
            replace HB5 := HX131
            clear HX131
            try simp only [List.set_cons_zero, List.set_cons_succ, setAt, List.take_zero, List.take_succ_cons, List.drop_zero, List.drop_succ_cons, List.nil_append, List.cons_append, List.append_nil, List.length_cons, List.length_nil, Nat.zero_add, Nat.reduceAdd, List.drop_nil] at HB5
            refine l_nil ?_
            refine n_then ?_
            refine c_seq ?_
            refine wp_reg (by decide +kernel) ?_
            refine l_v (v_move (t := .pointer _) rfl) ?_
            refine l_to (to_f2 (by kernel_rfl) (show _ = (Value.pointer _) from rfl) (show _ = (Value.int _ _) from rfl) (CallsR.mono (refnum_c (most := 2147483647) HB4 HR hF hx (by decide)) ?_))
            rintro _ w50 ⟨rfl, ⟨HB4, HR⟩, k50⟩
            have zs_k50 := k50.size
            replace HR : Rf w50 b3 (fun k => k < w.heap.size) (q7 l).1 := HR
            replace HB4 : Blk w50 b4 [.pointer (some ⟨b3, 0, none⟩), .bool (q7 l).2] 128 := HB4
            replace E := E.step k50 (by intro i hi he; (try dsimp only [NoK] at hi he ⊢); first | exact he.elim | omega | exact he)
            replace HB2 := HB2.keep k50 (by intro h; (try dsimp only at h); first | omega)
            replace HB5 := HB5.keep k50 (by intro h; (try dsimp only at h); first | omega)
            refine l_v (v_fieldAddr (off := 6) (ft := 2) (by kernel_rfl) rfl) ?_
            refine l_to (to_store rfl rfl (show _ = (Value.int _ _) from rfl) rfl (by kernel_rfl) HB5 (by first | exact of_decide_eq_true rfl | (simp; done) | decide) ?_)
            rintro w132 HX132 k132 z132
            have zs_k132 := k132.size
            replace E := E.step k132 (by intro i hi he; (try dsimp only [NoK] at hi he ⊢); first | exact he.elim | omega | exact he)
            replace HB2 := HB2.keep k132 (by intro h; (try dsimp only at h); first | omega)
            replace HB4 := HB4.keep k132 (by intro h; (try dsimp only at h); first | omega)
            replace HR := HR.keep k132 (by intro h; have h := h; (try dsimp only [NoK] at h); first | exact h | omega | (rcases h with h | h <;> omega)) (by intro i hi he; have hi0 := hi; have hi := hi; have he := he; (try dsimp only [NoK] at hi he); first | exact he.elim | omega | (have := hF i hi0; omega))
            replace HB5 := HX132
            clear HX132
            try simp only [List.set_cons_zero, List.set_cons_succ, setAt, List.take_zero, List.take_succ_cons, List.drop_zero, List.drop_succ_cons, List.nil_append, List.cons_append, List.append_nil, List.length_cons, List.length_nil, Nat.zero_add, Nat.reduceAdd, List.drop_nil] at HB5
            refine l_nil ?_
            refine n_then ?_
            refine c_seq ?_
            refine wp_reg (by decide +kernel) ?_
            refine l_v (v_move (t := .pointer _) rfl) ?_
            refine l_to (to_f2 (by kernel_rfl) (show _ = (Value.pointer _) from rfl) (show _ = (Value.int _ _) from rfl) (CallsR.mono (refnum_c (most := 2147483647) HB4 HR hF hx (by decide)) ?_))
            rintro _ w52 ⟨rfl, ⟨HB4, HR⟩, k52⟩
            have zs_k52 := k52.size
            replace HR : Rf w52 b3 (fun k => k < w.heap.size) (q8 l).1 := HR
            replace HB4 : Blk w52 b4 [.pointer (some ⟨b3, 0, none⟩), .bool (q8 l).2] 128 := HB4
            replace E := E.step k52 (by intro i hi he; (try dsimp only [NoK] at hi he ⊢); first | exact he.elim | omega | exact he)
            replace HB2 := HB2.keep k52 (by intro h; (try dsimp only at h); first | omega)
            replace HB5 := HB5.keep k52 (by intro h; (try dsimp only at h); first | omega)
            refine l_v (v_fieldAddr (off := 7) (ft := 2) (by kernel_rfl) rfl) ?_
            refine l_to (to_store rfl rfl (show _ = (Value.int _ _) from rfl) rfl (by kernel_rfl) HB5 (by simp) ?_)
            rintro w90 HB5 k90 z90
            have zs_k90 := k90.size
            try simp only [List.set_cons_zero, List.set_cons_succ] at HB5
            replace E := E.step k90 (by intro i hi he; (try dsimp only [NoK] at hi he ⊢); first | exact he.elim | omega | exact he)
            replace HB2 := HB2.keep k90 (by intro h; (try dsimp only at h); first | omega)
            replace HB4 := HB4.keep k90 (by intro h; (try dsimp only at h); first | omega)
            replace HR := HR.keep k90 (by intro h; have h := h; (try dsimp only [NoK] at h); first | exact h | omega | (rcases h with h | h <;> omega)) (by intro i hi he; have hi0 := hi; have hi := hi; have he := he; (try dsimp only [NoK] at hi he); first | exact he.elim | omega | (have := hF i hi0; omega))
            refine l_nil ?_
            refine n_then ?_
            refine c_seq ?_
            refine wp_reg (by decide +kernel) ?_
            refine l_v (v_move (t := .pointer _) rfl) ?_
            refine l_v (v_nilCheck rfl) ?_
            refine l_v (v_fieldAddr (off := 0) (ft := 124) (by kernel_rfl) rfl) ?_
            refine l_v (v_load (by kernel_rfl) rfl (by first | exact HB5.pv 0 _ rfl | exact HB4.pv 0 _ rfl | exact HB2.pv 0 _ rfl | assumption)) ?_
            refine l_to (to_f2 (by kernel_rfl) (show _ = (Value.pointer _) from rfl) (show _ = (Value.int _ _) from rfl) (CallsR.mono (refRBytes_c (most := 1048576) HR (fun k h => by omega) (by omega) (by decide) (by decide) (by omega)) ?_))
            rintro r w91 ⟨hr11, k91⟩
            have zs_k91 := k91.size
            obtain ⟨a11, c11, er11, fr, l7, rfl, HS11, HR, hx11⟩ := TryF_any hr11
            have hB : BytesOk (q8 l).1 l7 (decide (er11 = 0)) fr := by
              rcases hx11 with ⟨he, hq⟩ | ⟨he, _, _, hq⟩
              · exact ⟨fun _ => hq, fun h => absurd he (dfalse h)⟩
              · exact ⟨fun h => absurd (dtrue h) he, fun _ => ⟨_, he, hq⟩⟩
            replace E := E.step k91 (by intro i hi he; (try dsimp only [NoK] at hi he ⊢); first | exact he.elim | omega | exact he)
            replace HB2 := HB2.keep k91 (by intro h; (try dsimp only at h); first | omega)
            replace HB4 := HB4.keep k91 (by intro h; (try dsimp only at h); first | omega)
            replace HB5 := HB5.keep k91 (by intro h; (try dsimp only at h); first | omega)
            refine l_v (v_move (t := .tuple _) rfl) ?_
            refine l_v (v_extract (t := .slice _ _ _) rfl rfl) ?_
            refine l_v (v_extract (t := .int _ _) rfl rfl) ?_
            refine l_v (v_assign (t := .slice _ _ _) rfl) ?_
            refine l_v (v_assign (t := .int _ _) rfl) ?_
            refine l_nil ?_
            refine n_then ?_
            refine c_seq ?_
            refine wp_reg (by decide +kernel) ?_
            refine l_v (v_move (t := .pointer _) rfl) ?_
            refine l_v (v_move (t := .pointer _) rfl) ?_
            refine l_v (v_nilCheck rfl) ?_
            refine l_v (v_fieldAddr (off := 1) (ft := 4) (by kernel_rfl) rfl) ?_
            refine l_v (v_load (by kernel_rfl) rfl (by first | exact HB5.pv 1 _ rfl | exact HB4.pv 1 _ rfl | exact HB2.pv 1 _ rfl | assumption)) ?_
            refine l_v (v_move (t := .bool _) rfl) ?_
            refine l_g1 rfl rfl (fun hG => v_move (t := .int _ _) rfl) ?_
            refine l_g1 rfl rfl (fun hG => v_eql (gd hG rfl) rfl) ?_
            refine l_v (v_and rfl rfl) ?_
            refine l_v (v_nilCheck rfl) ?_
            refine l_v (v_fieldAddr (off := 1) (ft := 4) (by kernel_rfl) rfl) ?_
            refine l_to (to_store rfl rfl (show _ = (Value.bool _) from rfl) rfl (by kernel_rfl) HB4 (by simp) ?_)
            rintro w92 HB4 k92 z92
            have zs_k92 := k92.size
            try simp only [List.set_cons_zero, List.set_cons_succ] at HB4
            replace E := E.step k92 (by intro i hi he; (try dsimp only [NoK] at hi he ⊢); first | exact he.elim | omega | exact he)
            replace HB2 := HB2.keep k92 (by intro h; (try dsimp only at h); first | omega)
            replace HB5 := HB5.keep k92 (by intro h; (try dsimp only at h); first | omega)
            replace HS11 := HS11.keep k92 (by intro i _ hi he; (try dsimp only [NoK, AllB] at hi he); first | exact hi.elim | exact he.elim | omega | (rcases hi with hi | hi <;> omega) | (rcases he with he | he <;> omega))
            replace HR := HR.keep k92 (by intro h; have h := h; (try dsimp only [NoK] at h); first | exact h | omega | (rcases h with h | h <;> omega)) (by intro i hi he; have hi0 := hi; have hi := hi; have he := he; (try dsimp only [NoK] at hi he); first | exact he.elim | omega | (have := hF i hi0; omega))
            refine l_nil ?_
            refine n_then ?_
            have hwm : ({ hdM l with idx := qV (q5 l).1, lt := qV (q6 l).1, com := qV (q7 l).1, snap := fr }).Wf := ⟨qV_wf _, qV_wf _, qV_wf _, qV_wf _, qV_wf _, qV_wf _, qV_wf _, qV_wf _⟩
            refine wp_reg (by decide +kernel) ?_
            refine l_v (v_move (t := .slice _ _ _) rfl) ?_
            refine l_v (v_fieldAddr (off := 10) (ft := 24) (by kernel_rfl) rfl) ?_
            refine l_to (to_store rfl rfl (show _ = (Value.slice _ _ _) from rfl) rfl (by kernel_rfl) HB5 (by first | exact of_decide_eq_true rfl | (simp; done) | decide) ?_)
            rintro w133 HX133 k133 z133
            have zs_k133 := k133.size
            replace E := E.step k133 (by intro i hi he; (try dsimp only [NoK] at hi he ⊢); first | exact he.elim | omega | exact he)
            replace HB2 := HB2.keep k133 (by intro h; (try dsimp only at h); first | omega)
            replace HS11 := HS11.keep k133 (by intro i _ hi he; (try dsimp only [NoK, AllB] at hi he); first | exact hi.elim | exact he.elim | omega | (rcases hi with hi | hi <;> omega) | (rcases he with he | he <;> omega))
            replace HR := HR.keep k133 (by intro h; have h := h; (try dsimp only [NoK] at h); first | exact h | omega | (rcases h with h | h <;> omega)) (by intro i hi he; have hi0 := hi; have hi := hi; have he := he; (try dsimp only [NoK] at hi he); first | exact he.elim | omega | (have := hF i hi0; omega))
            replace HB4 := HB4.keep k133 (by intro h; (try dsimp only at h); first | omega)
            replace HB5 := HX133
            clear HX133
            try simp only [List.set_cons_zero, List.set_cons_succ, setAt, List.take_zero, List.take_succ_cons, List.drop_zero, List.drop_succ_cons, List.nil_append, List.cons_append, List.append_nil, List.length_cons, List.length_nil, Nat.zero_add, Nat.reduceAdd, List.drop_nil] at HB5
            refine l_nil ?_
            refine n_blk ?_
            refine n_then ?_
            refine c_seq ?_
            refine c_seq ?_
            refine wp_reg (by decide +kernel) ?_
            refine l_v (v_move (t := .pointer _) rfl) ?_
            refine l_v (v_nilCheck rfl) ?_
            refine l_v (v_fieldAddr (off := 1) (ft := 4) (by kernel_rfl) rfl) ?_
            refine l_v (v_load (by kernel_rfl) rfl (by first | exact HB4.pv 1 _ rfl | exact HB5.pv 1 _ rfl | exact HB2.pv 1 _ rfl | assumption)) ?_
            refine l_v (v_not rfl) ?_
            refine l_v (v_move (t := .bool _) rfl) ?_
            refine l_g1 rfl rfl (fun hG => v_move (t := .pointer _) rfl) ?_
            refine l_g1 rfl rfl (fun hG => v_nilCheck (gd hG rfl)) ?_
            refine l_g1 rfl rfl (fun hG => v_fieldAddr (off := 0) (ft := 124) (by kernel_rfl) (gd hG rfl)) ?_
            refine l_g1 rfl rfl (fun hG => v_load (by kernel_rfl) (gd hG rfl) (by first | exact HB4.pv 0 _ rfl | exact HB5.pv 0 _ rfl | exact HB2.pv 0 _ rfl | assumption)) ?_
            refine l_g1f rfl rfl (fun hG => to_f1 (by kernel_rfl) (gd hG rfl) (refLeft_c HR)) ?_
            rintro w134 e134
            have zs_e134 := e134.size
            replace E := E.trans (Ext.keep e134)
            replace HB2 := HB2.ext e134
            replace HB5 := HB5.ext e134
            replace HS11 := HS11.ext e134
            replace HR := HR.ext e134
            replace HB4 := HB4.ext e134
            refine l_g1 rfl rfl (fun hG => v_gtr (gd hG rfl) rfl) ?_
            refine l_v (v_or rfl rfl) ?_
            refine l_v (v_move (t := .bool _) rfl) ?_
            refine l_g1 rfl rfl (fun hG => v_loadA (by kernel_rfl) rfl (by first | exact HB4.pv | exact HB5.pv | exact HB2.pv | assumption) rfl) ?_
            refine l_g1f rfl rfl (fun hG => to_f1 (by kernel_rfl) (gd hG rfl) (refMay_c (AgV.mkMs (m := { hdM l with idx := qV (q5 l).1, lt := qV (q6 l).1, com := qV (q7 l).1, snap := fr }) (SlV.nil _ _ _) (HS11) hwm))) ?_
            rintro w135 e135
            have zs_e135 := e135.size
            replace E := E.trans (Ext.keep e135)
            replace HB2 := HB2.ext e135
            replace HB5 := HB5.ext e135
            replace HS11 := HS11.ext e135
            replace HR := HR.ext e135
            replace HB4 := HB4.ext e135
            refine l_g1 rfl rfl (fun hG => v_not (gd hG rfl)) ?_
            refine l_v (v_or rfl rfl) ?_
            refine l_nil ?_
            refine n_then ?_
            refine c_cond rfl rfl (fun hz => ?_) (fun hz => ?_)
            · skip
              refine c_seq ?_
              refine wp_reg (by decide +kernel) ?_
              refine l_v (v_build (pl := [(0, 1), (1, 1), (2, 1), (3, 1), (4, 1), (5, 1), (6, 1), (7, 1), (8, 1), (9, 1), (10, 1)]) (z := .agg #[.int .i64 0, .int .i64 0, .int .i64 0, .int .i64 0, .int .i64 0, .int .i64 0, .int .i64 0, .int .i64 0, .slice none 0 0, .bool false, .slice none 0 0]) (zl := [.int .i64 0, .int .i64 0, .int .i64 0, .int .i64 0, .int .i64 0, .int .i64 0, .int .i64 0, .int .i64 0, .slice none 0 0, .bool false, .slice none 0 0]) (by kernel_rfl) (by unfold kZero; kernel_rfl) rfl rfl (cells := [_, _, _, _, _, _, _, _, _, _, _]) rfl) ?_
              refine l_to (to_storeA (n := 11) rfl rfl (show _ = (Value.agg _) from rfl) (by kernel_rfl) rfl (by first | (simp [slice_one]; done) | (simp only [List.forall_mem_cons, List.cons_append, List.nil_append]; repeat' (first | exact rfl | apply And.intro | (intro u hu; cases hu; done)))) HB2 (by first | exact of_decide_eq_true rfl | (simp; done) | decide) ?_)
              rintro w136 HX136 k136 z136
              have zs_k136 := k136.size
              replace E := E.step k136 (by intro i hi he; (try dsimp only [NoK] at hi he ⊢); first | exact he.elim | omega | exact he)
              replace HB5 := HB5.keep k136 (by intro h; (try dsimp only at h); first | omega)
              replace HS11 := HS11.keep k136 (by intro i _ hi he; (try dsimp only [NoK, AllB] at hi he); first | exact hi.elim | exact he.elim | omega | (rcases hi with hi | hi <;> omega) | (rcases he with he | he <;> omega))
              replace HR := HR.keep k136 (by intro h; have h := h; (try dsimp only [NoK] at h); first | exact h | omega | (rcases h with h | h <;> omega)) (by intro i hi he; have hi0 := hi; have hi := hi; have he := he; (try dsimp only [NoK] at hi he); first | exact he.elim | omega | (have := hF i hi0; omega))
              replace HB4 := HB4.keep k136 (by intro h; (try dsimp only at h); first | omega)
              replace HB2 := HX136
              clear HX136
              try simp only [List.set_cons_zero, List.set_cons_succ, setAt, List.take_zero, List.take_succ_cons, List.drop_zero, List.drop_succ_cons, List.nil_append, List.cons_append, List.append_nil, List.length_cons, List.length_nil, Nat.zero_add, Nat.reduceAdd, List.drop_nil] at HB2
              refine l_v (v_assign rfl) ?_
              refine l_nil ?_
              refine n_then ?_
              refine c_ret ?_
              refine r_then ?_
              refine ret2cv (n := 11) rfl (by decide) (by decide) rfl (by kernel_rfl) HB2.pv rfl (show _ = (Value.int _ _) from rfl) ?_
              have hn : ¬ (((q8 l).2 && decide (er11 = 0)) = true ∧ l7 = [] ∧ mayN ({ hdM l with idx := qV (q5 l).1, lt := qV (q6 l).1, com := qV (q7 l).1, snap := fr }) = true) := by
                rintro ⟨h1, h2, h3⟩
                rw [h1, h2, h3] at hz; simp at hz
              rw [kN5 h5 hB, if_neg hn]
              exact ⟨⟨_, rfl, zero_ag⟩, E⟩
            · skip
              refine c_skip ?_
              refine n_then ?_
              refine c_seq ?_
              refine wp_reg (by decide +kernel) ?_
              refine l_v (v_loadA (by kernel_rfl) rfl (by first | exact HB4.pv | exact HB5.pv | exact HB2.pv | assumption) rfl) ?_
              refine l_to (to_storeA (n := 11) rfl rfl (show _ = (Value.agg _) from rfl) (by kernel_rfl) rfl (by first | (simp [slice_one]; done) | (simp only [List.forall_mem_cons, List.cons_append, List.nil_append]; repeat' (first | exact rfl | apply And.intro | (intro u hu; cases hu; done)))) HB2 (by first | exact of_decide_eq_true rfl | (simp; done) | decide) ?_)
              rintro w137 HX137 k137 z137
              have zs_k137 := k137.size
              replace E := E.step k137 (by intro i hi he; (try dsimp only [NoK] at hi he ⊢); first | exact he.elim | omega | exact he)
              replace HB5 := HB5.keep k137 (by intro h; (try dsimp only at h); first | omega)
              replace HS11 := HS11.keep k137 (by intro i _ hi he; (try dsimp only [NoK, AllB] at hi he); first | exact hi.elim | exact he.elim | omega | (rcases hi with hi | hi <;> omega) | (rcases he with he | he <;> omega))
              replace HR := HR.keep k137 (by intro h; have h := h; (try dsimp only [NoK] at h); first | exact h | omega | (rcases h with h | h <;> omega)) (by intro i hi he; have hi0 := hi; have hi := hi; have he := he; (try dsimp only [NoK] at hi he); first | exact he.elim | omega | (have := hF i hi0; omega))
              replace HB4 := HB4.keep k137 (by intro h; (try dsimp only at h); first | omega)
              replace HB2 := HX137
              clear HX137
              try simp only [List.set_cons_zero, List.set_cons_succ, setAt, List.take_zero, List.take_succ_cons, List.drop_zero, List.drop_succ_cons, List.nil_append, List.cons_append, List.append_nil, List.length_cons, List.length_nil, Nat.zero_add, Nat.reduceAdd, List.drop_nil] at HB2
              refine l_v (v_assign rfl) ?_
              refine l_nil ?_
              refine n_then ?_
              refine c_ret ?_
              refine ret2cv (n := 11) rfl (by decide) (by decide) rfl (by kernel_rfl) HB2.pv rfl (show _ = (Value.int _ _) from rfl) ?_
              have hn : ((q8 l).2 && decide (er11 = 0)) = true ∧ l7 = [] ∧ mayN ({ hdM l with idx := qV (q5 l).1, lt := qV (q6 l).1, com := qV (q7 l).1, snap := fr }) = true := by
                simp only [Bool.or_eq_false_iff, Bool.not_eq_false', decide_eq_false_iff_not] at hz
                refine ⟨hz.1.1, ?_, hz.2⟩
                exact List.eq_nil_of_length_eq_zero (by have := hz.1.2; omega)
              rw [kN5 h5 hB, if_pos hn]
              exact ⟨⟨_, rfl, AgV.mkMs (m := { hdM l with idx := qV (q5 l).1, lt := qV (q6 l).1, com := qV (q7 l).1, snap := fr }) (SlV.nil _ _ _) ((HS11).mono fun _ _ _ => trivial) hwm⟩, E⟩
          · skip
            have h5 := dfalse h5
            refine c_seq ?_
            refine c_seq ?_
            refine wp_reg (by decide +kernel) ?_
            refine l_v (v_eql rfl rfl) ?_
            refine l_v (v_assign (t := .bool _) rfl) ?_
            refine l_nil ?_
            refine n_then ?_
            refine c_cond rfl rfl (fun h6 => ?_) (fun h6 => ?_)
            · skip
              have h6 : qV l = 6 := dtrue h6
              refine c_skip ?_
              refine n_then ?_
              refine c_cond rfl rfl (fun h97 => ?_) (fun h97 => ?_)
              · skip
                refine wp_reg (by decide +kernel) ?_
                refine l_v (v_move (t := .pointer _) rfl) ?_
                refine l_to (to_f1 (by kernel_rfl) (show _ = (Value.pointer _) from rfl) (CallsR.mono (refents_c HB4 HR hF hx (by have := hql; omega)) ?_))
                rintro _ w55 ⟨es, l7, ok7, ⟨HS7, ⟨HB4, HR⟩, hE7⟩, k55⟩
                have zs_k55 := k55.size
                obtain ⟨a7, c7, rfl⟩ := HS7.shape
                replace E := E.step k55 (by intro i hi he; (try dsimp only [NoK] at hi he ⊢); first | exact he.elim | omega | exact he)
                replace HB2 := HB2.keep k55 (by intro h; (try dsimp only at h); first | omega)
                replace HB5 := HB5.keep k55 (by intro h; (try dsimp only at h); first | omega)
                have hwm : ({ hdM l with ents := es }).Wf := ⟨qV_wf _, qV_wf _, qV_wf _, qV_wf _, qV_wf _, i64_0, i64_0, i64_0⟩
                refine l_v (v_fieldAddr (off := 8) (ft := 23) (by kernel_rfl) rfl) ?_
                refine l_to (to_store rfl rfl (show _ = (Value.slice _ _ _) from rfl) rfl (by kernel_rfl) HB5 (by first | exact of_decide_eq_true rfl | (simp; done) | decide) ?_)
                rintro w138 HX138 k138 z138
                have zs_k138 := k138.size
                replace E := E.step k138 (by intro i hi he; (try dsimp only [NoK] at hi he ⊢); first | exact he.elim | omega | exact he)
                replace HB2 := HB2.keep k138 (by intro h; (try dsimp only at h); first | omega)
                replace HS7 := HS7.keep k138 (by intro i _ hi he; (try dsimp only [NoK, AllB] at hi he); first | exact hi.elim | exact he.elim | omega | (rcases hi with hi | hi <;> omega) | (rcases he with he | he <;> omega))
                replace HB4 := HB4.keep k138 (by intro h; (try dsimp only at h); first | omega)
                replace HR := HR.keep k138 (by intro h; have h := h; (try dsimp only [NoK] at h); first | exact h | omega | (rcases h with h | h <;> omega)) (by intro i hi he; have hi0 := hi; have hi := hi; have he := he; (try dsimp only [NoK] at hi he); first | exact he.elim | omega | (have := hF i hi0; omega))
                replace HB5 := HX138
                clear HX138
                try simp only [List.set_cons_zero, List.set_cons_succ, setAt, List.take_zero, List.take_succ_cons, List.drop_zero, List.drop_succ_cons, List.nil_append, List.cons_append, List.append_nil, List.length_cons, List.length_nil, Nat.zero_add, Nat.reduceAdd, List.drop_nil] at HB5
                refine l_nil ?_
                refine n_blk ?_
                refine n_then ?_
                refine c_seq ?_
                refine c_seq ?_
                refine wp_reg (by decide +kernel) ?_
                refine l_v (v_move (t := .pointer _) rfl) ?_
                refine l_v (v_nilCheck rfl) ?_
                refine l_v (v_fieldAddr (off := 1) (ft := 4) (by kernel_rfl) rfl) ?_
                refine l_v (v_load (by kernel_rfl) rfl (by first | exact HB4.pv 1 _ rfl | exact HB5.pv 1 _ rfl | exact HB2.pv 1 _ rfl | assumption)) ?_
                refine l_v (v_not rfl) ?_
                refine l_v (v_move (t := .bool _) rfl) ?_
                refine l_g1 rfl rfl (fun hG => v_move (t := .pointer _) rfl) ?_
                refine l_g1 rfl rfl (fun hG => v_nilCheck (gd hG rfl)) ?_
                refine l_g1 rfl rfl (fun hG => v_fieldAddr (off := 0) (ft := 124) (by kernel_rfl) (gd hG rfl)) ?_
                refine l_g1 rfl rfl (fun hG => v_load (by kernel_rfl) (gd hG rfl) (by first | exact HB4.pv 0 _ rfl | exact HB5.pv 0 _ rfl | exact HB2.pv 0 _ rfl | assumption)) ?_
                refine l_g1f rfl rfl (fun hG => to_f1 (by kernel_rfl) (gd hG rfl) (refLeft_c HR)) ?_
                rintro w139 e139
                have zs_e139 := e139.size
                replace E := E.trans (Ext.keep e139)
                replace HB2 := HB2.ext e139
                replace HB5 := HB5.ext e139
                replace HS7 := HS7.ext e139
                replace HB4 := HB4.ext e139
                replace HR := HR.ext e139
                refine l_g1 rfl rfl (fun hG => v_gtr (gd hG rfl) rfl) ?_
                refine l_v (v_or rfl rfl) ?_
                refine l_v (v_move (t := .bool _) rfl) ?_
                refine l_g1 rfl rfl (fun hG => v_loadA (by kernel_rfl) rfl (by first | exact HB4.pv | exact HB5.pv | exact HB2.pv | assumption) rfl) ?_
                refine l_g1f rfl rfl (fun hG => to_f1 (by kernel_rfl) (gd hG rfl) (refMay_c (AgV.mkMs (m := { hdM l with ents := es }) (HS7) (SlV.nil _ _ _) hwm))) ?_
                rintro w140 e140
                have zs_e140 := e140.size
                replace E := E.trans (Ext.keep e140)
                replace HB2 := HB2.ext e140
                replace HB5 := HB5.ext e140
                replace HS7 := HS7.ext e140
                replace HB4 := HB4.ext e140
                replace HR := HR.ext e140
                refine l_g1 rfl rfl (fun hG => v_not (gd hG rfl)) ?_
                refine l_v (v_or rfl rfl) ?_
                refine l_nil ?_
                refine n_then ?_
                refine c_cond rfl rfl (fun hz => ?_) (fun hz => ?_)
                · skip
                  refine c_seq ?_
                  refine wp_reg (by decide +kernel) ?_
                  refine l_v (v_build (pl := [(0, 1), (1, 1), (2, 1), (3, 1), (4, 1), (5, 1), (6, 1), (7, 1), (8, 1), (9, 1), (10, 1)]) (z := .agg #[.int .i64 0, .int .i64 0, .int .i64 0, .int .i64 0, .int .i64 0, .int .i64 0, .int .i64 0, .int .i64 0, .slice none 0 0, .bool false, .slice none 0 0]) (zl := [.int .i64 0, .int .i64 0, .int .i64 0, .int .i64 0, .int .i64 0, .int .i64 0, .int .i64 0, .int .i64 0, .slice none 0 0, .bool false, .slice none 0 0]) (by kernel_rfl) (by unfold kZero; kernel_rfl) rfl rfl (cells := [_, _, _, _, _, _, _, _, _, _, _]) rfl) ?_
                  refine l_to (to_storeA (n := 11) rfl rfl (show _ = (Value.agg _) from rfl) (by kernel_rfl) rfl (by first | (simp [slice_one]; done) | (simp only [List.forall_mem_cons, List.cons_append, List.nil_append]; repeat' (first | exact rfl | apply And.intro | (intro u hu; cases hu; done)))) HB2 (by first | exact of_decide_eq_true rfl | (simp; done) | decide) ?_)
                  rintro w141 HX141 k141 z141
                  have zs_k141 := k141.size
                  replace E := E.step k141 (by intro i hi he; (try dsimp only [NoK] at hi he ⊢); first | exact he.elim | omega | exact he)
                  replace HB5 := HB5.keep k141 (by intro h; (try dsimp only at h); first | omega)
                  replace HS7 := HS7.keep k141 (by intro i _ hi he; (try dsimp only [NoK, AllB] at hi he); first | exact hi.elim | exact he.elim | omega | (rcases hi with hi | hi <;> omega) | (rcases he with he | he <;> omega))
                  replace HB4 := HB4.keep k141 (by intro h; (try dsimp only at h); first | omega)
                  replace HR := HR.keep k141 (by intro h; have h := h; (try dsimp only [NoK] at h); first | exact h | omega | (rcases h with h | h <;> omega)) (by intro i hi he; have hi0 := hi; have hi := hi; have he := he; (try dsimp only [NoK] at hi he); first | exact he.elim | omega | (have := hF i hi0; omega))
                  replace HB2 := HX141
                  clear HX141
                  try simp only [List.set_cons_zero, List.set_cons_succ, setAt, List.take_zero, List.take_succ_cons, List.drop_zero, List.drop_succ_cons, List.nil_append, List.cons_append, List.append_nil, List.length_cons, List.length_nil, Nat.zero_add, Nat.reduceAdd, List.drop_nil] at HB2
                  refine l_v (v_assign rfl) ?_
                  refine l_nil ?_
                  refine n_then ?_
                  refine c_ret ?_
                  refine r_then ?_
                  refine ret2cv (n := 11) rfl (by decide) (by decide) rfl (by kernel_rfl) HB2.pv rfl (show _ = (Value.int _ _) from rfl) ?_
                  have hn : ¬ (ok7 = true ∧ l7 = [] ∧ mayN ({ hdM l with ents := es }) = true) := by
                    rintro ⟨h1, h2, h3⟩
                    rw [h1, h2, h3] at hz; simp at hz
                  rw [kN67 (q := (l7, ok7)) (.inl h6) hE7, if_neg hn]
                  exact ⟨⟨_, rfl, zero_ag⟩, E⟩
                · skip
                  refine c_skip ?_
                  refine n_then ?_
                  refine c_seq ?_
                  refine wp_reg (by decide +kernel) ?_
                  refine l_v (v_loadA (by kernel_rfl) rfl (by first | exact HB4.pv | exact HB5.pv | exact HB2.pv | assumption) rfl) ?_
                  refine l_to (to_storeA (n := 11) rfl rfl (show _ = (Value.agg _) from rfl) (by kernel_rfl) rfl (by first | (simp [slice_one]; done) | (simp only [List.forall_mem_cons, List.cons_append, List.nil_append]; repeat' (first | exact rfl | apply And.intro | (intro u hu; cases hu; done)))) HB2 (by first | exact of_decide_eq_true rfl | (simp; done) | decide) ?_)
                  rintro w142 HX142 k142 z142
                  have zs_k142 := k142.size
                  replace E := E.step k142 (by intro i hi he; (try dsimp only [NoK] at hi he ⊢); first | exact he.elim | omega | exact he)
                  replace HB5 := HB5.keep k142 (by intro h; (try dsimp only at h); first | omega)
                  replace HS7 := HS7.keep k142 (by intro i _ hi he; (try dsimp only [NoK, AllB] at hi he); first | exact hi.elim | exact he.elim | omega | (rcases hi with hi | hi <;> omega) | (rcases he with he | he <;> omega))
                  replace HB4 := HB4.keep k142 (by intro h; (try dsimp only at h); first | omega)
                  replace HR := HR.keep k142 (by intro h; have h := h; (try dsimp only [NoK] at h); first | exact h | omega | (rcases h with h | h <;> omega)) (by intro i hi he; have hi0 := hi; have hi := hi; have he := he; (try dsimp only [NoK] at hi he); first | exact he.elim | omega | (have := hF i hi0; omega))
                  replace HB2 := HX142
                  clear HX142
                  try simp only [List.set_cons_zero, List.set_cons_succ, setAt, List.take_zero, List.take_succ_cons, List.drop_zero, List.drop_succ_cons, List.nil_append, List.cons_append, List.append_nil, List.length_cons, List.length_nil, Nat.zero_add, Nat.reduceAdd, List.drop_nil] at HB2
                  refine l_v (v_assign rfl) ?_
                  refine l_nil ?_
                  refine n_then ?_
                  refine c_ret ?_
                  refine ret2cv (n := 11) rfl (by decide) (by decide) rfl (by kernel_rfl) HB2.pv rfl (show _ = (Value.int _ _) from rfl) ?_
                  have hn : ok7 = true ∧ l7 = [] ∧ mayN ({ hdM l with ents := es }) = true := by
                    simp only [Bool.or_eq_false_iff, Bool.not_eq_false', decide_eq_false_iff_not] at hz
                    refine ⟨hz.1.1, ?_, hz.2⟩
                    exact List.eq_nil_of_length_eq_zero (by have := hz.1.2; omega)
                  rw [kN67 (q := (l7, ok7)) (.inl h6) hE7, if_pos hn]
                  exact ⟨⟨_, rfl, AgV.mkMs (m := { hdM l with ents := es }) ((HS7).mono fun _ _ _ => trivial) (SlV.nil _ _ _) hwm⟩, E⟩
              · skip
                exact absurd h6 (dfalse h97)
            · skip
              have h6 := dfalse h6
              refine wp_reg (by decide +kernel) ?_
              refine l_v (v_eql rfl rfl) ?_
              refine l_v (v_assign (t := .bool _) rfl) ?_
              refine l_nil ?_
              refine n_then ?_
              refine c_cond rfl rfl (fun h7 => ?_) (fun h7 => ?_)
              · skip
                have h7 : qV l = 7 := dtrue h7
                refine wp_reg (by decide +kernel) ?_
                refine l_v (v_move (t := .pointer _) rfl) ?_
                refine l_to (to_f1 (by kernel_rfl) (show _ = (Value.pointer _) from rfl) (CallsR.mono (refents_c HB4 HR hF hx (by have := hql; omega)) ?_))
                rintro _ w57 ⟨es, l7, ok7, ⟨HS7, ⟨HB4, HR⟩, hE7⟩, k57⟩
                have zs_k57 := k57.size
                obtain ⟨a7, c7, rfl⟩ := HS7.shape
                replace E := E.step k57 (by intro i hi he; (try dsimp only [NoK] at hi he ⊢); first | exact he.elim | omega | exact he)
                replace HB2 := HB2.keep k57 (by intro h; (try dsimp only at h); first | omega)
                replace HB5 := HB5.keep k57 (by intro h; (try dsimp only at h); first | omega)
                have hwm : ({ hdM l with ents := es }).Wf := ⟨qV_wf _, qV_wf _, qV_wf _, qV_wf _, qV_wf _, i64_0, i64_0, i64_0⟩
                refine l_v (v_fieldAddr (off := 8) (ft := 23) (by kernel_rfl) rfl) ?_
                refine l_to (to_store rfl rfl (show _ = (Value.slice _ _ _) from rfl) rfl (by kernel_rfl) HB5 (by first | exact of_decide_eq_true rfl | (simp; done) | decide) ?_)
                rintro w143 HX143 k143 z143
                have zs_k143 := k143.size
                replace E := E.step k143 (by intro i hi he; (try dsimp only [NoK] at hi he ⊢); first | exact he.elim | omega | exact he)
                replace HB2 := HB2.keep k143 (by intro h; (try dsimp only at h); first | omega)
                replace HS7 := HS7.keep k143 (by intro i _ hi he; (try dsimp only [NoK, AllB] at hi he); first | exact hi.elim | exact he.elim | omega | (rcases hi with hi | hi <;> omega) | (rcases he with he | he <;> omega))
                replace HB4 := HB4.keep k143 (by intro h; (try dsimp only at h); first | omega)
                replace HR := HR.keep k143 (by intro h; have h := h; (try dsimp only [NoK] at h); first | exact h | omega | (rcases h with h | h <;> omega)) (by intro i hi he; have hi0 := hi; have hi := hi; have he := he; (try dsimp only [NoK] at hi he); first | exact he.elim | omega | (have := hF i hi0; omega))
                replace HB5 := HX143
                clear HX143
                try simp only [List.set_cons_zero, List.set_cons_succ, setAt, List.take_zero, List.take_succ_cons, List.drop_zero, List.drop_succ_cons, List.nil_append, List.cons_append, List.append_nil, List.length_cons, List.length_nil, Nat.zero_add, Nat.reduceAdd, List.drop_nil] at HB5
                refine l_nil ?_
                refine n_blk ?_
                refine n_then ?_
                refine c_seq ?_
                refine c_seq ?_
                refine wp_reg (by decide +kernel) ?_
                refine l_v (v_move (t := .pointer _) rfl) ?_
                refine l_v (v_nilCheck rfl) ?_
                refine l_v (v_fieldAddr (off := 1) (ft := 4) (by kernel_rfl) rfl) ?_
                refine l_v (v_load (by kernel_rfl) rfl (by first | exact HB4.pv 1 _ rfl | exact HB5.pv 1 _ rfl | exact HB2.pv 1 _ rfl | assumption)) ?_
                refine l_v (v_not rfl) ?_
                refine l_v (v_move (t := .bool _) rfl) ?_
                refine l_g1 rfl rfl (fun hG => v_move (t := .pointer _) rfl) ?_
                refine l_g1 rfl rfl (fun hG => v_nilCheck (gd hG rfl)) ?_
                refine l_g1 rfl rfl (fun hG => v_fieldAddr (off := 0) (ft := 124) (by kernel_rfl) (gd hG rfl)) ?_
                refine l_g1 rfl rfl (fun hG => v_load (by kernel_rfl) (gd hG rfl) (by first | exact HB4.pv 0 _ rfl | exact HB5.pv 0 _ rfl | exact HB2.pv 0 _ rfl | assumption)) ?_
                refine l_g1f rfl rfl (fun hG => to_f1 (by kernel_rfl) (gd hG rfl) (refLeft_c HR)) ?_
                rintro w144 e144
                have zs_e144 := e144.size
                replace E := E.trans (Ext.keep e144)
                replace HB2 := HB2.ext e144
                replace HB5 := HB5.ext e144
                replace HS7 := HS7.ext e144
                replace HB4 := HB4.ext e144
                replace HR := HR.ext e144
                refine l_g1 rfl rfl (fun hG => v_gtr (gd hG rfl) rfl) ?_
                refine l_v (v_or rfl rfl) ?_
                refine l_v (v_move (t := .bool _) rfl) ?_
                refine l_g1 rfl rfl (fun hG => v_loadA (by kernel_rfl) rfl (by first | exact HB4.pv | exact HB5.pv | exact HB2.pv | assumption) rfl) ?_
                refine l_g1f rfl rfl (fun hG => to_f1 (by kernel_rfl) (gd hG rfl) (refMay_c (AgV.mkMs (m := { hdM l with ents := es }) (HS7) (SlV.nil _ _ _) hwm))) ?_
                rintro w145 e145
                have zs_e145 := e145.size
                replace E := E.trans (Ext.keep e145)
                replace HB2 := HB2.ext e145
                replace HB5 := HB5.ext e145
                replace HS7 := HS7.ext e145
                replace HB4 := HB4.ext e145
                replace HR := HR.ext e145
                refine l_g1 rfl rfl (fun hG => v_not (gd hG rfl)) ?_
                refine l_v (v_or rfl rfl) ?_
                refine l_nil ?_
                refine n_then ?_
                refine c_cond rfl rfl (fun hz => ?_) (fun hz => ?_)
                · skip
                  refine c_seq ?_
                  refine wp_reg (by decide +kernel) ?_
                  refine l_v (v_build (pl := [(0, 1), (1, 1), (2, 1), (3, 1), (4, 1), (5, 1), (6, 1), (7, 1), (8, 1), (9, 1), (10, 1)]) (z := .agg #[.int .i64 0, .int .i64 0, .int .i64 0, .int .i64 0, .int .i64 0, .int .i64 0, .int .i64 0, .int .i64 0, .slice none 0 0, .bool false, .slice none 0 0]) (zl := [.int .i64 0, .int .i64 0, .int .i64 0, .int .i64 0, .int .i64 0, .int .i64 0, .int .i64 0, .int .i64 0, .slice none 0 0, .bool false, .slice none 0 0]) (by kernel_rfl) (by unfold kZero; kernel_rfl) rfl rfl (cells := [_, _, _, _, _, _, _, _, _, _, _]) rfl) ?_
                  refine l_to (to_storeA (n := 11) rfl rfl (show _ = (Value.agg _) from rfl) (by kernel_rfl) rfl (by first | (simp [slice_one]; done) | (simp only [List.forall_mem_cons, List.cons_append, List.nil_append]; repeat' (first | exact rfl | apply And.intro | (intro u hu; cases hu; done)))) HB2 (by first | exact of_decide_eq_true rfl | (simp; done) | decide) ?_)
                  rintro w146 HX146 k146 z146
                  have zs_k146 := k146.size
                  replace E := E.step k146 (by intro i hi he; (try dsimp only [NoK] at hi he ⊢); first | exact he.elim | omega | exact he)
                  replace HB5 := HB5.keep k146 (by intro h; (try dsimp only at h); first | omega)
                  replace HS7 := HS7.keep k146 (by intro i _ hi he; (try dsimp only [NoK, AllB] at hi he); first | exact hi.elim | exact he.elim | omega | (rcases hi with hi | hi <;> omega) | (rcases he with he | he <;> omega))
                  replace HB4 := HB4.keep k146 (by intro h; (try dsimp only at h); first | omega)
                  replace HR := HR.keep k146 (by intro h; have h := h; (try dsimp only [NoK] at h); first | exact h | omega | (rcases h with h | h <;> omega)) (by intro i hi he; have hi0 := hi; have hi := hi; have he := he; (try dsimp only [NoK] at hi he); first | exact he.elim | omega | (have := hF i hi0; omega))
                  replace HB2 := HX146
                  clear HX146
                  try simp only [List.set_cons_zero, List.set_cons_succ, setAt, List.take_zero, List.take_succ_cons, List.drop_zero, List.drop_succ_cons, List.nil_append, List.cons_append, List.append_nil, List.length_cons, List.length_nil, Nat.zero_add, Nat.reduceAdd, List.drop_nil] at HB2
                  refine l_v (v_assign rfl) ?_
                  refine l_nil ?_
                  refine n_then ?_
                  refine c_ret ?_
                  refine r_then ?_
                  refine ret2cv (n := 11) rfl (by decide) (by decide) rfl (by kernel_rfl) HB2.pv rfl (show _ = (Value.int _ _) from rfl) ?_
                  have hn : ¬ (ok7 = true ∧ l7 = [] ∧ mayN ({ hdM l with ents := es }) = true) := by
                    rintro ⟨h1, h2, h3⟩
                    rw [h1, h2, h3] at hz; simp at hz
                  rw [kN67 (q := (l7, ok7)) (.inr h7) hE7, if_neg hn]
                  exact ⟨⟨_, rfl, zero_ag⟩, E⟩
                · skip
                  refine c_skip ?_
                  refine n_then ?_
                  refine c_seq ?_
                  refine wp_reg (by decide +kernel) ?_
                  refine l_v (v_loadA (by kernel_rfl) rfl (by first | exact HB4.pv | exact HB5.pv | exact HB2.pv | assumption) rfl) ?_
                  refine l_to (to_storeA (n := 11) rfl rfl (show _ = (Value.agg _) from rfl) (by kernel_rfl) rfl (by first | (simp [slice_one]; done) | (simp only [List.forall_mem_cons, List.cons_append, List.nil_append]; repeat' (first | exact rfl | apply And.intro | (intro u hu; cases hu; done)))) HB2 (by first | exact of_decide_eq_true rfl | (simp; done) | decide) ?_)
                  rintro w147 HX147 k147 z147
                  have zs_k147 := k147.size
                  replace E := E.step k147 (by intro i hi he; (try dsimp only [NoK] at hi he ⊢); first | exact he.elim | omega | exact he)
                  replace HB5 := HB5.keep k147 (by intro h; (try dsimp only at h); first | omega)
                  replace HS7 := HS7.keep k147 (by intro i _ hi he; (try dsimp only [NoK, AllB] at hi he); first | exact hi.elim | exact he.elim | omega | (rcases hi with hi | hi <;> omega) | (rcases he with he | he <;> omega))
                  replace HB4 := HB4.keep k147 (by intro h; (try dsimp only at h); first | omega)
                  replace HR := HR.keep k147 (by intro h; have h := h; (try dsimp only [NoK] at h); first | exact h | omega | (rcases h with h | h <;> omega)) (by intro i hi he; have hi0 := hi; have hi := hi; have he := he; (try dsimp only [NoK] at hi he); first | exact he.elim | omega | (have := hF i hi0; omega))
                  replace HB2 := HX147
                  clear HX147
                  try simp only [List.set_cons_zero, List.set_cons_succ, setAt, List.take_zero, List.take_succ_cons, List.drop_zero, List.drop_succ_cons, List.nil_append, List.cons_append, List.append_nil, List.length_cons, List.length_nil, Nat.zero_add, Nat.reduceAdd, List.drop_nil] at HB2
                  refine l_v (v_assign rfl) ?_
                  refine l_nil ?_
                  refine n_then ?_
                  refine c_ret ?_
                  refine ret2cv (n := 11) rfl (by decide) (by decide) rfl (by kernel_rfl) HB2.pv rfl (show _ = (Value.int _ _) from rfl) ?_
                  have hn : ok7 = true ∧ l7 = [] ∧ mayN ({ hdM l with ents := es }) = true := by
                    simp only [Bool.or_eq_false_iff, Bool.not_eq_false', decide_eq_false_iff_not] at hz
                    refine ⟨hz.1.1, ?_, hz.2⟩
                    exact List.eq_nil_of_length_eq_zero (by have := hz.1.2; omega)
                  rw [kN67 (q := (l7, ok7)) (.inr h7) hE7, if_pos hn]
                  exact ⟨⟨_, rfl, AgV.mkMs (m := { hdM l with ents := es }) ((HS7).mono fun _ _ _ => trivial) (SlV.nil _ _ _) hwm⟩, E⟩
              · skip
                have h7 := dfalse h7
                have hwm : (hdM l).Wf := ⟨qV_wf _, qV_wf _, qV_wf _, qV_wf _, qV_wf _, i64_0, i64_0, i64_0⟩
                refine c_skip ?_
                refine n_blk ?_
                refine n_then ?_
                refine c_seq ?_
                refine c_seq ?_
                refine wp_reg (by decide +kernel) ?_
                refine l_v (v_move (t := .pointer _) rfl) ?_
                refine l_v (v_nilCheck rfl) ?_
                refine l_v (v_fieldAddr (off := 1) (ft := 4) (by kernel_rfl) rfl) ?_
                refine l_v (v_load (by kernel_rfl) rfl (by first | exact HB4.pv 1 _ rfl | exact HB5.pv 1 _ rfl | exact HB2.pv 1 _ rfl | assumption)) ?_
                refine l_v (v_not rfl) ?_
                refine l_v (v_move (t := .bool _) rfl) ?_
                refine l_g1 rfl rfl (fun hG => v_move (t := .pointer _) rfl) ?_
                refine l_g1 rfl rfl (fun hG => v_nilCheck (gd hG rfl)) ?_
                refine l_g1 rfl rfl (fun hG => v_fieldAddr (off := 0) (ft := 124) (by kernel_rfl) (gd hG rfl)) ?_
                refine l_g1 rfl rfl (fun hG => v_load (by kernel_rfl) (gd hG rfl) (by first | exact HB4.pv 0 _ rfl | exact HB5.pv 0 _ rfl | exact HB2.pv 0 _ rfl | assumption)) ?_
                refine l_g1f rfl rfl (fun hG => to_f1 (by kernel_rfl) (gd hG rfl) (refLeft_c HR)) ?_
                rintro w148 e148
                have zs_e148 := e148.size
                replace E := E.trans (Ext.keep e148)
                replace HB2 := HB2.ext e148
                replace HB5 := HB5.ext e148
                replace HB4 := HB4.ext e148
                replace HR := HR.ext e148
                refine l_g1 rfl rfl (fun hG => v_gtr (gd hG rfl) rfl) ?_
                refine l_v (v_or rfl rfl) ?_
                refine l_v (v_move (t := .bool _) rfl) ?_
                refine l_g1 rfl rfl (fun hG => v_loadA (by kernel_rfl) rfl (by first | exact HB4.pv | exact HB5.pv | exact HB2.pv | assumption) rfl) ?_
                refine l_g1f rfl rfl (fun hG => to_f1 (by kernel_rfl) (gd hG rfl) (refMay_c (AgV.mkMs (m := hdM l) (SlV.nil tEn _ NoK) (SlV.nil tU8 _ NoK) hwm))) ?_
                rintro w149 e149
                have zs_e149 := e149.size
                replace E := E.trans (Ext.keep e149)
                replace HB2 := HB2.ext e149
                replace HB5 := HB5.ext e149
                replace HB4 := HB4.ext e149
                replace HR := HR.ext e149
                refine l_g1 rfl rfl (fun hG => v_not (gd hG rfl)) ?_
                refine l_v (v_or rfl rfl) ?_
                refine l_nil ?_
                refine n_then ?_
                refine c_cond rfl rfl (fun hz => ?_) (fun hz => ?_)
                · skip
                  refine c_seq ?_
                  refine wp_reg (by decide +kernel) ?_
                  refine l_v (v_build (pl := [(0, 1), (1, 1), (2, 1), (3, 1), (4, 1), (5, 1), (6, 1), (7, 1), (8, 1), (9, 1), (10, 1)]) (z := .agg #[.int .i64 0, .int .i64 0, .int .i64 0, .int .i64 0, .int .i64 0, .int .i64 0, .int .i64 0, .int .i64 0, .slice none 0 0, .bool false, .slice none 0 0]) (zl := [.int .i64 0, .int .i64 0, .int .i64 0, .int .i64 0, .int .i64 0, .int .i64 0, .int .i64 0, .int .i64 0, .slice none 0 0, .bool false, .slice none 0 0]) (by kernel_rfl) (by unfold kZero; kernel_rfl) rfl rfl (cells := [_, _, _, _, _, _, _, _, _, _, _]) rfl) ?_
                  refine l_to (to_storeA (n := 11) rfl rfl (show _ = (Value.agg _) from rfl) (by kernel_rfl) rfl (by first | (simp [slice_one]; done) | (simp only [List.forall_mem_cons, List.cons_append, List.nil_append]; repeat' (first | exact rfl | apply And.intro | (intro u hu; cases hu; done)))) HB2 (by first | exact of_decide_eq_true rfl | (simp; done) | decide) ?_)
                  rintro w150 HX150 k150 z150
                  have zs_k150 := k150.size
                  replace E := E.step k150 (by intro i hi he; (try dsimp only [NoK] at hi he ⊢); first | exact he.elim | omega | exact he)
                  replace HB5 := HB5.keep k150 (by intro h; (try dsimp only at h); first | omega)
                  replace HB4 := HB4.keep k150 (by intro h; (try dsimp only at h); first | omega)
                  replace HR := HR.keep k150 (by intro h; have h := h; (try dsimp only [NoK] at h); first | exact h | omega | (rcases h with h | h <;> omega)) (by intro i hi he; have hi0 := hi; have hi := hi; have he := he; (try dsimp only [NoK] at hi he); first | exact he.elim | omega | (have := hF i hi0; omega))
                  replace HB2 := HX150
                  clear HX150
                  try simp only [List.set_cons_zero, List.set_cons_succ, setAt, List.take_zero, List.take_succ_cons, List.drop_zero, List.drop_succ_cons, List.nil_append, List.cons_append, List.append_nil, List.length_cons, List.length_nil, Nat.zero_add, Nat.reduceAdd, List.drop_nil] at HB2
                  refine l_v (v_assign rfl) ?_
                  refine l_nil ?_
                  refine n_then ?_
                  refine c_ret ?_
                  refine r_then ?_
                  refine ret2cv (n := 11) rfl (by decide) (by decide) rfl (by kernel_rfl) HB2.pv rfl (show _ = (Value.int _ _) from rfl) ?_
                  have hn : ¬ ((q5 l).2 = true ∧ (q5 l).1 = [] ∧ mayN (hdM l) = true) := by
                    rintro ⟨h1, h2, h3⟩
                    rw [h1, h2, h3] at hz; simp at hz
                  rw [kN0 h1 h2 h3 h4 h5 h6 h7, if_neg hn]
                  exact ⟨⟨_, rfl, zero_ag⟩, E⟩
                · skip
                  refine c_skip ?_
                  refine n_then ?_
                  refine c_seq ?_
                  refine wp_reg (by decide +kernel) ?_
                  refine l_v (v_loadA (by kernel_rfl) rfl (by first | exact HB4.pv | exact HB5.pv | exact HB2.pv | assumption) rfl) ?_
                  refine l_to (to_storeA (n := 11) rfl rfl (show _ = (Value.agg _) from rfl) (by kernel_rfl) rfl (by first | (simp [slice_one]; done) | (simp only [List.forall_mem_cons, List.cons_append, List.nil_append]; repeat' (first | exact rfl | apply And.intro | (intro u hu; cases hu; done)))) HB2 (by first | exact of_decide_eq_true rfl | (simp; done) | decide) ?_)
                  rintro w151 HX151 k151 z151
                  have zs_k151 := k151.size
                  replace E := E.step k151 (by intro i hi he; (try dsimp only [NoK] at hi he ⊢); first | exact he.elim | omega | exact he)
                  replace HB5 := HB5.keep k151 (by intro h; (try dsimp only at h); first | omega)
                  replace HB4 := HB4.keep k151 (by intro h; (try dsimp only at h); first | omega)
                  replace HR := HR.keep k151 (by intro h; have h := h; (try dsimp only [NoK] at h); first | exact h | omega | (rcases h with h | h <;> omega)) (by intro i hi he; have hi0 := hi; have hi := hi; have he := he; (try dsimp only [NoK] at hi he); first | exact he.elim | omega | (have := hF i hi0; omega))
                  replace HB2 := HX151
                  clear HX151
                  try simp only [List.set_cons_zero, List.set_cons_succ, setAt, List.take_zero, List.take_succ_cons, List.drop_zero, List.drop_succ_cons, List.nil_append, List.cons_append, List.append_nil, List.length_cons, List.length_nil, Nat.zero_add, Nat.reduceAdd, List.drop_nil] at HB2
                  refine l_v (v_assign rfl) ?_
                  refine l_nil ?_
                  refine n_then ?_
                  refine c_ret ?_
                  refine ret2cv (n := 11) rfl (by decide) (by decide) rfl (by kernel_rfl) HB2.pv rfl (show _ = (Value.int _ _) from rfl) ?_
                  have hn : (q5 l).2 = true ∧ (q5 l).1 = [] ∧ mayN (hdM l) = true := by
                    simp only [Bool.or_eq_false_iff, Bool.not_eq_false', decide_eq_false_iff_not] at hz
                    refine ⟨hz.1.1, ?_, hz.2⟩
                    exact List.eq_nil_of_length_eq_zero (by have := hz.1.2; omega)
                  rw [kN0 h1 h2 h3 h4 h5 h6 h7, if_pos hn]
                  exact ⟨⟨_, rfl, AgV.mkMs (m := hdM l) ((SlV.nil tEn _ NoK).mono fun _ _ _ => trivial) ((SlV.nil tU8 _ NoK).mono fun _ _ _ => trivial) hwm⟩, E⟩
end Go.Proofs.Ytaidpdjlchnonaa
