/- A part of the proof: steps and lemmas for the walks through the given program. -/
import Derived.Test.YtogafjlbpodgjaaGreatC30
import Derived.Test.YtogafjlbpodgjaaGreatCd
namespace Go.Proofs.YtogafjlbpodgjaaGreat
open Go.Vc
set_option linter.unusedVariables false
set_option linter.unusedSimpArgs false
set_option maxRecDepth 100000

theorem ik_parts {l : List UInt8} {x0 : IkV} (hm : mayIk x0 = true) (h : l = ikW x0) : ∃ (sq kd : Nat) (T : List UInt8), x0.2.1 = (sq : Int) ∧ x0.2.2.1 = (kd : Int) ∧ sq ≤ 2147483647 ∧ kd ≤ 2 ∧ T = (if kd = 1 then wBytes x0.2.2.2 else []) ∧ (kd ≠ 1 → x0.2.2.2 = []) ∧
    rdBytes 32 l = .ok (x0.1, wNum sq ++ (wNum kd ++ T)) ∧ rdNum (wNum sq ++ (wNum kd ++ T)) = some (sq, wNum kd ++ T) ∧ rdNum (wNum kd ++ T) = some (kd, T) ∧ (kd = 1 → rdBytes 65536 T = .ok (x0.2.2.2, [])) := by
  obtain ⟨key, seq, kind, val⟩ := x0
  simp only [mayIk, Bool.and_eq_true, decide_eq_true_eq, Bool.or_eq_true] at hm
  obtain ⟨⟨⟨⟨⟨g1, g2⟩, g3⟩, g4⟩, g5⟩, g6⟩ := hm
  obtain ⟨sq, rfl⟩ := Int.eq_ofNat_of_zero_le (show 0 ≤ seq by omega)
  obtain ⟨kd, rfl⟩ := Int.eq_ofNat_of_zero_le (show 0 ≤ kind by rcases g6 with h | ⟨h, _⟩ <;> omega)
  have hkd : kd ≤ 2 := by rcases g6 with h | ⟨h, _⟩ <;> omega
  have hv : kd ≠ 1 → val = [] := fun hk => by
    rcases g6 with h | ⟨_, h⟩
    · omega
    · cases val <;> simp_all
  refine ⟨sq, kd, _, rfl, rfl, by omega, hkd, rfl, hv, ?_, rdNum_wNum zo _, rdNum_wNum zo _, fun hk => ?_⟩
  · have h2 : ikW (key, (sq : Int), (kd : Int), val) = wBytes key ++ (wNum sq ++ (wNum kd ++ (if kd = 1 then wBytes val else []))) := by
      simp only [ikW, Int.toNat_natCast, List.append_assoc]
      by_cases hk : kd = 1
      · rw [if_pos hk, if_pos zo]
      · rw [if_neg hk, if_neg zo]
    rw [h, h2]; exact rdBytes_wB' g2 zq
  · rw [if_pos hk]
    have := rdBytes_wB' (x := val) (r := []) (most := 65536) g5 zq
    rwa [List.append_nil] at this
set_option maxHeartbeats 4000000 in
theorem refiRead_c {w : World} {F : Nat → Prop} {v : Value} {l : List UInt8} (HS1 : Bv w F v l) (hl : l.length ≤ 1000000) : CallsR Tryz.prog 88 #[v] w (fun o w' => (∃ u x e, o = .tuple #[u, .int .i64 e] ∧ AgV tIk w' (fun i => w.heap.size ≤ i) u x ∧ ∀ x0, mayIk x0 = true → l = ikW x0 → x = x0 ∧ e = 0) ∧ Ext w w') := by
 obtain ⟨a0, c0, rfl⟩ := HS1.shape
 refine enter 79 Tryz.func88 rfl rfl (by simp) ?_
 refine c_seq ?_
 have E := Keep.refl (K := NoK) w
 replace HS1 := HS1.all
 refine wp_reg zd (l_to (to_alloc (z := (.agg #[.slice none 0 0, .int .i64 0, .int .i64 0, .slice none 0 0])) (by unfold kZero; kernel_rfl) ?_))
 rintro b2 w2 zb2 HB2 e2 z2
 have := e2.size
 try simp only [Value.cells] at HB2
 refine l_v (v_assign rfl) (l_nil (n_then (c_seq (wp_reg zd (l_v (zmS rfl) (l_v (v_build (pl := [(0, 1)]) (z := .agg #[.slice none 0 0]) (zl := [.slice none 0 0]) zk (by unfold kZero; kernel_rfl) rfl rfl (cells := [_]) rfl) ?_))))))
 refine l_to (to_box (zvA rfl) ?_)
 rintro b22 w22 zb22 HB22 e22 z22
 have := e22.size
 try simp only [Value.cells] at HB22
 replace HS1 := (HS1.ext e2).ext e22
 have HRp : Rf _ b22 (fun k => k < w.heap.size) l := ⟨_, HB22, HS1⟩
 refine l_v (zaP rfl) (l_nil (n_then (c_seq (wp_reg zd (l_v (zmP rfl) (l_to (to_f2 zk (zvP rfl) (zvI rfl) (CallsR.mono (refRBytes_c (most := 32) HRp (fun k h => by omega) zo zq zq zo) ?_))))))))
 rintro r w24 ⟨hr24, k24⟩
 have := k24.size
 obtain ⟨a24, c24, er24, key, l1, rfl, HS24, HRp, hx24⟩ := TryF_any hr24
 obtain ⟨n24, hn24⟩ : ∃ n, n = w24.heap.size := ⟨_, rfl⟩
 replace HS24 := HS24.mono (F' := fun b => w22.heap.size ≤ b ∧ b < n24) fun b hb h => ⟨h, by omega⟩
 replace E := (E.trans e2.keep).trans e22.keep
 replace HB2 := HB2.ext e22
 have hl1 : l1.length ≤ l.length := by
  rcases hx24 with ⟨_, hq⟩ | ⟨_, _, h, _⟩
  ·
   have := (rdBytes_le' (m := 32) hq).1; omega
  rw [h]; exact Nat.le_refl _
 obtain ⟨sq, es, hn1, hnl1, hnx1⟩ := numV_any l1
 refine l_v (zmT rfl) (l_v (v_extract (t := .slice _ _ _) rfl rfl) (l_v (v_extract (t := .int _ _) rfl rfl) (l_v (zaS rfl) (l_v (zaI rfl) (l_nil (n_then (c_seq (wp_reg zd (l_v (zmP rfl) ?_)))))))))
 refine l_to (to_f1 zk (zvP rfl) (CallsR.mono (refRNumber_c HRp zo) ?_))
 rintro r w29 ⟨hr29, HRp, k29⟩
 have := k29.size
 rw [hn1] at hr29
 subst hr29
 replace HS1 := (HS1.keep k24 dj1).keep k29 dj1
 replace HS24 := HS24.keep k29 dj1
 obtain ⟨l2, hl2⟩ : ∃ l2, l2 = rest l1 := ⟨_, rfl⟩
 have hll2 := rest_le l1
 rw [← hl2] at HRp hnx1 hll2
 obtain ⟨kd, ek, hn2, hnl2, hnx2⟩ := numV_any l2
 refine l_v (zmT rfl) (l_v (v_extract (t := .int _ _) rfl rfl) (l_v (v_extract (t := .int _ _) rfl rfl) (l_v (zaI rfl) (l_v (zaI rfl) (l_nil (n_then (c_seq (wp_reg zd (l_v (zmP rfl) ?_)))))))))
 refine l_to (to_f1 zk (zvP rfl) (CallsR.mono (refRNumber_c HRp zo) ?_))
 rintro r w34 ⟨hr34, HRp, k34⟩
 have := k34.size
 rw [hn2] at hr34
 subst hr34
 replace HS1 := HS1.keep k34 dj1
 replace HS24 := HS24.keep k34 dj1
 obtain ⟨l3, hl3⟩ : ∃ l3, l3 = rest l2 := ⟨_, rfl⟩
 have hll3 := rest_le l2
 rw [← hl3] at HRp hnx2 hll3
 replace E := ((E.step k24 dj3).step k29 dj3).step k34 dj3
 replace HB2 := ((HB2.keep k24 dj4).keep k29 dj4).keep k34 dj4
 have hpe : ∀ x0, mayIk x0 = true → l = ikW x0 → er24 = 0 ∧ es = 0 ∧ ek = 0 ∧ sq ≤ 2147483647 ∧ kd ≤ 2 ∧ key = x0.1 ∧ x0.2.1 = (sq : Int) ∧ x0.2.2.1 = (kd : Int) ∧ (kd ≠ 1 → x0.2.2.2 = [] ∧ l3 = []) ∧ (kd = 1 → rdBytes 65536 l3 = .ok (x0.2.2.2, [])) := by
  intro x0 hm h
  obtain ⟨sq0, kd0, T, p1, p2, p3, p4, p5, p6, p7, p8, p9, p10⟩ := ik_parts hm h
  rcases hx24 with ⟨z1, hq⟩ | ⟨_, _, _, hq⟩
  ·
   rw [show rdBytes 32 l = _ from hq] at p7; cases p7
   rcases hnx1 with ⟨z2, _, hq2⟩ | ⟨_, _, _, hq2⟩
   ·
    rw [p8] at hq2; cases hq2
    rcases hnx2 with ⟨z3, _, hq3⟩ | ⟨_, _, _, hq3⟩
    ·
     rw [p9] at hq3; cases hq3
     exact ⟨z1, z2, z3, p3, p4, rfl, p1, p2, fun hk => ⟨p6 hk, by rw [p5, if_neg hk]⟩, p10⟩
    rw [p9] at hq3; cases hq3
   rw [p8] at hq2; cases hq2
  rw [show rdBytes 32 l = _ from hq] at p7; cases p7
 refine l_v (zmT rfl) (l_v (v_extract (t := .int _ _) rfl rfl) (l_v (v_extract (t := .int _ _) rfl rfl) (l_v (zaI rfl) (l_v (zaI rfl) (l_nil (n_then (c_seq (c_seq (wp_reg zd ?_)))))))))
 refine l_v (zmI rfl) (l_v (v_neq rfl rfl) ?_)
 refine l_v (zmB rfl) (l_g1 rfl rfl (fun hG => zmI rfl) (l_g1 rfl rfl (fun hG => v_neq (gd hG rfl) rfl) ?_))
 refine l_v (v_or rfl rfl) ?_
 refine l_v (zmB rfl) (l_g1 rfl rfl (fun hG => zmI rfl) (l_g1 rfl rfl (fun hG => v_neq (gd hG rfl) rfl) ?_))
 refine l_v (v_or rfl rfl) ?_
 refine l_v (zmB rfl) (l_g1 rfl rfl (fun hG => zmI rfl) (l_g1 rfl rfl (fun hG => v_gtr (gd hG rfl) rfl) ?_))
 refine l_v (v_or rfl rfl) ?_
 refine l_v (zmB rfl) (l_g1 rfl rfl (fun hG => zmI rfl) (l_g1 rfl rfl (fun hG => v_gtr (gd hG rfl) rfl) ?_))
 refine l_v (v_or rfl rfl) ?_
 refine l_nil (n_then (c_cond rfl rfl (fun hc => ?_) (fun hc => ?_)))
 ·
  refine c_seq (wp_reg zd (l_v (v_build (pl := [(0, 1), (1, 1), (2, 1), (3, 1)]) (z := .agg #[.slice none 0 0, .int .i64 0, .int .i64 0, .slice none 0 0]) (zl := [.slice none 0 0, .int .i64 0, .int .i64 0, .slice none 0 0]) zk (by unfold kZero; kernel_rfl) rfl rfl (cells := [_, _, _, _]) rfl) ?_))
  refine l_to (to_storeA (n := 4) rfl rfl (zvA rfl) zk rfl (by first | (simp [slice_one]; done) | (simp only [List.forall_mem_cons, List.cons_append, List.nil_append]; repeat' (first | exact rfl | apply And.intro | (intro u hu; cases hu; done)))) HB2 dj5 ?_)
  rintro w50 HB2 k50 z50
  have := k50.size
  try simp only [zS, Nat.zero_add, Nat.reduceAdd, List.drop_nil] at HB2
  refine l_v (v_assign rfl) (l_nil (n_then (c_ret (r_then (ret2cv (n := 4) rfl zq zq rfl zk HB2.pv rfl (zvI rfl) ?_)))))
  replace E := E.step k50 dj3
  refine ⟨⟨_, ([], 0, 0, []), 4, rfl, ⟨_, rfl, tIk_mk (SlV.nil _ _ _) (SlV.nil _ _ _) ⟨by decide, by decide⟩ ⟨by decide, by decide⟩⟩, fun x0 hm h => ?_⟩, E⟩
  replace HS1 := HS1.keep k50 dj1
  replace HS24 := HS24.keep k50 dj1
  replace HRp := HRp.keep k50 dj7 (by intro i hi he; have hi0 := hi; have hi := hi; have he := he; (try dsimp only [NoK] at hi he); first | exact he.elim | omega | (have := hF i hi0; omega))
  obtain ⟨z1, z2, z3, z4, z5, _⟩ := hpe x0 hm h
  subst z1
  subst z2
  subst z3
  simp at hc; omega
 have hc2 : er24 = 0 ∧ es = 0 ∧ ek = 0 ∧ sq ≤ 2147483647 ∧ kd ≤ 2 := by simp at hc; omega
 refine c_skip (n_then (c_seq (wp_reg zd (l_v (zmS rfl) (l_v (zmI rfl) (l_v (v_conv (ds := .int .u64) zk zk rfl (by first | exact wr_i64 zo zo | rfl)) ?_))))))
 refine l_v (zmI rfl) (l_v (v_conv (ds := .int .u64) zk zk rfl (by first | exact wr_i64 zo zo | rfl)) ?_)
 refine l_v (v_build (pl := [(0, 1), (1, 1), (2, 1), (3, 1)]) (z := .agg #[.slice none 0 0, .int .i64 0, .int .i64 0, .slice none 0 0]) (zl := [.slice none 0 0, .int .i64 0, .int .i64 0, .slice none 0 0]) zk (by unfold kZero; kernel_rfl) rfl rfl (cells := [_, _, _, _]) rfl) ?_
 refine l_to (to_alloc (z := (.agg #[.slice none 0 0, .int .i64 0, .int .i64 0, .slice none 0 0])) (by unfold kZero; kernel_rfl) ?_)
 rintro b11 w11 zb11 HB11 e11 z11
 have := e11.size
 try simp only [Value.cells] at HB11
 refine l_to (to_storeA (n := 4) rfl rfl (zvA rfl) zk rfl (by first | (simp [slice_one]; done) | (simp only [List.forall_mem_cons, List.cons_append, List.nil_append]; repeat' (first | exact rfl | apply And.intro | (intro u hu; cases hu; done)))) HB11 dj5 ?_)
 rintro w56 HB11 k56 z56
 have := k56.size
 try simp only [zS, Nat.zero_add, Nat.reduceAdd, List.drop_nil] at HB11
 refine l_nil (n_then (c_seq (c_seq (wp_reg zd (l_v (zmI rfl) (l_v (v_eql rfl rfl) ?_))))))
 replace E := (E.trans e11.keep).step k56 dj3
 replace HS1 := (HS1.ext e11).keep k56 dj1
 replace HB2 := (HB2.ext e11).keep k56 dj4
 replace HS24 := (HS24.ext e11).keep k56 dj1
 replace HRp := (HRp.ext e11).keep k56 dj7 (by intro i hi he; have hi0 := hi; have hi := hi; have he := he; (try dsimp only [NoK] at hi he); first | exact he.elim | omega | (have := hF i hi0; omega))
 refine l_nil (n_then (c_cond rfl rfl (fun hk => ?_) (fun hk => ?_)))
 ·
  have hk1 : kd = 1 := by have := dtrue hk; omega
  refine c_seq (wp_reg zd (l_v (zmP rfl) (l_to (to_f2 zk (zvP rfl) (zvI rfl) (CallsR.mono (refRBytes_c (most := 65536) HRp (fun k h => by omega) zo zq zq zo) ?_)))))
  rintro r w61 ⟨hr61, k61⟩
  have := k61.size
  obtain ⟨a61, c61, er61, val, l4, rfl, HS61, HRp, hx61⟩ := TryF_any hr61
  refine l_v (zmT rfl) (l_v (v_extract (t := .slice _ _ _) rfl rfl) (l_v (v_extract (t := .int _ _) rfl rfl) (l_v (zaS rfl) (l_v (zaI rfl) (l_nil (n_then (c_seq (c_seq (wp_reg zd ?_)))))))))
  refine l_v (zmI rfl) (l_v (v_neq rfl rfl) ?_)
  replace E := E.step k61 dj3
  replace HS1 := HS1.keep k61 dj1
  replace HB2 := HB2.keep k61 dj4
  replace HS24 := HS24.keep k61 dj1
  replace HB11 := HB11.keep k61 dj4
  refine l_nil (n_then (c_cond rfl rfl (fun he => ?_) (fun he => ?_)))
  ·
   refine c_seq (wp_reg zd (l_v (v_build (pl := [(0, 1), (1, 1), (2, 1), (3, 1)]) (z := .agg #[.slice none 0 0, .int .i64 0, .int .i64 0, .slice none 0 0]) (zl := [.slice none 0 0, .int .i64 0, .int .i64 0, .slice none 0 0]) zk (by unfold kZero; kernel_rfl) rfl rfl (cells := [_, _, _, _]) rfl) ?_))
   refine l_to (to_storeA (n := 4) rfl rfl (zvA rfl) zk rfl (by first | (simp [slice_one]; done) | (simp only [List.forall_mem_cons, List.cons_append, List.nil_append]; repeat' (first | exact rfl | apply And.intro | (intro u hu; cases hu; done)))) HB2 dj5 ?_)
   rintro w66 HB2 k66 z66
   have := k66.size
   try simp only [zS, Nat.zero_add, Nat.reduceAdd, List.drop_nil] at HB2
   refine l_v (v_assign rfl) (l_nil (n_then (c_ret (r_then (r_then (ret2cv (n := 4) rfl zq zq rfl zk HB2.pv rfl (zvI rfl) ?_))))))
   replace E := E.step k66 dj3
   refine ⟨⟨_, ([], 0, 0, []), 4, rfl, ⟨_, rfl, tIk_mk (SlV.nil _ _ _) (SlV.nil _ _ _) ⟨by decide, by decide⟩ ⟨by decide, by decide⟩⟩, fun x0 hm h => ?_⟩, E⟩
   replace HS1 := HS1.keep k66 dj1
   replace HS24 := HS24.keep k66 dj1
   replace HB11 := HB11.keep k66 dj4
   replace HS61 := HS61.keep k66 dj1
   replace HRp := HRp.keep k66 dj7 (by intro i hi he; have hi0 := hi; have hi := hi; have he := he; (try dsimp only [NoK] at hi he); first | exact he.elim | omega | (have := hF i hi0; omega))
   obtain ⟨_, _, _, _, _, _, _, _, _, hp⟩ := hpe x0 hm h
   rcases hx61 with ⟨z1, _⟩ | ⟨_, _, _, hq⟩
   ·
    subst z1; simp at he
   rw [show rdBytes 65536 l3 = _ from hq] at hp; cases hp hk1
  refine c_skip (n_then (wp_reg zd (l_v (zmS rfl) (l_v (v_fieldAddr (off := 3) (ft := 24) zk rfl) (l_to (to_store rfl rfl (zvS rfl) rfl zk HB11 (by simp) ?_))))))
  rintro w68 HB11 k68 z68
  have := k68.size
  try simp only [zS, Nat.zero_add, Nat.reduceAdd, List.drop_nil] at HB11
  refine l_nil (n_then (c_seq (c_seq ?_)))
  have he0 : er61 = 0 := by simpa using he
  replace HS24 := HS24.keep k68 dj1
  replace HS61 := HS61.keep k68 dj1
  have HG68 : AgV tIk w68 (fun i => w22.heap.size ≤ i) (.agg #[.slice a24 key.length c24, .int .i64 sq, .int .i64 kd, .slice a61 val.length c61]) (key, (sq : Int), (kd : Int), val) := ⟨_, rfl, tIk_mk (HS24.mono fun b _ h => h.1) (HS61.mono fun b _ h => by omega) ⟨by omega, by omega⟩ ⟨by omega, by omega⟩⟩
  replace E := E.step k68 dj3
  replace HS1 := HS1.keep k68 dj1
  replace HB2 := HB2.keep k68 dj4
  replace HRp := HRp.keep k68 dj7 (by intro i hi he; have hi0 := hi; have hi := hi; have he := he; (try dsimp only [NoK] at hi he); first | exact he.elim | omega | (have := hF i hi0; omega))
  obtain ⟨hv1, hv2⟩ : (∀ x0, mayIk x0 = true → l = ikW x0 → (key, (sq : Int), (kd : Int), val) = x0 ∧ l4 = []) ∧ True := ⟨fun x0 hm h => by
   obtain ⟨_, _, _, _, _, h1, h2, h3, _, hp⟩ := hpe x0 hm h
   rcases hx61 with ⟨z1, hq⟩ | ⟨z1, _⟩
   ·
    rw [show rdBytes 65536 l3 = _ from hq] at hp; cases hp hk1
    obtain ⟨x1, x2, x3, x4⟩ := x0
    simp only at h1 h2 h3
    subst h1 h2 h3
    exact ⟨rfl, rfl⟩
   exact absurd he0 z1, trivial⟩
  refine wp_reg zd (l_v (zmP rfl) (l_to (to_f1 zk (zvP rfl) (CallsR.mono (refLeft_c HRp) ?_))))
  rintro _ w101 ⟨rfl, e101⟩
  have := e101.size
  refine l_v (v_gtr rfl rfl) ?_
  replace HB2 := HB2.ext e101
  replace HB11 := HB11.ext e101
  refine l_v (zmB rfl) (l_g1 rfl rfl (fun hG => v_loadA zk rfl (by first | exact HB11.pv | exact HB2.pv | assumption) rfl) ?_)
  replace HG68 := HG68.ext e101
  refine l_g1f rfl rfl (fun hG => to_f1 zk (gd hG rfl) (refiMay_c HG68)) ?_
  rintro w102 e102
  have := e102.size
  refine l_g1 rfl rfl (fun hG => v_not (gd hG rfl)) ?_
  refine l_v (v_or rfl rfl) ?_
  replace E := (E.trans e101.keep).trans e102.keep
  replace HS1 := (HS1.ext e101).ext e102
  replace HS24 := (HS24.ext e101).ext e102
  replace HS61 := (HS61.ext e101).ext e102
  replace HRp := (HRp.ext e101).ext e102
  replace HB2 := HB2.ext e102
  replace HB11 := HB11.ext e102
  replace HG68 := HG68.ext e102
  refine l_nil (n_then (c_cond rfl rfl (fun hz => ?_) (fun hz => ?_)))
  ·
   refine c_seq (wp_reg zd (l_v (v_build (pl := [(0, 1), (1, 1), (2, 1), (3, 1)]) (z := .agg #[.slice none 0 0, .int .i64 0, .int .i64 0, .slice none 0 0]) (zl := [.slice none 0 0, .int .i64 0, .int .i64 0, .slice none 0 0]) zk (by unfold kZero; kernel_rfl) rfl rfl (cells := [_, _, _, _]) rfl) ?_))
   refine l_to (to_storeA (n := 4) rfl rfl (zvA rfl) zk rfl (by first | (simp [slice_one]; done) | (simp only [List.forall_mem_cons, List.cons_append, List.nil_append]; repeat' (first | exact rfl | apply And.intro | (intro u hu; cases hu; done)))) HB2 dj5 ?_)
   rintro w76 HB2 k76 z76
   have := k76.size
   try simp only [zS, Nat.zero_add, Nat.reduceAdd, List.drop_nil] at HB2
   refine l_v (v_assign rfl) (l_nil (n_then (c_ret (r_then (ret2cv (n := 4) rfl zq zq rfl zk HB2.pv rfl (zvI rfl) ?_)))))
   replace E := E.step k76 dj3
   refine ⟨⟨_, ([], 0, 0, []), 4, rfl, ⟨_, rfl, tIk_mk (SlV.nil _ _ _) (SlV.nil _ _ _) ⟨by decide, by decide⟩ ⟨by decide, by decide⟩⟩, fun x0 hm h => ?_⟩, E⟩
   replace HRp := HRp.keep k76 dj7 (by intro i hi he; have hi0 := hi; have hi := hi; have he := he; (try dsimp only [NoK] at hi he); first | exact he.elim | omega | (have := hF i hi0; omega))
   replace HB11 := HB11.keep k76 dj4
   obtain ⟨h1, h2⟩ := hv1 x0 hm h
   rw [h2, h1, hm] at hz; simp at hz
  refine c_skip (n_then (c_seq (wp_reg zd (l_v (v_loadA zk rfl (by first | exact HB11.pv | exact HB2.pv | assumption) rfl) ?_))))
  refine l_to (to_storeA (n := 4) rfl rfl (zvA rfl) zk rfl (by first | (simp [slice_one]; done) | (simp only [List.forall_mem_cons, List.cons_append, List.nil_append]; repeat' (first | exact rfl | apply And.intro | (intro u hu; cases hu; done)))) HB2 dj5 ?_)
  rintro w78 HB2 k78 z78
  have := k78.size
  try simp only [zS, Nat.zero_add, Nat.reduceAdd, List.drop_nil] at HB2
  refine l_v (v_assign rfl) (l_nil (n_then (c_ret (ret2cv (n := 4) rfl zq zq rfl zk HB2.pv rfl (zvI rfl) ?_))))
  replace E := E.step k78 dj3
  replace HG68 := HG68.keep k78 dj1
  exact ⟨⟨_, (key, (sq : Int), (kd : Int), val), 0, rfl, HG68.mono fun b _ h => by omega, fun x0 hm h => ⟨(hv1 x0 hm h).1, rfl⟩⟩, E⟩
 have hk1 : ¬ kd = 1 := by have := dfalse hk; omega
 have HG68 : AgV tIk w56 (fun i => w22.heap.size ≤ i) (.agg #[.slice a24 key.length c24, .int .i64 sq, .int .i64 kd, .slice none 0 0]) (key, (sq : Int), (kd : Int), []) := ⟨_, rfl, tIk_mk (HS24.mono fun b _ h => h.1) (SlV.nil _ _ _) ⟨by omega, by omega⟩ ⟨by omega, by omega⟩⟩
 have hv1 : ∀ x0, mayIk x0 = true → l = ikW x0 → (key, (sq : Int), (kd : Int), ([] : List UInt8)) = x0 ∧ l3 = [] := fun x0 hm h => by
  obtain ⟨_, _, _, _, _, h1, h2, h3, hp, _⟩ := hpe x0 hm h
  obtain ⟨h4, h5⟩ := hp hk1
  obtain ⟨x1, x2, x3, x4⟩ := x0
  simp only at h1 h2 h3 h4
  subst h1 h2 h3 h4
  exact ⟨rfl, h5⟩
 refine c_skip (n_then (c_seq (c_seq (wp_reg zd (l_v (zmP rfl) (l_to (to_f1 zk (zvP rfl) (CallsR.mono (refLeft_c HRp) ?_))))))))
 rintro _ w103 ⟨rfl, e103⟩
 have := e103.size
 refine l_v (v_gtr rfl rfl) ?_
 replace HB2 := HB2.ext e103
 replace HB11 := HB11.ext e103
 refine l_v (zmB rfl) (l_g1 rfl rfl (fun hG => v_loadA zk rfl (by first | exact HB11.pv | exact HB2.pv | assumption) rfl) ?_)
 replace HG68 := HG68.ext e103
 refine l_g1f rfl rfl (fun hG => to_f1 zk (gd hG rfl) (refiMay_c HG68)) ?_
 rintro w104 e104
 have := e104.size
 refine l_g1 rfl rfl (fun hG => v_not (gd hG rfl)) ?_
 refine l_v (v_or rfl rfl) ?_
 replace E := (E.trans e103.keep).trans e104.keep
 replace HS1 := (HS1.ext e103).ext e104
 replace HS24 := (HS24.ext e103).ext e104
 replace HRp := (HRp.ext e103).ext e104
 replace HB2 := HB2.ext e104
 replace HB11 := HB11.ext e104
 replace HG68 := HG68.ext e104
 refine l_nil (n_then (c_cond rfl rfl (fun hz => ?_) (fun hz => ?_)))
 ·
  refine c_seq (wp_reg zd (l_v (v_build (pl := [(0, 1), (1, 1), (2, 1), (3, 1)]) (z := .agg #[.slice none 0 0, .int .i64 0, .int .i64 0, .slice none 0 0]) (zl := [.slice none 0 0, .int .i64 0, .int .i64 0, .slice none 0 0]) zk (by unfold kZero; kernel_rfl) rfl rfl (cells := [_, _, _, _]) rfl) ?_))
  refine l_to (to_storeA (n := 4) rfl rfl (zvA rfl) zk rfl (by first | (simp [slice_one]; done) | (simp only [List.forall_mem_cons, List.cons_append, List.nil_append]; repeat' (first | exact rfl | apply And.intro | (intro u hu; cases hu; done)))) HB2 dj5 ?_)
  rintro w76 HB2 k76 z76
  have := k76.size
  try simp only [zS, Nat.zero_add, Nat.reduceAdd, List.drop_nil] at HB2
  refine l_v (v_assign rfl) (l_nil (n_then (c_ret (r_then (ret2cv (n := 4) rfl zq zq rfl zk HB2.pv rfl (zvI rfl) ?_)))))
  replace E := E.step k76 dj3
  refine ⟨⟨_, ([], 0, 0, []), 4, rfl, ⟨_, rfl, tIk_mk (SlV.nil _ _ _) (SlV.nil _ _ _) ⟨by decide, by decide⟩ ⟨by decide, by decide⟩⟩, fun x0 hm h => ?_⟩, E⟩
  replace HRp := HRp.keep k76 dj7 (by intro i hi he; have hi0 := hi; have hi := hi; have he := he; (try dsimp only [NoK] at hi he); first | exact he.elim | omega | (have := hF i hi0; omega))
  replace HB11 := HB11.keep k76 dj4
  obtain ⟨h1, h2⟩ := hv1 x0 hm h
  rw [h2, h1, hm] at hz; simp at hz
 refine c_skip (n_then (c_seq (wp_reg zd (l_v (v_loadA zk rfl (by first | exact HB11.pv | exact HB2.pv | assumption) rfl) ?_))))
 refine l_to (to_storeA (n := 4) rfl rfl (zvA rfl) zk rfl (by first | (simp [slice_one]; done) | (simp only [List.forall_mem_cons, List.cons_append, List.nil_append]; repeat' (first | exact rfl | apply And.intro | (intro u hu; cases hu; done)))) HB2 dj5 ?_)
 rintro w78 HB2 k78 z78
 have := k78.size
 try simp only [zS, Nat.zero_add, Nat.reduceAdd, List.drop_nil] at HB2
 refine l_v (v_assign rfl) (l_nil (n_then (c_ret (ret2cv (n := 4) rfl zq zq rfl zk HB2.pv rfl (zvI rfl) ?_))))
 replace E := E.step k78 dj3
 replace HG68 := HG68.keep k78 dj1
 exact ⟨⟨_, (key, (sq : Int), (kd : Int), []), 0, rfl, HG68.mono fun b _ h => by omega, fun x0 hm h => ⟨(hv1 x0 hm h).1, rfl⟩⟩, E⟩
end Go.Proofs.YtogafjlbpodgjaaGreat
