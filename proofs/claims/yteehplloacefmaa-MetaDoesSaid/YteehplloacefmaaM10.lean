/- A part of the proof: steps and lemmas for the walks through the given program. -/
import Derived.Test.YteehplloacefmaaM9
namespace Go.Proofs.Yteehplloacefmaa
open Go.Vc
set_option linter.unusedVariables false
set_option linter.unusedSimpArgs false
set_option maxRecDepth 100000

theorem rMay_c {w : World} {F : Nat → Prop} {v : Value} {e n : Int} {rs : List RgV} {ms : List MaV} (HG1 : AgV tMt w F v ((e, rs), n, ms)) : CallsR Try.prog 13 #[v] w (fun o w' => o = .bool (mayMt ((e, rs), n, ms)) ∧ Ext w w') := by
 obtain ⟨a, c, a2, c2, rfl, HSr, HSm, ie, im⟩ := HG1.mt
 simp only at HSr HSm ie im
 have HGm := AgV.mpOf HSr ie
 have hmx := HSm.len_max
 clear HG1
 refine enter 117 Try.func13 rfl rfl (by simp) ?_
 refine c_seq ?_
 have E := Keep.refl (K := NoK) w
 replace HSr := HSr.all
 replace HSm := HSm.all
 replace HGm := HGm.all
 refine wp_reg zd (l_to (to_box (zvA rfl) ?_))
 rintro b1 w1 zb1 HB1 e1 z1
 have := e1.size
 try simp only [Value.cells] at HB1
 refine l_v (v_assign rfl) (l_nil (n_then (c_seq (c_seq (wp_reg zd (l_v (v_fieldAddr (off := 0) (ft := 24) zk rfl) (l_v (v_loadA zk rfl (by first | exact (show Pv _ _ [_, _] from pv_sub 0 2 HB1.pv) | exact pv_at 0 HB1.pv | assumption) rfl) ?_)))))))
 replace HGm := HGm.ext e1
 refine l_to (to_f1 zk (zvA rfl) (CallsR.mono (rMayMap_c HGm) ?_))
 rintro _ w101 ⟨rfl, e101⟩
 have := e101.size
 refine l_v (v_not rfl) ?_
 refine l_v (zmB rfl) (l_g1 rfl rfl (fun hG => v_fieldAddr (off := 2) (ft := 2) zk rfl) ?_)
 replace HB1 := HB1.ext e101
 refine l_g1 rfl rfl (fun hG => v_load zk (gd hG rfl) (by first | exact HB1.pv 2 _ rfl | assumption)) ?_
 refine l_g1 rfl rfl (fun hG => v_lss (gd hG rfl) rfl) ?_
 refine l_v (v_or rfl rfl) ?_
 refine l_v (zmB rfl) (l_g1 rfl rfl (fun hG => v_fieldAddr (off := 2) (ft := 2) zk rfl) ?_)
 refine l_g1 rfl rfl (fun hG => v_load zk (gd hG rfl) (by first | exact HB1.pv 2 _ rfl | assumption)) ?_
 refine l_g1 rfl rfl (fun hG => v_gtr (gd hG rfl) rfl) ?_
 refine l_v (v_or rfl rfl) ?_
 replace E := (E.trans e1.keep).trans e101.keep
 replace HSr := (HSr.ext e1).ext e101
 replace HSm := (HSm.ext e1).ext e101
 replace HGm := HGm.ext e101
 refine l_nil (n_then (c_cond rfl rfl (fun h24 => ?_) (fun h24 => ?_)))
 ·
  refine c_seq (wp_reg zd (l_v (v_assign rfl) (l_nil (n_then (c_ret (r_then (ret1v rfl zq (zvB rfl) ?_)))))))
  refine ⟨?_, E⟩
  congr 1; simp only [mayMt]
  rcases hm : mayM (e, rs) with _ | _
  ·
   simp
  rw [hm] at h24
  have hx : n < 1 ∨ 2147483647 < n := by simpa using h24
  have h1 : (decide (1 ≤ n) && decide (n ≤ 2147483647)) = false := by rw [Bool.and_eq_false_iff, decide_eq_false_iff_not, decide_eq_false_iff_not]; omega
  simp only [Bool.true_and, h1, Bool.false_and]
 have hq : mayM (e, rs) = true ∧ 1 ≤ n ∧ n ≤ 2147483647 := by
  rcases hm : mayM (e, rs) with _ | _
  ·
   rw [hm] at h24; simp at h24
  rw [hm] at h24
  have hx : ¬ n < 1 ∧ ¬ 2147483647 < n := by simpa using h24
  exact ⟨rfl, by omega, by omega⟩
 have hres : mayMt ((e, rs), n, ms) = mayMa rs n ms := by simp only [mayMt, hq.1, decide_eq_true hq.2.1, decide_eq_true hq.2.2, Bool.true_and]
 rw [hres]
 refine c_skip (n_then (c_seq (c_seq (wp_reg zd (l_v (v_assign rfl) (l_nil (n_then (c_block (c_loop (τ := Nat) [2, 3, 4, 5, 6, 7, 8, 23, 24, 25, 26, 27, 28, 29, 30, 31, 32, 33, 34, 35, 36, 37, 38, 39, 40, 41, 42, 43, 44, 45, 46, 47, 48, 49, 50, 51, 52, 53, 54, 55, 56, 57, 58, 59, 60, 61, 62, 63, 64, 65, 66, 67, 68, 69, 70, 71, 72, 73, 74, 75, 76, 77, 78, 79, 80, 81, 82, 83, 84, 85, 86, 87, 88, 89, 90, 91, 92, 93, 94, 95, 96, 97, 98, 99, 100, 101, 102, 103, 104, 105, 106, 107, 108, 109, 110, 111, 112, 113, 114, 115, 116] (fun i => [(3, .int .i64 i)]) (fun i W => Ext w W ∧ Keep (NoK) w101 W ∧ i ≤ ms.length ∧ MvsOk rs n (ms.take i)) (fun i => ms.length - i) 0 (by exact ⟨rfl, trivial⟩) (by exact ⟨E, Keep.refl _, Nat.zero_le _, ⟨fun x hx => (by simp at hx), List.Pairwise.nil⟩⟩) ?_)))))))))
 rintro i w102 j ⟨E, EL1, h1, h2⟩
 have := EL1.size
 replace HB1 := HB1.ext EL1
 refine c_seq (c_seq (wp_reg zd (l_v (zmI rfl) (l_v (v_fieldAddr (off := 3) (ft := 25) zk rfl) (l_v (v_load zk rfl (by first | exact HB1.pv 3 _ rfl | assumption)) ?_)))))
 refine l_v (v_len (et := 54) zk rfl) ?_
 refine l_v (v_lss rfl rfl) ?_
 replace HSr := HSr.ext EL1
 replace HSm := HSm.ext EL1
 replace HGm := HGm.ext EL1
 refine l_nil (n_then (c_cond rfl rfl (fun hlt => ?_) (fun hlt => ?_)))
 ·
  have hlt := dtrue hlt
  obtain ⟨x, hx, hdr⟩ := getE (l := ms) (i := i) zo
  obtain ⟨q, cs, hqq, hF, _, HPq, hr⟩ := HSm.el hx
  subst hqq
  have HG2 : AgV tMa _ _ _ x := ⟨cs, rfl, hr⟩
  obtain ⟨b3, d3, b5, d5, rfl, HSf, HSt, i1, i2, i3⟩ := tMa_cells hr
  have HG3 := AgV.maMv HG2
  refine c_skip (n_then (c_seq (c_block (c_seq (wp_reg zd (l_v (v_fieldAddr (off := 3) (ft := 25) zk rfl) (l_v (v_load zk rfl (by first | exact HPq 3 _ rfl | exact pv_1 HPq | exact HB1.pv 3 _ rfl | assumption)) ?_)))))))
  refine l_v (zmI rfl) (l_v (v_indexAddr (et := 54) (sz := 7) (k := i) zk zk rfl rfl (by first | rfl | omega) zo) ?_)
  refine l_v (v_fieldAddr (off := 0) (ft := 39) zk rfl) (l_v (v_loadA zk rfl (by first | exact (show Pv _ _ [_, _, _, _, _, _] from pv_sub 0 6 HPq) | exact (show Pv _ _ [_, _, _, _, _, _] from pv_sub 0 6 HB1.pv) | exact pv_at 0 HPq | exact pv_at 0 HB1.pv | exact HPq | assumption) rfl) ?_)
  refine l_to (to_alloc (z := (.agg #[.int .i64 0, .slice none 0 0, .slice none 0 0, .bool false, .int .i64 0, .int .i64 0])) (by unfold kZero; kernel_rfl) ?_)
  rintro b4 w4 zb4 HB4 e4 z4
  have := e4.size
  try simp only [Value.cells] at HB4
  refine l_to (to_storeA (n := 6) rfl rfl (zvA rfl) zk rfl dj6 HB4 dj5 ?_)
  rintro w103 HX103 k103 z103
  have := k103.size
  replace HB4 := HX103
  clear HX103
  try simp only [zS, Nat.zero_add, Nat.reduceAdd, List.drop_nil] at HB4
  replace HB1 := (HB1.ext e4).keep k103 dj4
  replace HPq := (HPq.ext e4).keep k103 (by intro h; (try dsimp only at h); (try simp only [add_block] at h); first | omega)
  refine l_nil (n_then (c_seq (wp_reg zd (l_v (v_fieldAddr (off := 0) (ft := 24) zk rfl) (l_v (v_loadA zk rfl (by first | exact (show Pv _ _ [_, _] from pv_sub 0 2 HB4.pv) | exact (show Pv _ _ [_, _] from pv_sub 0 2 HPq) | exact (show Pv _ _ [_, _] from pv_sub 0 2 HB1.pv) | exact pv_at 0 HB4.pv | exact pv_at 0 HPq | exact pv_at 0 HB1.pv | exact HPq | assumption) rfl) ?_)))))
  refine l_v (v_fieldAddr (off := 1) (ft := 33) zk rfl) (l_v (v_load zk rfl (by first | exact HB4.pv 1 _ rfl | exact HPq 1 _ rfl | exact pv_1 HPq | exact HB1.pv 1 _ rfl | assumption)) ?_)
  replace HGm := (HGm.ext e4).keep k103 dj1
  replace HSf := (HSf.ext e4).keep k103 dj1
  refine l_to (to_f2 zk (zvA rfl) (zvS rfl) (CallsR.mono (rBegins_c HGm HSf) ?_))
  replace HSr := (HSr.ext e4).keep k103 dj1
  replace HSm := (HSm.ext e4).keep k103 dj1
  replace HSt := (HSt.ext e4).keep k103 dj1
  replace HG3 := (HG3.ext e4).keep k103 dj1
  rintro _ w104 ⟨rfl, e104⟩
  have := e104.size
  replace HB1 := HB1.ext e104
  replace HPq := HPq.ext e104
  replace HB4 := HB4.ext e104
  refine l_v (zaI rfl) (l_nil (n_then (c_seq (c_seq (wp_reg zd (l_v (v_loadA zk rfl (by first | exact HB4.pv | exact HPq | exact HB1.pv | assumption) rfl) ?_))))))
  replace HG3 := HG3.ext e104
  refine l_to (to_f1 zk (zvA rfl) (CallsR.mono (rMayMove_c HG3) ?_))
  rintro _ w105 ⟨rfl, e105⟩
  have := e105.size
  refine l_v (v_not rfl) ?_
  refine l_v (zmB rfl) (l_g1 rfl rfl (fun hG => v_fieldAddr (off := 0) (ft := 2) zk rfl) ?_)
  replace HB1 := HB1.ext e105
  replace HPq := HPq.ext e105
  replace HB4 := HB4.ext e105
  refine l_g1 rfl rfl (fun hG => v_load zk (gd hG rfl) (by first | exact HB4.pv 0 _ rfl | exact HPq 0 _ rfl | exact HB1.pv 0 _ rfl | assumption)) ?_
  refine l_g1 rfl rfl (fun hG => v_fieldAddr (off := 2) (ft := 2) zk rfl) ?_
  refine l_g1 rfl rfl (fun hG => v_load zk (gd hG rfl) (by first | exact HB4.pv 2 _ rfl | exact HPq 2 _ rfl | exact pv_1 HPq | exact HB1.pv 2 _ rfl | assumption)) ?_
  refine l_g1 rfl rfl (fun hG => v_geq (gd hG rfl) (gd hG rfl)) ?_
  refine l_v (v_or rfl rfl) ?_
  refine l_v (zmB rfl) (l_g1 rfl rfl (fun hG => zmI rfl) (l_g1 rfl rfl (fun hG => v_lss (gd hG rfl) rfl) ?_))
  refine l_v (v_or rfl rfl) ?_
  replace E := (((E.trans e4.keep).step k103 dj3).trans e104.keep).trans e105.keep
  replace EL1 := (((EL1.trans e4.keep).step k103 dj3).trans e104.keep).trans e105.keep
  replace HSr := (HSr.ext e104).ext e105
  replace HSm := (HSm.ext e104).ext e105
  replace HGm := (HGm.ext e104).ext e105
  replace HSf := (HSf.ext e104).ext e105
  replace HSt := (HSt.ext e104).ext e105
  replace HG3 := HG3.ext e105
  refine l_nil (n_then (c_cond rfl rfl (fun h54 => ?_) (fun h54 => ?_)))
  ·
   refine c_seq (wp_reg zd (l_v (v_assign rfl) (l_nil (n_then (c_ret (r_then (r_blk (r_then (r_then ?_)))))))))
   refine r_blk (r_then (ret1v rfl zq (zvB rfl) ?_))
   refine ⟨?_, E⟩
   congr 1; symm; rw [Bool.eq_false_iff]; intro h
   obtain ⟨g1, g2, g3⟩ := (mayMa_iff.1 h).1 x (List.mem_of_getElem? hx)
   have g4 : ¬ n ≤ x.1.1 := by omega
   have g5 : ¬ optI (begI rs x.1.2.1) < 0 := fun h => by rw [optI_neg] at h; unfold atMa at g3; rw [h] at g3; cases g3
   rw [g1] at h54; simp [g4, g5] at h54
  have hgd : mayMv x.1 = true ∧ x.1.1 < n := by
   rcases hm : mayMv x.1 with _ | _
   ·
    rw [hm] at h54; simp at h54
   rw [hm] at h54; refine ⟨rfl, ?_⟩; simp at h54; omega
  obtain ⟨j, hi⟩ : ∃ j, begI rs x.1.2.1 = some j := by
   cases h : begI rs x.1.2.1 with
   | none => rw [h] at h54; simp [optI] at h54
   | some j => exact ⟨j, rfl⟩
  obtain ⟨hjl, _⟩ := begI_some hi
  obtain ⟨rj, hrj⟩ : ∃ r, r = rs.getD j rg0 := ⟨_, rfl⟩
  obtain ⟨q1, cs1, hq1, hF1, _, HPj, hrr⟩ := HSr.el (getD_at hjl)
  subst hq1
  rw [← hrj] at hrr
  obtain ⟨b6, d6, b7, d7, rfl, HSrf, HSrt, hgr⟩ := tRg_cells hrr
  have hoi : optI (some j) = (j : Int) := rfl
  have hj0 : ¬ (j : Int) < 0 := by omega
  have hrg : rgAt rs (some j) = rj := hrj.symm
  rw [hi, hoi]
  refine c_skip (n_then (c_seq (wp_reg zd (l_v (v_fieldAddr (off := 4) (ft := 3) zk rfl) (l_v (v_load zk rfl (by first | exact HPj 4 _ rfl | exact pv_1 HPj | exact HB4.pv 4 _ rfl | exact HPq 4 _ rfl | exact pv_1 HPq | exact HB1.pv 4 _ rfl | assumption)) ?_)))))
  refine l_v (zaI rfl) (l_nil (n_then (c_seq (c_seq (wp_reg zd (l_v (v_fieldAddr (off := 3) (ft := 25) zk rfl) (l_v (v_load zk rfl (by first | exact HPj 3 _ rfl | exact pv_1 HPj | exact HB4.pv 3 _ rfl | exact HPq 3 _ rfl | exact pv_1 HPq | exact HB1.pv 3 _ rfl | assumption)) ?_)))))))
  refine l_v (zmI rfl) (l_v (v_indexAddr (et := 54) (sz := 7) (k := i) zk zk rfl rfl (by first | rfl | omega) zo) ?_)
  refine l_v (v_fieldAddr (off := 6) (ft := 4) zk rfl) (l_v (v_load zk rfl (by first | exact HPj 6 _ rfl | exact pv_1 HPj | exact HB4.pv 6 _ rfl | exact HPq 6 _ rfl | exact pv_1 HPq | exact HB1.pv 6 _ rfl | assumption)) ?_)
  refine l_nil (n_then (c_cond rfl rfl (fun h62 => ?_) (fun h62 => ?_)))
  ·
   refine wp_reg zd (l_v (v_fieldAddr (off := 5) (ft := 3) zk rfl) (l_v (v_load zk rfl (by first | exact HPj 5 _ rfl | exact pv_1 HPj | exact HB4.pv 5 _ rfl | exact HPq 5 _ rfl | exact pv_1 HPq | exact HB1.pv 5 _ rfl | assumption)) ?_))
   refine l_v (zaI rfl) (l_nil (n_then (c_seq (wp_reg zd (l_v (v_fieldAddr (off := 0) (ft := 24) zk rfl) (l_v (v_fieldAddr (off := 1) (ft := 22) zk rfl) (l_v (v_load zk rfl (by first | exact HPj 1 _ rfl | exact pv_1 HPj | exact HB4.pv 1 _ rfl | exact HPq 1 _ rfl | exact pv_1 HPq | exact HB1.pv 1 _ rfl | assumption)) ?_)))))))
   refine l_v (zmI rfl) (l_v (v_indexAddr (et := 63) (sz := 4) (k := j) zk zk rfl rfl (rfl) (hjl)) ?_)
   refine l_v (v_loadA zk rfl (by first | exact HPj | exact HB4.pv | exact HPq | exact HB1.pv | assumption) rfl) ?_
   refine l_to (to_alloc (z := (.agg #[.slice none 0 0, .slice none 0 0, .bool false, .int .i64 0])) (by unfold kZero; kernel_rfl) ?_)
   rintro b7 w7 zb7 HB7 e7 z7
   have := e7.size
   try simp only [Value.cells] at HB7
   refine l_to (to_storeA (n := 4) rfl rfl (zvA rfl) zk rfl dj6 HB7 dj5 ?_)
   rintro w106 HX106 k106 z106
   have := k106.size
   replace HB7 := HX106
   clear HX106
   try simp only [zS, Nat.zero_add, Nat.reduceAdd, List.drop_nil] at HB7
   replace HB1 := (HB1.ext e7).keep k106 dj4
   replace HPq := (HPq.ext e7).keep k106 (by intro h; (try dsimp only at h); (try simp only [add_block] at h); first | omega)
   replace HB4 := (HB4.ext e7).keep k106 dj4
   replace HPj := (HPj.ext e7).keep k106 (by intro h; (try dsimp only at h); (try simp only [add_block] at h); first | omega)
   refine l_nil (n_then (c_seq (c_seq (wp_reg zd (l_v (v_fieldAddr (off := 2) (ft := 4) zk rfl) (l_v (v_load zk rfl (by first | exact HB7.pv 2 _ rfl | exact HPj 2 _ rfl | exact pv_1 HPj | exact HB4.pv 2 _ rfl | exact HPq 2 _ rfl | exact pv_1 HPq | exact HB1.pv 2 _ rfl | assumption)) ?_))))))
   refine l_v (v_fieldAddr (off := 3) (ft := 4) zk rfl) (l_v (v_load zk rfl (by first | exact HB7.pv 3 _ rfl | exact HPj 3 _ rfl | exact pv_1 HPj | exact HB4.pv 3 _ rfl | exact HPq 3 _ rfl | exact pv_1 HPq | exact HB1.pv 3 _ rfl | assumption)) ?_)
   refine l_v (v_bneq zk rfl rfl) ?_
   refine l_v (zmB rfl) (l_g1 rfl rfl (fun hG => v_fieldAddr (off := 1) (ft := 33) zk rfl) ?_)
   refine l_g1 rfl rfl (fun hG => v_load zk (gd hG rfl) (by first | exact HB7.pv 1 _ rfl | exact HPj 1 _ rfl | exact pv_1 HPj | exact HB4.pv 1 _ rfl | exact HPq 1 _ rfl | exact pv_1 HPq | exact HB1.pv 1 _ rfl | assumption)) ?_
   refine l_g1 rfl rfl (fun hG => v_fieldAddr (off := 2) (ft := 33) zk rfl) ?_
   refine l_g1 rfl rfl (fun hG => v_load zk (gd hG rfl) (by first | exact HB7.pv 2 _ rfl | exact HPj 2 _ rfl | exact pv_1 HPj | exact HB4.pv 2 _ rfl | exact HPq 2 _ rfl | exact pv_1 HPq | exact HB1.pv 2 _ rfl | assumption)) ?_
   replace HSt := (HSt.ext e7).keep k106 dj1
   replace HSrt := (HSrt.ext e7).keep k106 dj1
   refine l_g1f rfl rfl (fun hG => to_f2 zk (gd hG rfl) (gd hG rfl) (SameKey_c HSrt HSt)) ?_
   rintro w107 e107
   have := e107.size
   refine l_g1 rfl rfl (fun hG => v_not (gd hG rfl)) ?_
   refine l_v (v_or rfl rfl) ?_
   refine l_v (zmB rfl) (l_g1 rfl rfl (fun hG => v_fieldAddr (off := 3) (ft := 3) zk rfl) ?_)
   replace HB1 := HB1.ext e107
   replace HPq := HPq.ext e107
   replace HB4 := HB4.ext e107
   replace HPj := HPj.ext e107
   replace HB7 := HB7.ext e107
   refine l_g1 rfl rfl (fun hG => v_load zk (gd hG rfl) (by first | exact HB7.pv 3 _ rfl | exact HPj 3 _ rfl | exact pv_1 HPj | exact HB4.pv 3 _ rfl | exact HPq 3 _ rfl | exact pv_1 HPq | exact HB1.pv 3 _ rfl | assumption)) ?_
   refine l_g1 rfl rfl (fun hG => zmI rfl) (l_g1 rfl rfl (fun hG => v_neq (gd hG rfl) (gd hG rfl)) ?_)
   refine l_v (v_or rfl rfl) ?_
   replace E := ((E.trans e7.keep).step k106 dj3).trans e107.keep
   replace HSr := ((HSr.ext e7).keep k106 dj1).ext e107
   replace HSm := ((HSm.ext e7).keep k106 dj1).ext e107
   replace HGm := ((HGm.ext e7).keep k106 dj1).ext e107
   replace EL1 := ((EL1.trans e7.keep).step k106 dj3).trans e107.keep
   replace HSf := ((HSf.ext e7).keep k106 dj1).ext e107
   replace HG3 := ((HG3.ext e7).keep k106 dj1).ext e107
   replace HSt := HSt.ext e107
   replace HSrt := HSrt.ext e107
   refine l_nil (n_then (c_cond rfl rfl (fun h89 => ?_) (fun h89 => ?_)))
   ·
    refine c_seq (wp_reg zd (l_v (v_assign rfl) (l_nil (n_then (c_ret (r_then (r_blk (r_then (r_then ?_)))))))))
    refine r_blk (r_then (ret1v rfl zq (zvB rfl) ?_))
    refine ⟨?_, E⟩
    congr 1; symm; rw [Bool.eq_false_iff]; intro h
    have g := ((mayMa_iff.1 h).1 x (List.mem_of_getElem? hx)).2.2
    exact atMa_98 (x := x) h62 (by rw [hi, hrg, hoi]; simpa [hj0] using h89) g
   have hat : atMa rs x = true := atMa_ok (x := x) h62 (by rw [hi, hrg, hoi]; simpa [hj0] using h89)
   refine c_skip (n_then (c_seq (wp_reg zd (l_v (v_assign rfl) (l_nil (n_then (c_block (c_loop (τ := Nat) [2, 8, 90, 91, 92, 93, 94, 95, 96, 97, 98, 99, 100, 101, 102, 103, 104, 105, 106, 107, 108, 109, 110, 111, 112, 113, 114, 115, 116] (fun k => [(8, .int .i64 k)]) (fun k W => Ext w W ∧ Keep (NoK) w107 W ∧ k ≤ i ∧ ∀ z ∈ ms.take k, z.1.1 < x.1.1 ∧ z.1.2.1 ≠ x.1.2.1) (fun k => i - k) 0 (by exact ⟨rfl, trivial⟩) (by exact ⟨E, Keep.refl _, Nat.zero_le _, fun z hz => by simp at hz⟩) ?_))))))))
   rintro k w108 j ⟨E, EL2, h3, h4⟩
   have := EL2.size
   refine c_seq (c_seq (wp_reg zd (l_v (zmI rfl) (l_v (zmI rfl) (l_v (v_lss rfl rfl) ?_)))))
   replace HSr := HSr.ext EL2
   replace HSm := HSm.ext EL2
   replace HGm := HGm.ext EL2
   replace HB1 := HB1.ext EL2
   replace EL1 := EL1.trans EL2.keep
   replace HPq := HPq.ext EL2
   replace HSf := HSf.ext EL2
   replace HSt := HSt.ext EL2
   replace HG3 := HG3.ext EL2
   replace HB4 := HB4.ext EL2
   replace HPj := HPj.ext EL2
   replace HSrt := HSrt.ext EL2
   replace HB7 := HB7.ext EL2
   refine l_nil (n_then (c_cond rfl rfl (fun h92 => ?_) (fun h92 => ?_)))
   ·
    have h92 := dtrue h92
    obtain ⟨z, hz, _⟩ := getE (l := ms) (i := k) zo
    obtain ⟨q2, cs2, hq2, hF2, _, HPz, hrz⟩ := HSm.el hz
    cases hq2
    obtain ⟨b11, d11, b12, d12, rfl, HSzf, _⟩ := tMa_cells hrz
    refine c_skip (n_then (c_seq (c_block (c_seq (wp_regd (NoK) zk zd zd ?_)))))
    refine rt_v (fun vals w hR hd => v_fieldAddr (off := 3) (ft := 25) zk rfl) ?_
    refine rt_v (fun vals w hR hd => v_load zk (hd 0 rfl) (by first | exact (HPz.ext hR) 3 _ rfl | exact pv_1 (HPz.ext hR) | exact (HB7.ext hR).pv 3 _ rfl | exact (HPj.ext hR) 3 _ rfl | exact pv_1 (HPj.ext hR) | exact (HB4.ext hR).pv 3 _ rfl | exact (HPq.ext hR) 3 _ rfl | exact pv_1 (HPq.ext hR) | exact (HB1.ext hR).pv 3 _ rfl | assumption)) ?_
    refine rt_v (fun vals w hR hd => zmI rfl) ?_
    refine rt_v (fun vals w hR hd => v_indexAddr (et := 54) (sz := 7) (k := k) zk zk (hd 1 rfl) (hd 2 rfl) (by first | rfl | omega) zo) ?_
    refine rt_v (fun vals w hR hd => v_fieldAddr (off := 0) (ft := 39) zk (hd 3 rfl)) ?_
    refine rt_v (fun vals w hR hd => v_fieldAddr (off := 0) (ft := 2) zk (hd 4 rfl)) ?_
    refine rt_v (fun vals w hR hd => v_load zk (hd 5 rfl) (by first | exact (HPz.ext hR) 0 _ rfl | exact (HB7.ext hR).pv 0 _ rfl | exact (HPj.ext hR) 0 _ rfl | exact (HB4.ext hR).pv 0 _ rfl | exact (HPq.ext hR) 0 _ rfl | exact (HB1.ext hR).pv 0 _ rfl | assumption)) ?_
    refine rt_v (fun vals w hR hd => v_fieldAddr (off := 0) (ft := 2) zk rfl) ?_
    refine rt_v (fun vals w hR hd => v_load zk (hd 7 rfl) (by first | exact (HPz.ext hR) 0 _ rfl | exact (HB7.ext hR).pv 0 _ rfl | exact (HPj.ext hR) 0 _ rfl | exact (HB4.ext hR).pv 0 _ rfl | exact (HPq.ext hR) 0 _ rfl | exact (HB1.ext hR).pv 0 _ rfl | assumption)) ?_
    refine rt_v (fun vals w hR hd => v_geq (hd 6 rfl) (hd 8 rfl)) ?_
    refine rt_v (fun vals w hR hd => v_move (t := .bool _) (hd 9 rfl)) ?_
    refine rt_g1 rfl (fun vals w hd => hd 10 rfl) (fun vals w hR hd hG => v_fieldAddr (off := 3) (ft := 25) zk rfl) ?_
    refine rt_g1 rfl (fun vals w hd => hd 10 rfl) (fun vals w hR hd hG => v_load zk (gd hG (hd 11 rfl)) (by first | exact (HPz.ext hR) 3 _ rfl | exact pv_1 (HPz.ext hR) | exact (HB7.ext hR).pv 3 _ rfl | exact (HPj.ext hR) 3 _ rfl | exact pv_1 (HPj.ext hR) | exact (HB4.ext hR).pv 3 _ rfl | exact (HPq.ext hR) 3 _ rfl | exact pv_1 (HPq.ext hR) | exact (HB1.ext hR).pv 3 _ rfl | assumption)) ?_
    refine rt_g1 rfl (fun vals w hd => hd 10 rfl) (fun vals w hR hd hG => zmI rfl) ?_
    refine rt_g1 rfl (fun vals w hd => hd 10 rfl) (fun vals w hR hd hG => v_indexAddr (et := 54) (sz := 7) (k := k) zk zk (gd hG (hd 12 rfl)) (gd hG (hd 13 rfl)) (by first | rfl | omega) zo) ?_
    refine rt_g1 rfl (fun vals w hd => hd 10 rfl) (fun vals w hR hd hG => v_fieldAddr (off := 0) (ft := 39) zk (gd hG (hd 14 rfl))) ?_
    refine rt_g1 rfl (fun vals w hd => hd 10 rfl) (fun vals w hR hd hG => v_fieldAddr (off := 1) (ft := 33) zk (gd hG (hd 15 rfl))) ?_
    refine rt_g1 rfl (fun vals w hd => hd 10 rfl) (fun vals w hR hd hG => v_load zk (gd hG (hd 16 rfl)) (by first | exact (HPz.ext hR) 1 _ rfl | exact pv_1 (HPz.ext hR) | exact (HB7.ext hR).pv 1 _ rfl | exact (HPj.ext hR) 1 _ rfl | exact pv_1 (HPj.ext hR) | exact (HB4.ext hR).pv 1 _ rfl | exact (HPq.ext hR) 1 _ rfl | exact pv_1 (HPq.ext hR) | exact (HB1.ext hR).pv 1 _ rfl | assumption)) ?_
    refine rt_g1 rfl (fun vals w hd => hd 10 rfl) (fun vals w hR hd hG => v_fieldAddr (off := 1) (ft := 33) zk rfl) ?_
    refine rt_g1 rfl (fun vals w hd => hd 10 rfl) (fun vals w hR hd hG => v_load zk (gd hG (hd 18 rfl)) (by first | exact (HPz.ext hR) 1 _ rfl | exact pv_1 (HPz.ext hR) | exact (HB7.ext hR).pv 1 _ rfl | exact (HPj.ext hR) 1 _ rfl | exact pv_1 (HPj.ext hR) | exact (HB4.ext hR).pv 1 _ rfl | exact (HPq.ext hR) 1 _ rfl | exact pv_1 (HPq.ext hR) | exact (HB1.ext hR).pv 1 _ rfl | assumption)) ?_
    refine rt_g1f rfl (fun vals w hd => hd 10 rfl) (fun vals w hR hd hG => to_f2 zk (gd hG (hd 17 rfl)) (gd hG (hd 19 rfl)) (SameKey_c (HSzf.ext hR) (HSf.ext hR))) ?_
    refine rt_v (fun vals w hR hd => v_or (hd 10 rfl) (hd 20 rfl)) ?_
    refine rt_nil (fun w109 e109 => ?_)
    rintro _ rfl _ rfl _ rfl _ rfl _ rfl _ rfl _ rfl _ rfl _ rfl _ rfl _ rfl _ rfl _ rfl _ rfl _ rfl _ rfl _ rfl _ rfl _ rfl _ rfl _ rfl _ rfl
    have := e109.size
    replace E := E.trans e109.keep
    replace HSr := HSr.ext e109
    replace HSm := HSm.ext e109
    replace HGm := HGm.ext e109
    replace HB1 := HB1.ext e109
    replace EL1 := EL1.trans e109.keep
    replace HPq := HPq.ext e109
    replace HSf := HSf.ext e109
    replace HSt := HSt.ext e109
    replace HG3 := HG3.ext e109
    replace HB4 := HB4.ext e109
    replace HPj := HPj.ext e109
    replace HSrt := HSrt.ext e109
    replace HB7 := HB7.ext e109
    replace EL2 := EL2.trans e109.keep
    replace HPz := HPz.ext e109
    replace HSzf := HSzf.ext e109
    refine fin_nil (n_then (c_cond rfl rfl (fun h116 => ?_) (fun h116 => ?_)))
    ·
     refine c_seq (wp_reg zd (l_v (v_assign rfl) (l_nil (n_then (c_ret (r_blk (r_then (r_then (r_blk ?_)))))))))
     refine r_blk (r_then (r_then (r_blk (r_then (ret1v rfl zq (zvB rfl) ?_)))))
     refine ⟨?_, E⟩
     congr 1; symm; rw [Bool.eq_false_iff]; intro h
     have hp := (mayMa_iff.1 h).2
     rw [List.pairwise_iff_getElem] at hp
     have hil := (List.getElem?_eq_some_iff.1 hx).1
     have hp := hp k i zo hil zo
     rw [(List.getElem?_eq_some_iff.1 hx).2, (List.getElem?_eq_some_iff.1 hz).2] at hp
     simp only [Bool.or_eq_true, decide_eq_true_eq] at h116
     rcases h116 with h | h
     ·
      omega
     exact hp.2 h
    refine c_skip (n_blk (n_then (wp_reg zd (l_v (zmI rfl) (l_v (v_add rfl rfl (by first | exact wr_i64 zo zo | rfl)) ?_)))))
    refine l_v (zaI rfl) (l_nil (n_then (⟨k + 1, _, rfl, by (repeat (first | exact Off.of_over _ _ _ | refine Off.upd ?_ zq _ | refine Off.overs ?_ zq _)), ⟨by first | rfl | exact congrArg (Value.int _) zo | (simp; done), trivial⟩, ⟨E, EL2, ?_⟩, ?_⟩)))
    ·
     refine ⟨by omega, fun u hu => ?_⟩
     rw [List.take_add_one, hz] at hu
     rcases List.mem_append.1 hu with hu | hu
     ·
      exact h4 u hu
     obtain rfl : u = z := by simpa using hu
     simp only [Bool.or_eq_false_iff, decide_eq_false_iff_not] at h116
     exact ⟨by omega, h116.2⟩
    (dsimp only; omega)
   refine c_exit (x_then (x_then (x_hit (n_blk (n_then (wp_reg zd (l_v (zmI rfl) (l_v (v_add rfl rfl (by first | exact wr_i64 zo zo | rfl)) ?_))))))))
   refine l_v (zaI rfl) (l_nil (n_then (⟨i + 1, _, rfl, by (repeat (first | exact Off.of_over _ _ _ | refine Off.upd ?_ zq _ | refine Off.overs ?_ zq _)), ⟨by first | rfl | exact congrArg (Value.int _) zo | (simp; done), trivial⟩, ⟨E, EL1, ?_⟩, ?_⟩)))
   ·
    have hk : k = i := by have := dfalse h92; omega
    subst hk
    refine ⟨by omega, fun u hu => ?_, ?_⟩
    ·
     rw [List.take_add_one, hx] at hu
     rcases List.mem_append.1 hu with hu | hu
     ·
      exact h2.1 u hu
     obtain rfl : u = x := by simpa using hu
     exact ⟨hgd.1, hgd.2, hat⟩
    rw [List.take_add_one, hx]
    refine List.pairwise_append.2 ⟨h2.2, List.pairwise_singleton _ _, fun a ha b hb => ?_⟩
    obtain rfl : b = x := by simpa using hb
    exact h4 a ha
   (dsimp only; omega)
  refine c_skip (n_then (c_seq (wp_reg zd (l_v (v_fieldAddr (off := 0) (ft := 24) zk rfl) (l_v (v_fieldAddr (off := 1) (ft := 22) zk rfl) (l_v (v_load zk rfl (by first | exact HPj 1 _ rfl | exact pv_1 HPj | exact HB4.pv 1 _ rfl | exact HPq 1 _ rfl | exact pv_1 HPq | exact HB1.pv 1 _ rfl | assumption)) ?_))))))
  refine l_v (zmI rfl) (l_v (v_indexAddr (et := 63) (sz := 4) (k := j) zk zk rfl rfl (rfl) (hjl)) ?_)
  refine l_v (v_loadA zk rfl (by first | exact HPj | exact HB4.pv | exact HPq | exact HB1.pv | assumption) rfl) ?_
  refine l_to (to_alloc (z := (.agg #[.slice none 0 0, .slice none 0 0, .bool false, .int .i64 0])) (by unfold kZero; kernel_rfl) ?_)
  rintro b7 w7 zb7 HB7 e7 z7
  have := e7.size
  try simp only [Value.cells] at HB7
  refine l_to (to_storeA (n := 4) rfl rfl (zvA rfl) zk rfl dj6 HB7 dj5 ?_)
  rintro w110 HX110 k110 z110
  have := k110.size
  replace HB7 := HX110
  clear HX110
  try simp only [zS, Nat.zero_add, Nat.reduceAdd, List.drop_nil] at HB7
  replace HB1 := (HB1.ext e7).keep k110 dj4
  replace HPq := (HPq.ext e7).keep k110 (by intro h; (try dsimp only at h); (try simp only [add_block] at h); first | omega)
  replace HB4 := (HB4.ext e7).keep k110 dj4
  replace HPj := (HPj.ext e7).keep k110 (by intro h; (try dsimp only at h); (try simp only [add_block] at h); first | omega)
  refine l_nil (n_then (c_seq (c_seq (wp_reg zd (l_v (v_fieldAddr (off := 2) (ft := 4) zk rfl) (l_v (v_load zk rfl (by first | exact HB7.pv 2 _ rfl | exact HPj 2 _ rfl | exact pv_1 HPj | exact HB4.pv 2 _ rfl | exact HPq 2 _ rfl | exact pv_1 HPq | exact HB1.pv 2 _ rfl | assumption)) ?_))))))
  refine l_v (v_fieldAddr (off := 3) (ft := 4) zk rfl) (l_v (v_load zk rfl (by first | exact HB7.pv 3 _ rfl | exact HPj 3 _ rfl | exact pv_1 HPj | exact HB4.pv 3 _ rfl | exact HPq 3 _ rfl | exact pv_1 HPq | exact HB1.pv 3 _ rfl | assumption)) ?_)
  refine l_v (v_bneq zk rfl rfl) ?_
  refine l_v (zmB rfl) (l_g1 rfl rfl (fun hG => v_fieldAddr (off := 1) (ft := 33) zk rfl) ?_)
  refine l_g1 rfl rfl (fun hG => v_load zk (gd hG rfl) (by first | exact HB7.pv 1 _ rfl | exact HPj 1 _ rfl | exact pv_1 HPj | exact HB4.pv 1 _ rfl | exact HPq 1 _ rfl | exact pv_1 HPq | exact HB1.pv 1 _ rfl | assumption)) ?_
  refine l_g1 rfl rfl (fun hG => v_fieldAddr (off := 2) (ft := 33) zk rfl) ?_
  refine l_g1 rfl rfl (fun hG => v_load zk (gd hG rfl) (by first | exact HB7.pv 2 _ rfl | exact HPj 2 _ rfl | exact pv_1 HPj | exact HB4.pv 2 _ rfl | exact HPq 2 _ rfl | exact pv_1 HPq | exact HB1.pv 2 _ rfl | assumption)) ?_
  replace HSt := (HSt.ext e7).keep k110 dj1
  replace HSrt := (HSrt.ext e7).keep k110 dj1
  refine l_g1f rfl rfl (fun hG => to_f2 zk (gd hG rfl) (gd hG rfl) (SameKey_c HSrt HSt)) ?_
  rintro w111 e111
  have := e111.size
  refine l_g1 rfl rfl (fun hG => v_not (gd hG rfl)) ?_
  refine l_v (v_or rfl rfl) ?_
  refine l_v (zmB rfl) (l_g1 rfl rfl (fun hG => v_fieldAddr (off := 3) (ft := 3) zk rfl) ?_)
  replace HB1 := HB1.ext e111
  replace HPq := HPq.ext e111
  replace HB4 := HB4.ext e111
  replace HPj := HPj.ext e111
  replace HB7 := HB7.ext e111
  refine l_g1 rfl rfl (fun hG => v_load zk (gd hG rfl) (by first | exact HB7.pv 3 _ rfl | exact HPj 3 _ rfl | exact pv_1 HPj | exact HB4.pv 3 _ rfl | exact HPq 3 _ rfl | exact pv_1 HPq | exact HB1.pv 3 _ rfl | assumption)) ?_
  refine l_g1 rfl rfl (fun hG => zmI rfl) (l_g1 rfl rfl (fun hG => v_neq (gd hG rfl) (gd hG rfl)) ?_)
  refine l_v (v_or rfl rfl) ?_
  replace E := ((E.trans e7.keep).step k110 dj3).trans e111.keep
  replace HSr := ((HSr.ext e7).keep k110 dj1).ext e111
  replace HSm := ((HSm.ext e7).keep k110 dj1).ext e111
  replace HGm := ((HGm.ext e7).keep k110 dj1).ext e111
  replace EL1 := ((EL1.trans e7.keep).step k110 dj3).trans e111.keep
  replace HSf := ((HSf.ext e7).keep k110 dj1).ext e111
  replace HG3 := ((HG3.ext e7).keep k110 dj1).ext e111
  replace HSt := HSt.ext e111
  replace HSrt := HSrt.ext e111
  refine l_nil (n_then (c_cond rfl rfl (fun h89 => ?_) (fun h89 => ?_)))
  ·
   refine c_seq (wp_reg zd (l_v (v_assign rfl) (l_nil (n_then (c_ret (r_then (r_blk (r_then (r_then ?_)))))))))
   refine r_blk (r_then (ret1v rfl zq (zvB rfl) ?_))
   refine ⟨?_, E⟩
   congr 1; symm; rw [Bool.eq_false_iff]; intro h
   have g := ((mayMa_iff.1 h).1 x (List.mem_of_getElem? hx)).2.2
   exact atMa_98 (x := x) h62 (by rw [hi, hrg, hoi]; simpa [hj0] using h89) g
  have hat : atMa rs x = true := atMa_ok (x := x) h62 (by rw [hi, hrg, hoi]; simpa [hj0] using h89)
  refine c_skip (n_then (c_seq (wp_reg zd (l_v (v_assign rfl) (l_nil (n_then (c_block (c_loop (τ := Nat) [2, 8, 90, 91, 92, 93, 94, 95, 96, 97, 98, 99, 100, 101, 102, 103, 104, 105, 106, 107, 108, 109, 110, 111, 112, 113, 114, 115, 116] (fun k => [(8, .int .i64 k)]) (fun k W => Ext w W ∧ Keep (NoK) w111 W ∧ k ≤ i ∧ ∀ z ∈ ms.take k, z.1.1 < x.1.1 ∧ z.1.2.1 ≠ x.1.2.1) (fun k => i - k) 0 (by exact ⟨rfl, trivial⟩) (by exact ⟨E, Keep.refl _, Nat.zero_le _, fun z hz => by simp at hz⟩) ?_))))))))
  rintro k w112 j ⟨E, EL3, h3, h4⟩
  have := EL3.size
  refine c_seq (c_seq (wp_reg zd (l_v (zmI rfl) (l_v (zmI rfl) (l_v (v_lss rfl rfl) ?_)))))
  replace HSr := HSr.ext EL3
  replace HSm := HSm.ext EL3
  replace HGm := HGm.ext EL3
  replace HB1 := HB1.ext EL3
  replace EL1 := EL1.trans EL3.keep
  replace HPq := HPq.ext EL3
  replace HSf := HSf.ext EL3
  replace HSt := HSt.ext EL3
  replace HG3 := HG3.ext EL3
  replace HB4 := HB4.ext EL3
  replace HPj := HPj.ext EL3
  replace HSrt := HSrt.ext EL3
  replace HB7 := HB7.ext EL3
  refine l_nil (n_then (c_cond rfl rfl (fun h92 => ?_) (fun h92 => ?_)))
  ·
   have h92 := dtrue h92
   obtain ⟨z, hz, _⟩ := getE (l := ms) (i := k) zo
   obtain ⟨q2, cs2, hq2, hF2, _, HPz, hrz⟩ := HSm.el hz
   cases hq2
   obtain ⟨b11, d11, b12, d12, rfl, HSzf, _⟩ := tMa_cells hrz
   refine c_skip (n_then (c_seq (c_block (c_seq (wp_regd (NoK) zk zd zd ?_)))))
   refine rt_v (fun vals w hR hd => v_fieldAddr (off := 3) (ft := 25) zk rfl) ?_
   refine rt_v (fun vals w hR hd => v_load zk (hd 0 rfl) (by first | exact (HPz.ext hR) 3 _ rfl | exact pv_1 (HPz.ext hR) | exact (HB7.ext hR).pv 3 _ rfl | exact (HPj.ext hR) 3 _ rfl | exact pv_1 (HPj.ext hR) | exact (HB4.ext hR).pv 3 _ rfl | exact (HPq.ext hR) 3 _ rfl | exact pv_1 (HPq.ext hR) | exact (HB1.ext hR).pv 3 _ rfl | assumption)) ?_
   refine rt_v (fun vals w hR hd => zmI rfl) ?_
   refine rt_v (fun vals w hR hd => v_indexAddr (et := 54) (sz := 7) (k := k) zk zk (hd 1 rfl) (hd 2 rfl) (by first | rfl | omega) zo) ?_
   refine rt_v (fun vals w hR hd => v_fieldAddr (off := 0) (ft := 39) zk (hd 3 rfl)) ?_
   refine rt_v (fun vals w hR hd => v_fieldAddr (off := 0) (ft := 2) zk (hd 4 rfl)) ?_
   refine rt_v (fun vals w hR hd => v_load zk (hd 5 rfl) (by first | exact (HPz.ext hR) 0 _ rfl | exact (HB7.ext hR).pv 0 _ rfl | exact (HPj.ext hR) 0 _ rfl | exact (HB4.ext hR).pv 0 _ rfl | exact (HPq.ext hR) 0 _ rfl | exact (HB1.ext hR).pv 0 _ rfl | assumption)) ?_
   refine rt_v (fun vals w hR hd => v_fieldAddr (off := 0) (ft := 2) zk rfl) ?_
   refine rt_v (fun vals w hR hd => v_load zk (hd 7 rfl) (by first | exact (HPz.ext hR) 0 _ rfl | exact (HB7.ext hR).pv 0 _ rfl | exact (HPj.ext hR) 0 _ rfl | exact (HB4.ext hR).pv 0 _ rfl | exact (HPq.ext hR) 0 _ rfl | exact (HB1.ext hR).pv 0 _ rfl | assumption)) ?_
   refine rt_v (fun vals w hR hd => v_geq (hd 6 rfl) (hd 8 rfl)) ?_
   refine rt_v (fun vals w hR hd => v_move (t := .bool _) (hd 9 rfl)) ?_
   refine rt_g1 rfl (fun vals w hd => hd 10 rfl) (fun vals w hR hd hG => v_fieldAddr (off := 3) (ft := 25) zk rfl) ?_
   refine rt_g1 rfl (fun vals w hd => hd 10 rfl) (fun vals w hR hd hG => v_load zk (gd hG (hd 11 rfl)) (by first | exact (HPz.ext hR) 3 _ rfl | exact pv_1 (HPz.ext hR) | exact (HB7.ext hR).pv 3 _ rfl | exact (HPj.ext hR) 3 _ rfl | exact pv_1 (HPj.ext hR) | exact (HB4.ext hR).pv 3 _ rfl | exact (HPq.ext hR) 3 _ rfl | exact pv_1 (HPq.ext hR) | exact (HB1.ext hR).pv 3 _ rfl | assumption)) ?_
   refine rt_g1 rfl (fun vals w hd => hd 10 rfl) (fun vals w hR hd hG => zmI rfl) ?_
   refine rt_g1 rfl (fun vals w hd => hd 10 rfl) (fun vals w hR hd hG => v_indexAddr (et := 54) (sz := 7) (k := k) zk zk (gd hG (hd 12 rfl)) (gd hG (hd 13 rfl)) (by first | rfl | omega) zo) ?_
   refine rt_g1 rfl (fun vals w hd => hd 10 rfl) (fun vals w hR hd hG => v_fieldAddr (off := 0) (ft := 39) zk (gd hG (hd 14 rfl))) ?_
   refine rt_g1 rfl (fun vals w hd => hd 10 rfl) (fun vals w hR hd hG => v_fieldAddr (off := 1) (ft := 33) zk (gd hG (hd 15 rfl))) ?_
   refine rt_g1 rfl (fun vals w hd => hd 10 rfl) (fun vals w hR hd hG => v_load zk (gd hG (hd 16 rfl)) (by first | exact (HPz.ext hR) 1 _ rfl | exact pv_1 (HPz.ext hR) | exact (HB7.ext hR).pv 1 _ rfl | exact (HPj.ext hR) 1 _ rfl | exact pv_1 (HPj.ext hR) | exact (HB4.ext hR).pv 1 _ rfl | exact (HPq.ext hR) 1 _ rfl | exact pv_1 (HPq.ext hR) | exact (HB1.ext hR).pv 1 _ rfl | assumption)) ?_
   refine rt_g1 rfl (fun vals w hd => hd 10 rfl) (fun vals w hR hd hG => v_fieldAddr (off := 1) (ft := 33) zk rfl) ?_
   refine rt_g1 rfl (fun vals w hd => hd 10 rfl) (fun vals w hR hd hG => v_load zk (gd hG (hd 18 rfl)) (by first | exact (HPz.ext hR) 1 _ rfl | exact pv_1 (HPz.ext hR) | exact (HB7.ext hR).pv 1 _ rfl | exact (HPj.ext hR) 1 _ rfl | exact pv_1 (HPj.ext hR) | exact (HB4.ext hR).pv 1 _ rfl | exact (HPq.ext hR) 1 _ rfl | exact pv_1 (HPq.ext hR) | exact (HB1.ext hR).pv 1 _ rfl | assumption)) ?_
   refine rt_g1f rfl (fun vals w hd => hd 10 rfl) (fun vals w hR hd hG => to_f2 zk (gd hG (hd 17 rfl)) (gd hG (hd 19 rfl)) (SameKey_c (HSzf.ext hR) (HSf.ext hR))) ?_
   refine rt_v (fun vals w hR hd => v_or (hd 10 rfl) (hd 20 rfl)) ?_
   refine rt_nil (fun w113 e113 => ?_)
   rintro _ rfl _ rfl _ rfl _ rfl _ rfl _ rfl _ rfl _ rfl _ rfl _ rfl _ rfl _ rfl _ rfl _ rfl _ rfl _ rfl _ rfl _ rfl _ rfl _ rfl _ rfl _ rfl
   have := e113.size
   replace E := E.trans e113.keep
   replace HSr := HSr.ext e113
   replace HSm := HSm.ext e113
   replace HGm := HGm.ext e113
   replace HB1 := HB1.ext e113
   replace EL1 := EL1.trans e113.keep
   replace HPq := HPq.ext e113
   replace HSf := HSf.ext e113
   replace HSt := HSt.ext e113
   replace HG3 := HG3.ext e113
   replace HB4 := HB4.ext e113
   replace HPj := HPj.ext e113
   replace HSrt := HSrt.ext e113
   replace HB7 := HB7.ext e113
   replace EL3 := EL3.trans e113.keep
   replace HPz := HPz.ext e113
   replace HSzf := HSzf.ext e113
   refine fin_nil (n_then (c_cond rfl rfl (fun h116 => ?_) (fun h116 => ?_)))
   ·
    refine c_seq (wp_reg zd (l_v (v_assign rfl) (l_nil (n_then (c_ret (r_blk (r_then (r_then (r_blk ?_)))))))))
    refine r_blk (r_then (r_then (r_blk (r_then (ret1v rfl zq (zvB rfl) ?_)))))
    refine ⟨?_, E⟩
    congr 1; symm; rw [Bool.eq_false_iff]; intro h
    have hp := (mayMa_iff.1 h).2
    rw [List.pairwise_iff_getElem] at hp
    have hil := (List.getElem?_eq_some_iff.1 hx).1
    have hp := hp k i zo hil zo
    rw [(List.getElem?_eq_some_iff.1 hx).2, (List.getElem?_eq_some_iff.1 hz).2] at hp
    simp only [Bool.or_eq_true, decide_eq_true_eq] at h116
    rcases h116 with h | h
    ·
     omega
    exact hp.2 h
   refine c_skip (n_blk (n_then (wp_reg zd (l_v (zmI rfl) (l_v (v_add rfl rfl (by first | exact wr_i64 zo zo | rfl)) ?_)))))
   refine l_v (zaI rfl) (l_nil (n_then (⟨k + 1, _, rfl, by (repeat (first | exact Off.of_over _ _ _ | refine Off.upd ?_ zq _ | refine Off.overs ?_ zq _)), ⟨by first | rfl | exact congrArg (Value.int _) zo | (simp; done), trivial⟩, ⟨E, EL3, ?_⟩, ?_⟩)))
   ·
    refine ⟨by omega, fun u hu => ?_⟩
    rw [List.take_add_one, hz] at hu
    rcases List.mem_append.1 hu with hu | hu
    ·
     exact h4 u hu
    obtain rfl : u = z := by simpa using hu
    simp only [Bool.or_eq_false_iff, decide_eq_false_iff_not] at h116
    exact ⟨by omega, h116.2⟩
   (dsimp only; omega)
  refine c_exit (x_then (x_then (x_hit (n_blk (n_then (wp_reg zd (l_v (zmI rfl) (l_v (v_add rfl rfl (by first | exact wr_i64 zo zo | rfl)) ?_))))))))
  refine l_v (zaI rfl) (l_nil (n_then (⟨i + 1, _, rfl, by (repeat (first | exact Off.of_over _ _ _ | refine Off.upd ?_ zq _ | refine Off.overs ?_ zq _)), ⟨by first | rfl | exact congrArg (Value.int _) zo | (simp; done), trivial⟩, ⟨E, EL1, ?_⟩, ?_⟩)))
  ·
   have hk : k = i := by have := dfalse h92; omega
   subst hk
   refine ⟨by omega, fun u hu => ?_, ?_⟩
   ·
    rw [List.take_add_one, hx] at hu
    rcases List.mem_append.1 hu with hu | hu
    ·
     exact h2.1 u hu
    obtain rfl : u = x := by simpa using hu
    exact ⟨hgd.1, hgd.2, hat⟩
   rw [List.take_add_one, hx]
   refine List.pairwise_append.2 ⟨h2.2, List.pairwise_singleton _ _, fun a ha b hb => ?_⟩
   obtain rfl : b = x := by simpa using hb
   exact h4 a ha
  (dsimp only; omega)
 refine c_exit (x_then (x_then (x_hit (n_then (c_seq (wp_reg zd (l_v (v_assign rfl) (l_nil (n_then ?_)))))))))
 refine c_ret (ret1v rfl zq (zvB rfl) ?_)
 refine ⟨?_, E⟩
 congr 1; symm; rw [mayMa_iff]
 rw [List.take_of_length_le (by have := dfalse hlt; omega)] at h2; exact h2
end Go.Proofs.Yteehplloacefmaa
