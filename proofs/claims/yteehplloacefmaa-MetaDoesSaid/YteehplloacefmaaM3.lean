/- A part of the proof: steps and lemmas for the walks through the given program. -/
import Derived.Test.YteehplloacefmaaM2
namespace Go.Proofs.Yteehplloacefmaa
open Go.Vc
set_option linter.unusedVariables false
set_option linter.unusedSimpArgs false
set_option maxRecDepth 100000

theorem atMa_98 {rs : List RgV} {x : MaV} {b : Bool} (hb : x.2 = b) (h : (decide (optI (begI rs x.1.2.1) < 0) || !(rgAt rs (begI rs x.1.2.1)).2.2.1 == x.1.2.2.2.1 || !decide ((rgAt rs (begI rs x.1.2.1)).2.1 = x.1.2.2.1) || !decide ((rgAt rs (begI rs x.1.2.1)).2.2.2 = if b then x.1.2.2.2.2.2 else x.1.2.2.2.2.1)) = true) (g : atMa rs x = true) : False := by
  subst hb
  unfold atMa at g
  rcases hb : begI rs x.1.2.1 with _ | i
  · rw [hb] at g; cases g
  · rw [hb] at g h
    simp only [Bool.and_eq_true, decide_eq_true_eq] at g
    have e1 : rgAt rs (some i) = rs.getD i rg0 := rfl
    rw [e1, g.1.1, g.1.2, g.2] at h
    have h0 : ¬ ((i : Int) < 0) := by omega
    simp [optI, h0] at h
theorem atMa_ok {rs : List RgV} {x : MaV} {b : Bool} (hb : x.2 = b) (h : (decide (optI (begI rs x.1.2.1) < 0) || !(rgAt rs (begI rs x.1.2.1)).2.2.1 == x.1.2.2.2.1 || !decide ((rgAt rs (begI rs x.1.2.1)).2.1 = x.1.2.2.1) || !decide ((rgAt rs (begI rs x.1.2.1)).2.2.2 = if b then x.1.2.2.2.2.2 else x.1.2.2.2.2.1)) = false) : atMa rs x = true := by
  subst hb
  unfold atMa
  rcases hb : begI rs x.1.2.1 with _ | i
  · rw [hb] at h; simp [optI] at h
  · rw [hb] at h
    have e1 : rgAt rs (some i) = rs.getD i rg0 := rfl
    rw [e1] at h
    simp only [Bool.or_eq_false_iff, Bool.not_eq_false', decide_eq_true_eq] at h
    obtain ⟨⟨⟨_, h1⟩, h2⟩, h3⟩ := h
    simp only [Bool.and_eq_true, decide_eq_true_eq]
    exact ⟨⟨by simpa using h1, h2⟩, h3⟩
theorem MetaMay_c {w : World} {F : Nat → Prop} {v : Value} {e n : Int} {rs : List RgV} {ms : List MaV} (HG1 : AgV tMt w F v ((e, rs), n, ms)) : CallsR Try.prog 27 #[v] w (fun o w' => o = .bool (mayMt ((e, rs), n, ms)) ∧ Ext w w') := by
 obtain ⟨a, c, a2, c2, rfl, HSr, HSm, ie, im⟩ := HG1.mt
 simp only at HSr HSm ie im
 have HGm := AgV.mpOf HSr ie
 have hmx := HSm.len_max
 have hcl : ms.length ≤ c2 := by obtain ⟨_, _, hv, hcl, _⟩ := HSm; cases hv; exact hcl
 clear HG1
 refine enter 116 Try.func27 rfl rfl (by simp) ?_
 refine c_seq ?_
 have E := Keep.refl (K := NoK) w
 replace HSr := HSr.all
 replace HSm := HSm.all
 replace HGm := HGm.all
 refine wp_reg zd (l_to (to_box (zvA rfl) ?_))
 rintro b1 w1 zb1 HB1 e1 z1
 have := e1.size
 try simp only [Value.cells] at HB1
 refine l_v (v_assign rfl) (l_nil (n_then (c_seq (c_seq (wp_reg zd (l_v (v_fieldAddr (off := 0) (ft := 24) zk rfl) (l_v (v_loadA zk rfl (by first | exact (show Pv _ _ [_, _] from pv_sub 0 2 HB1.pv) | exact pv_at 0 HB1.pv | assumption) rfl) ?_)))))))
 replace HGm := HGm.ext e1
 refine l_to (to_f1 zk (zvA rfl) (CallsR.mono (May_c HGm) ?_))
 rintro _ w101 ⟨rfl, e101⟩
 have := e101.size
 refine l_v (v_not rfl) ?_
 refine l_v (zmB rfl) (l_g1 rfl rfl (fun hG => v_fieldAddr (off := 2) (ft := 2) zk rfl) ?_)
 replace HB1 := HB1.ext e101
 refine l_g1 rfl rfl (fun hG => v_load zk (gd hG rfl) (by first | exact HB1.pv 2 _ rfl | assumption)) ?_
 refine l_g1 rfl rfl (fun hG => v_lss (gd hG rfl) rfl) ?_
 refine l_v (v_or rfl rfl) ?_
 refine l_v (zmB rfl) (l_g1 rfl rfl (fun hG => v_fieldAddr (off := 2) (ft := 2) zk rfl) ?_)
 refine l_g1 rfl rfl (fun hG => v_load zk (gd hG rfl) (by first | exact HB1.pv 2 _ rfl | assumption)) ?_
 refine l_g1 rfl rfl (fun hG => v_gtr (gd hG rfl) rfl) ?_
 refine l_v (v_or rfl rfl) ?_
 replace E := (E.trans e1.keep).trans e101.keep
 replace HSr := (HSr.ext e1).ext e101
 replace HSm := (HSm.ext e1).ext e101
 replace HGm := HGm.ext e101
 refine l_nil (n_then (c_cond rfl rfl (fun h24 => ?_) (fun h24 => ?_)))
 ·
  refine c_seq (wp_reg zd (l_v (v_assign rfl) (l_nil (n_then (c_ret (r_then (ret1v rfl zq (zvB rfl) ?_)))))))
  refine ⟨?_, E⟩
  congr 1; simp only [mayMt]
  rcases hm : mayM (e, rs) with _ | _
  ·
   simp
  rw [hm] at h24
  have hx : n < 1 ∨ 2147483647 < n := by simpa using h24
  have h1 : (decide (1 ≤ n) && decide (n ≤ 2147483647)) = false := by rw [Bool.and_eq_false_iff, decide_eq_false_iff_not, decide_eq_false_iff_not]; omega
  simp only [Bool.true_and, h1, Bool.false_and]
 have hq : mayM (e, rs) = true ∧ 1 ≤ n ∧ n ≤ 2147483647 := by
  rcases hm : mayM (e, rs) with _ | _
  ·
   rw [hm] at h24; simp at h24
  rw [hm] at h24
  have hx : ¬ n < 1 ∧ ¬ 2147483647 < n := by simpa using h24
  exact ⟨rfl, by omega, by omega⟩
 have hres : mayMt ((e, rs), n, ms) = mayMa rs n ms := by simp only [mayMt, hq.1, decide_eq_true hq.2.1, decide_eq_true hq.2.2, Bool.true_and]
 rw [hres]
 refine c_skip (n_then (c_seq (c_seq (wp_reg zd (l_v (v_fieldAddr (off := 3) (ft := 25) zk rfl) (l_v (v_load zk rfl (by first | exact HB1.pv 3 _ rfl | assumption)) ?_))))))
 refine l_v (v_len (et := 54) zk rfl) ?_
 refine l_v (v_move rfl) (l_nil (n_then (c_block (c_loop (τ := Nat) [2, 3, 4, 5, 6, 7, 8, 10, 28, 29, 30, 31, 32, 33, 34, 35, 36, 37, 38, 39, 40, 41, 42, 43, 44, 45, 46, 47, 48, 49, 50, 51, 52, 53, 54, 55, 56, 57, 58, 59, 60, 61, 62, 63, 64, 65, 66, 67, 68, 69, 70, 71, 72, 73, 74, 75, 76, 77, 78, 79, 80, 81, 82, 83, 84, 85, 86, 87, 88, 89, 90, 91, 92, 93, 94, 95, 96, 97, 98, 99, 100, 101, 102, 103, 104, 105, 106, 107, 108, 109, 110, 111, 112, 113, 114, 115] (fun i => [(28, .int .i64 i)]) (fun i W => Ext w W ∧ Keep (NoK) w101 W ∧ i ≤ ms.length ∧ ∀ j, j < i → okMa rs n ms j = true) (fun i => ms.length - i) 0 (by exact ⟨rfl, trivial⟩) (by exact ⟨E, Keep.refl _, Nat.zero_le _, fun j hj => by omega⟩) ?_))))
 rintro i w102 j ⟨E, EL1, h1, h2⟩
 have := EL1.size
 refine c_seq (wp_reg zd (l_v (v_lss rfl rfl) ?_))
 replace HSr := HSr.ext EL1
 replace HSm := HSm.ext EL1
 replace HGm := HGm.ext EL1
 replace HB1 := HB1.ext EL1
 refine l_nil (n_then (c_seq (c_cond rfl rfl (fun hlt => ?_) (fun hlt => ?_))))
 ·
  have hlt := dtrue hlt
  obtain ⟨x, hx, hdr⟩ := getE (l := ms) (i := i) zo
  obtain ⟨y, hy, _⟩ := getE (l := ms) (i := i - 1) zo
  obtain ⟨q, cs, hqq, hF, _, HPq, hr⟩ := HSm.el hx
  subst hqq
  have HG2 : AgV tMa _ _ _ x := ⟨cs, rfl, hr⟩
  obtain ⟨b3, d3, b5, d5, rfl, HSf, HSt, i1, i2, i3⟩ := tMa_cells hr
  have HG3 := AgV.maMv HG2
  obtain ⟨q', cs', hq', hF', _, HPp, hr'⟩ := HSm.el hy
  cases hq'
  obtain ⟨b6, d6, b7, d7, rfl, _⟩ := tMa_cells hr'
  refine c_skip (n_then (c_seq (c_block (c_seq (wp_reg zd (l_v (zmI rfl) (l_v (v_indexAddr (et := 54) (sz := 7) (k := i) zk zk rfl rfl (by first | rfl | omega) zo) ?_)))))))
  have hwr : 0 < i → IntKind.i64.wrap ((i : Int) - 1) = ((i - 1 : Nat) : Int) := fun h => by rw [wr_i64 zo zo]; omega
  refine l_v (v_loadA zk rfl (by first | exact HPp | exact HPq | exact HB1.pv | assumption) rfl) ?_
  refine l_to (to_alloc (z := (.agg #[.int .i64 0, .slice none 0 0, .slice none 0 0, .bool false, .int .i64 0, .int .i64 0, .bool false])) (by unfold kZero; kernel_rfl) ?_)
  rintro b8 w8 zb8 HB8 e8 z8
  have := e8.size
  try simp only [Value.cells] at HB8
  refine l_v (zaI rfl) (l_to (to_storeA (n := 7) rfl rfl (zvA rfl) zk rfl dj6 HB8 dj5 ?_))
  rintro w103 HX103 k103 z103
  have := k103.size
  replace HB8 := HX103
  clear HX103
  try simp only [zS, Nat.zero_add, Nat.reduceAdd, List.drop_nil] at HB8
  replace HB1 := (HB1.ext e8).keep k103 dj4
  replace HPq := (HPq.ext e8).keep k103 (by intro h; (try dsimp only at h); (try simp only [add_block] at h); first | omega)
  replace HPp := (HPp.ext e8).keep k103 (by intro h; (try dsimp only at h); (try simp only [add_block] at h); first | omega)
  refine l_nil (n_then (c_seq (wp_reg zd (l_v (v_fieldAddr (off := 0) (ft := 39) zk rfl) (l_v (v_loadA zk rfl (by first | exact (show Pv _ _ [_, _, _, _, _, _] from pv_sub 0 6 HB8.pv) | exact (show Pv _ _ [_, _, _, _, _, _] from pv_sub 0 6 HPp) | exact (show Pv _ _ [_, _, _, _, _, _] from pv_sub 0 6 HPq) | exact (show Pv _ _ [_, _, _, _, _, _] from pv_sub 0 6 HB1.pv) | exact pv_at 0 HB8.pv | exact pv_at 0 HPp | exact pv_at 0 HPq | exact pv_at 0 HB1.pv | exact HPp | exact HPq | assumption) rfl) ?_)))))
  refine l_to (to_alloc (z := (.agg #[.int .i64 0, .slice none 0 0, .slice none 0 0, .bool false, .int .i64 0, .int .i64 0])) (by unfold kZero; kernel_rfl) ?_)
  rintro b9 w9 zb9 HB9 e9 z9
  have := e9.size
  try simp only [Value.cells] at HB9
  refine l_to (to_storeA (n := 6) rfl rfl (zvA rfl) zk rfl dj6 HB9 dj5 ?_)
  rintro w104 HX104 k104 z104
  have := k104.size
  replace HB9 := HX104
  clear HX104
  try simp only [zS, Nat.zero_add, Nat.reduceAdd, List.drop_nil] at HB9
  refine l_nil (n_then (c_seq (c_seq (wp_regd (NoK) zk zd zd ?_))))
  replace HB1 := (HB1.ext e9).keep k104 dj4
  replace HPq := (HPq.ext e9).keep k104 (by intro h; (try dsimp only at h); (try simp only [add_block] at h); first | omega)
  replace HPp := (HPp.ext e9).keep k104 (by intro h; (try dsimp only at h); (try simp only [add_block] at h); first | omega)
  replace HB8 := (HB8.ext e9).keep k104 dj4
  refine rt_v (fun vals w hR hd => v_loadA zk rfl (by first | exact (HB9.ext hR).pv | exact (HB8.ext hR).pv | exact (HPp.ext hR) | exact (HPq.ext hR) | exact (HB1.ext hR).pv | assumption) rfl) ?_
  replace HG3 := (((HG3.ext e8).keep k103 dj1).ext e9).keep k104 dj1
  refine rt_vf (fun vals w hR hd => to_f1 zk (hd 0 rfl) (MayMove_c (HG3.ext hR))) ?_
  refine rt_v (fun vals w hR hd => v_not (hd 1 rfl)) ?_
  refine rt_v (fun vals w hR hd => v_move (t := .bool _) (hd 2 rfl)) ?_
  refine rt_g1 rfl (fun vals w hd => hd 3 rfl) (fun vals w hR hd hG => v_fieldAddr (off := 0) (ft := 2) zk rfl) ?_
  refine rt_g1 rfl (fun vals w hd => hd 3 rfl) (fun vals w hR hd hG => v_load zk (gd hG (hd 4 rfl)) (by first | exact (HB9.ext hR).pv 0 _ rfl | exact (HB8.ext hR).pv 0 _ rfl | exact (HPp.ext hR) 0 _ rfl | exact (HPq.ext hR) 0 _ rfl | exact (HB1.ext hR).pv 0 _ rfl | assumption)) ?_
  refine rt_g1 rfl (fun vals w hd => hd 3 rfl) (fun vals w hR hd hG => v_fieldAddr (off := 2) (ft := 2) zk rfl) ?_
  refine rt_g1 rfl (fun vals w hd => hd 3 rfl) (fun vals w hR hd hG => v_load zk (gd hG (hd 6 rfl)) (by first | exact (HB9.ext hR).pv 2 _ rfl | exact (HB8.ext hR).pv 2 _ rfl | exact (HPp.ext hR) 2 _ rfl | exact pv_1 (HPp.ext hR) | exact (HPq.ext hR) 2 _ rfl | exact pv_1 (HPq.ext hR) | exact (HB1.ext hR).pv 2 _ rfl | assumption)) ?_
  refine rt_g1 rfl (fun vals w hd => hd 3 rfl) (fun vals w hR hd hG => v_geq (gd hG (hd 5 rfl)) (gd hG (hd 7 rfl))) ?_
  refine rt_v (fun vals w hR hd => v_or (hd 3 rfl) (hd 8 rfl)) ?_
  refine rt_v (fun vals w hR hd => v_move (t := .bool _) (hd 9 rfl)) ?_
  refine rt_g1 rfl (fun vals w hd => hd 10 rfl) (fun vals w hR hd hG => zmI rfl) ?_
  refine rt_g1 rfl (fun vals w hd => hd 10 rfl) (fun vals w hR hd hG => v_gtr (gd hG (hd 11 rfl)) rfl) ?_
  refine rt_g1 rfl (fun vals w hd => hd 10 rfl) (fun vals w hR hd hG => v_move (t := .bool _) (gd hG (hd 12 rfl))) ?_
  refine rt_g2 rfl (fun vals w hd => hd 13 rfl) (fun vals w hR hd hG => v_fieldAddr (off := 3) (ft := 25) zk rfl) ?_
  refine rt_g2 rfl (fun vals w hd => hd 13 rfl) (fun vals w hR hd hG => v_load zk (gd hG (hd 14 rfl)) (by first | exact (HB9.ext hR).pv 3 _ rfl | exact (HB8.ext hR).pv 3 _ rfl | exact (HPp.ext hR) 3 _ rfl | exact pv_1 (HPp.ext hR) | exact (HPq.ext hR) 3 _ rfl | exact pv_1 (HPq.ext hR) | exact (HB1.ext hR).pv 3 _ rfl | assumption)) ?_
  refine rt_g2 rfl (fun vals w hd => hd 13 rfl) (fun vals w hR hd hG => zmI rfl) ?_
  refine rt_g2 rfl (fun vals w hd => hd 13 rfl) (fun vals w hR hd hG => v_sub (gd hG (hd 16 rfl)) rfl (by first | exact wr_i64 zo zo | rfl)) ?_
  refine rt_g2 rfl (fun vals w hd => hd 13 rfl) (fun vals w hR hd hG => v_indexAddr (et := 54) (sz := 7) (k := i - 1) zk zk (gd hG (hd 15 rfl)) (gd hG (hd 17 rfl)) (by (have h := hG; simp at h; first|exact hwr zo|omega|(have := hwr zo; exact this))) zo) ?_
  refine rt_g2 rfl (fun vals w hd => hd 13 rfl) (fun vals w hR hd hG => v_fieldAddr (off := 0) (ft := 39) zk (gd hG (hd 18 rfl))) ?_
  refine rt_g2 rfl (fun vals w hd => hd 13 rfl) (fun vals w hR hd hG => v_fieldAddr (off := 0) (ft := 2) zk (gd hG (hd 19 rfl))) ?_
  refine rt_g2 rfl (fun vals w hd => hd 13 rfl) (fun vals w hR hd hG => v_load zk (gd hG (hd 20 rfl)) (by first | exact (HB9.ext hR).pv 0 _ rfl | exact (HB8.ext hR).pv 0 _ rfl | exact (HPp.ext hR) 0 _ rfl | exact (HPq.ext hR) 0 _ rfl | exact (HB1.ext hR).pv 0 _ rfl | assumption)) ?_
  refine rt_g2 rfl (fun vals w hd => hd 13 rfl) (fun vals w hR hd hG => v_fieldAddr (off := 0) (ft := 2) zk rfl) ?_
  refine rt_g2 rfl (fun vals w hd => hd 13 rfl) (fun vals w hR hd hG => v_load zk (gd hG (hd 22 rfl)) (by first | exact (HB9.ext hR).pv 0 _ rfl | exact (HB8.ext hR).pv 0 _ rfl | exact (HPp.ext hR) 0 _ rfl | exact (HPq.ext hR) 0 _ rfl | exact (HB1.ext hR).pv 0 _ rfl | assumption)) ?_
  refine rt_g2 rfl (fun vals w hd => hd 13 rfl) (fun vals w hR hd hG => v_geq (gd hG (hd 21 rfl)) (gd hG (hd 23 rfl))) ?_
  refine rt_g1 rfl (fun vals w hd => hd 10 rfl) (fun vals w hR hd hG => v_and (gd hG (hd 13 rfl)) (gda hG (hd 24 rfl))) ?_
  refine rt_v (fun vals w hR hd => v_or (hd 10 rfl) (hd 25 rfl)) ?_
  refine rt_nil (fun w105 e105 => ?_)
  replace HSr := (((HSr.ext e8).keep k103 dj1).ext e9).keep k104 dj1
  replace HSm := (((HSm.ext e8).keep k103 dj1).ext e9).keep k104 dj1
  replace HGm := (((HGm.ext e8).keep k103 dj1).ext e9).keep k104 dj1
  replace HSf := (((HSf.ext e8).keep k103 dj1).ext e9).keep k104 dj1
  replace HSt := (((HSt.ext e8).keep k103 dj1).ext e9).keep k104 dj1
  rintro _ rfl _ rfl _ rfl _ rfl _ rfl _ rfl _ rfl _ rfl _ rfl _ rfl _ rfl _ rfl _ rfl _ rfl _ rfl _ rfl _ rfl _ rfl _ rfl _ rfl _ rfl _ rfl _ rfl _ rfl _ rfl _ rfl _ rfl
  have := e105.size
  replace E := ((((E.trans e8.keep).step k103 dj3).trans e9.keep).step k104 dj3).trans e105.keep
  replace EL1 := ((((EL1.trans e8.keep).step k103 dj3).trans e9.keep).step k104 dj3).trans e105.keep
  replace HSr := HSr.ext e105
  replace HSm := HSm.ext e105
  replace HGm := HGm.ext e105
  replace HB1 := HB1.ext e105
  replace HPq := HPq.ext e105
  replace HSf := HSf.ext e105
  replace HSt := HSt.ext e105
  replace HG3 := HG3.ext e105
  replace HPp := HPp.ext e105
  replace HB8 := HB8.ext e105
  replace HB9 := HB9.ext e105
  refine fin_nil (n_then (c_cond rfl rfl (fun h61 => ?_) (fun h61 => ?_)))
  ·
   refine c_seq (wp_reg zd (l_v (v_assign rfl) (l_nil (n_then (c_ret (r_then (r_blk (r_then (r_then ?_)))))))))
   refine r_blk (r_then (ret1v rfl zq (zvB rfl) ?_))
   refine ⟨?_, E⟩
   congr 1; symm; refine mayMa_no (i := i) zo ?_; rw [Bool.eq_false_iff]; intro h
   obtain ⟨⟨g1, g2, _⟩, g3, _⟩ := (okMa_at hx).1 h
   have g4 : 0 < i → y.1.1 < x.1.1 := fun h0 => g3 (i - 1) y zo hy
   rw [g1] at h61
   have : ¬ n ≤ x.1.1 := by omega
   by_cases h0 : 0 < i
   ·
    have := g4 h0; simp at h61; omega
   simp at h61; omega
  have hgd : mayMv x.1 = true ∧ x.1.1 < n ∧ (0 < i → y.1.1 < x.1.1) := by
   rcases hm : mayMv x.1 with _ | _
   ·
    rw [hm] at h61; simp at h61
   rw [hm] at h61; refine ⟨rfl, ?_, fun h0 => ?_⟩ <;> (simp at h61; omega)
  refine c_skip (n_then (c_seq (wp_reg zd (l_v (v_fieldAddr (off := 0) (ft := 24) zk rfl) (l_v (v_loadA zk rfl (by first | exact (show Pv _ _ [_, _] from pv_sub 0 2 HB9.pv) | exact (show Pv _ _ [_, _] from pv_sub 0 2 HB8.pv) | exact (show Pv _ _ [_, _] from pv_sub 0 2 HPp) | exact (show Pv _ _ [_, _] from pv_sub 0 2 HPq) | exact (show Pv _ _ [_, _] from pv_sub 0 2 HB1.pv) | exact pv_at 0 HB9.pv | exact pv_at 0 HB8.pv | exact pv_at 0 HPp | exact pv_at 0 HPq | exact pv_at 0 HB1.pv | exact HPp | exact HPq | assumption) rfl) ?_)))))
  refine l_v (v_fieldAddr (off := 1) (ft := 33) zk rfl) (l_v (v_load zk rfl (by first | exact HB9.pv 1 _ rfl | exact HB8.pv 1 _ rfl | exact HPp 1 _ rfl | exact pv_1 HPp | exact HPq 1 _ rfl | exact pv_1 HPq | exact HB1.pv 1 _ rfl | assumption)) ?_)
  refine l_to (to_f2 zk (zvA rfl) (zvS rfl) (CallsR.mono (at_c HGm HSf) ?_))
  rintro _ w62 ⟨⟨u, rfl, HGu⟩, e62⟩
  have := e62.size
  obtain ⟨a6, c6, a7, c7, rfl, HSuf, HSut, hgu⟩ := HGu.rg
  refine l_v (zmT rfl) (l_v (v_extract (t := .agg _) rfl rfl) (l_v (v_extract (t := .int _ _) rfl rfl) (l_to (to_alloc (z := (.agg #[.slice none 0 0, .slice none 0 0, .bool false, .int .i64 0])) (by unfold kZero; kernel_rfl) ?_))))
  rintro b10 w10 zb10 HB10 e10 z10
  have := e10.size
  try simp only [Value.cells] at HB10
  obtain ⟨xc, hxc⟩ : ∃ b, b = x.2 := ⟨_, rfl⟩
  obtain ⟨g, hg⟩ : ∃ g, g = if x.2 then x.1.2.2.2.2.2 else x.1.2.2.2.2.1 := ⟨_, rfl⟩
  refine l_to (to_storeA (n := 4) rfl rfl (zvA rfl) zk rfl dj6 HB10 dj5 ?_)
  rintro w106 HX106 k106 z106
  have := k106.size
  replace HB10 := HX106
  clear HX106
  try simp only [zS, Nat.zero_add, Nat.reduceAdd, List.drop_nil] at HB10
  replace HB1 := ((HB1.ext e62).ext e10).keep k106 dj4
  replace HPq := ((HPq.ext e62).ext e10).keep k106 (by intro h; (try dsimp only at h); (try simp only [add_block] at h); first | omega)
  replace HPp := ((HPp.ext e62).ext e10).keep k106 (by intro h; (try dsimp only at h); (try simp only [add_block] at h); first | omega)
  replace HB8 := ((HB8.ext e62).ext e10).keep k106 dj4
  replace HB9 := ((HB9.ext e62).ext e10).keep k106 dj4
  refine l_v (zaI rfl) (l_nil (n_then (c_seq (wp_reg zd (l_v (v_fieldAddr (off := 4) (ft := 3) zk rfl) (l_v (v_load zk rfl (by first | exact HB10.pv 4 _ rfl | exact HB9.pv 4 _ rfl | exact HB8.pv 4 _ rfl | exact HPp 4 _ rfl | exact pv_1 HPp | exact HPq 4 _ rfl | exact pv_1 HPq | exact HB1.pv 4 _ rfl | assumption)) ?_))))))
  refine l_v (zaI rfl) (l_nil (n_then (c_seq (c_seq (wp_reg zd (l_v (v_fieldAddr (off := 6) (ft := 4) zk rfl) (l_v (v_load zk rfl (by first | exact HB10.pv 6 _ rfl | exact HB9.pv 6 _ rfl | exact HB8.pv 6 _ rfl | exact HPp 6 _ rfl | exact pv_1 HPp | exact HPq 6 _ rfl | exact pv_1 HPq | exact HB1.pv 6 _ rfl | assumption)) ?_)))))))
  replace E := ((E.trans e62.keep).trans e10.keep).step k106 dj3
  replace HSr := ((HSr.ext e62).ext e10).keep k106 dj1
  replace HSm := ((HSm.ext e62).ext e10).keep k106 dj1
  replace HGm := ((HGm.ext e62).ext e10).keep k106 dj1
  replace EL1 := ((EL1.trans e62.keep).trans e10.keep).step k106 dj3
  replace HSf := ((HSf.ext e62).ext e10).keep k106 dj1
  replace HSt := ((HSt.ext e62).ext e10).keep k106 dj1
  replace HG3 := ((HG3.ext e62).ext e10).keep k106 dj1
  replace HGu := (HGu.ext e10).keep k106 dj1
  replace HSuf := (HSuf.ext e10).keep k106 dj1
  replace HSut := (HSut.ext e10).keep k106 dj1
  refine l_nil (n_then (c_cond rfl rfl (fun h73 => ?_) (fun h73 => ?_)))
  ·
   refine wp_reg zd (l_v (v_fieldAddr (off := 5) (ft := 3) zk rfl) (l_v (v_load zk rfl (by first | exact HB10.pv 5 _ rfl | exact HB9.pv 5 _ rfl | exact HB8.pv 5 _ rfl | exact HPp 5 _ rfl | exact pv_1 HPp | exact HPq 5 _ rfl | exact pv_1 HPq | exact HB1.pv 5 _ rfl | assumption)) ?_))
   refine l_v (zaI rfl) (l_nil (n_then (c_seq (c_seq (wp_reg zd (l_v (zmI rfl) (l_v (v_lss rfl rfl) ?_)))))))
   refine l_v (zmB rfl) (l_g1 rfl rfl (fun hG => v_fieldAddr (off := 2) (ft := 4) zk rfl) ?_)
   refine l_g1 rfl rfl (fun hG => v_load zk (gd hG rfl) (by first | exact HB10.pv 2 _ rfl | exact HB9.pv 2 _ rfl | exact HB8.pv 2 _ rfl | exact HPp 2 _ rfl | exact pv_1 HPp | exact HPq 2 _ rfl | exact pv_1 HPq | exact HB1.pv 2 _ rfl | assumption)) ?_
   refine l_g1 rfl rfl (fun hG => v_fieldAddr (off := 3) (ft := 4) zk rfl) ?_
   refine l_g1 rfl rfl (fun hG => v_load zk (gd hG rfl) (by first | exact HB10.pv 3 _ rfl | exact HB9.pv 3 _ rfl | exact HB8.pv 3 _ rfl | exact HPp 3 _ rfl | exact pv_1 HPp | exact HPq 3 _ rfl | exact pv_1 HPq | exact HB1.pv 3 _ rfl | assumption)) ?_
   refine l_g1 rfl rfl (fun hG => v_bneq zk (gd hG rfl) (gd hG rfl)) ?_
   refine l_v (v_or rfl rfl) ?_
   refine l_v (zmB rfl) (l_g1 rfl rfl (fun hG => v_fieldAddr (off := 1) (ft := 33) zk rfl) ?_)
   refine l_g1 rfl rfl (fun hG => v_load zk (gd hG rfl) (by first | exact HB10.pv 1 _ rfl | exact HB9.pv 1 _ rfl | exact HB8.pv 1 _ rfl | exact HPp 1 _ rfl | exact pv_1 HPp | exact HPq 1 _ rfl | exact pv_1 HPq | exact HB1.pv 1 _ rfl | assumption)) ?_
   refine l_g1 rfl rfl (fun hG => v_fieldAddr (off := 2) (ft := 33) zk rfl) ?_
   refine l_g1 rfl rfl (fun hG => v_load zk (gd hG rfl) (by first | exact HB10.pv 2 _ rfl | exact HB9.pv 2 _ rfl | exact HB8.pv 2 _ rfl | exact HPp 2 _ rfl | exact pv_1 HPp | exact HPq 2 _ rfl | exact pv_1 HPq | exact HB1.pv 2 _ rfl | assumption)) ?_
   refine l_g1f rfl rfl (fun hG => to_f2 zk (gd hG rfl) (gd hG rfl) (Equal_c HSut HSt)) ?_
   rintro w107 e107
   have := e107.size
   refine l_g1 rfl rfl (fun hG => v_not (gd hG rfl)) ?_
   refine l_v (v_or rfl rfl) ?_
   refine l_v (zmB rfl) (l_g1 rfl rfl (fun hG => v_fieldAddr (off := 3) (ft := 3) zk rfl) ?_)
   replace HB1 := HB1.ext e107
   replace HPq := HPq.ext e107
   replace HPp := HPp.ext e107
   replace HB8 := HB8.ext e107
   replace HB9 := HB9.ext e107
   replace HB10 := HB10.ext e107
   refine l_g1 rfl rfl (fun hG => v_load zk (gd hG rfl) (by first | exact HB10.pv 3 _ rfl | exact HB9.pv 3 _ rfl | exact HB8.pv 3 _ rfl | exact HPp 3 _ rfl | exact pv_1 HPp | exact HPq 3 _ rfl | exact pv_1 HPq | exact HB1.pv 3 _ rfl | assumption)) ?_
   refine l_g1 rfl rfl (fun hG => zmI rfl) (l_g1 rfl rfl (fun hG => v_neq (gd hG rfl) (gd hG rfl)) ?_)
   refine l_v (v_or rfl rfl) ?_
   replace E := E.trans e107.keep
   replace HSr := HSr.ext e107
   replace HSm := HSm.ext e107
   replace HGm := HGm.ext e107
   replace EL1 := EL1.trans e107.keep
   replace HSf := HSf.ext e107
   replace HSt := HSt.ext e107
   replace HG3 := HG3.ext e107
   replace HGu := HGu.ext e107
   replace HSuf := HSuf.ext e107
   replace HSut := HSut.ext e107
   refine l_nil (n_then (c_cond rfl rfl (fun h98 => ?_) (fun h98 => ?_)))
   ·
    refine c_seq (wp_reg zd (l_v (v_assign rfl) (l_nil (n_then (c_ret (r_then (r_blk (r_then (r_then ?_)))))))))
    refine r_blk (r_then (ret1v rfl zq (zvB rfl) ?_))
    refine ⟨?_, E⟩
    congr 1; symm; refine mayMa_no (i := i) zo ?_; rw [Bool.eq_false_iff]; intro h
    have g := ((okMa_at hx).1 h).1.2.2
    exact atMa_98 h73 h98 g
   refine c_skip (n_then (c_seq (wp_reg zd (l_v (v_fieldAddr (off := 3) (ft := 25) zk rfl) (l_v (v_load zk rfl (by first | exact HB10.pv 3 _ rfl | exact HB9.pv 3 _ rfl | exact HB8.pv 3 _ rfl | exact HPp 3 _ rfl | exact pv_1 HPp | exact HPq 3 _ rfl | exact pv_1 HPq | exact HB1.pv 3 _ rfl | assumption)) ?_)))))
   refine l_v (zmI rfl) (l_v (v_slicePre (et := 54) (sz := 7) (h := i) zk zk rfl rfl (by first | rfl | omega) zo) ?_)
   refine l_v (v_len (et := 54) zk rfl) ?_
   refine l_v (v_move rfl) (l_nil (n_then (c_block (c_loop (τ := Nat) [2, 10, 104, 105, 106, 107, 108, 109, 110, 111, 112, 113, 114] (fun k => [(104, .int .i64 k)]) (fun k W => Ext w W ∧ Keep (NoK) w107 W ∧ k ≤ i ∧ ∀ z ∈ ms.take k, z.1.2.1 ≠ x.1.2.1) (fun k => i - k) 0 (by exact ⟨rfl, trivial⟩) (by exact ⟨E, Keep.refl _, Nat.zero_le _, fun z hz => by simp at hz⟩) ?_))))
   rintro k w108 j ⟨E, EL2, h3, h4⟩
   have := EL2.size
   refine c_seq (wp_reg zd (l_v (v_lss rfl rfl) ?_))
   replace HSr := HSr.ext EL2
   replace HSm := HSm.ext EL2
   replace HGm := HGm.ext EL2
   replace HB1 := HB1.ext EL2
   replace EL1 := EL1.trans EL2.keep
   replace HPq := HPq.ext EL2
   replace HSf := HSf.ext EL2
   replace HSt := HSt.ext EL2
   replace HG3 := HG3.ext EL2
   replace HPp := HPp.ext EL2
   replace HB8 := HB8.ext EL2
   replace HB9 := HB9.ext EL2
   replace HGu := HGu.ext EL2
   replace HSuf := HSuf.ext EL2
   replace HSut := HSut.ext EL2
   replace HB10 := HB10.ext EL2
   refine l_nil (n_then (c_seq (c_cond rfl rfl (fun h105 => ?_) (fun h105 => ?_))))
   ·
    have h105 := dtrue h105
    obtain ⟨z, hz, _⟩ := getE (l := ms) (i := k) zo
    obtain ⟨q2, cs2, hq2, hF2, _, HPz, hrz⟩ := HSm.el hz
    cases hq2
    obtain ⟨b11, d11, b12, d12, rfl, HSzf, _⟩ := tMa_cells hrz
    refine c_skip (n_then (c_seq (c_block (c_seq (wp_reg zd (l_v (v_indexAddr (et := 54) (sz := 7) (k := k) zk zk rfl rfl (by first | rfl | omega) zo) ?_))))))
    refine l_v (v_loadA zk rfl (by first | exact HPz | exact HB10.pv | exact HB9.pv | exact HB8.pv | exact HPp | exact HPq | exact HB1.pv | assumption) rfl) ?_
    refine l_to (to_alloc (z := (.agg #[.int .i64 0, .slice none 0 0, .slice none 0 0, .bool false, .int .i64 0, .int .i64 0, .bool false])) (by unfold kZero; kernel_rfl) ?_)
    rintro b13 w13 zb13 HB13 e13 z13
    have := e13.size
    try simp only [Value.cells] at HB13
    refine l_to (to_storeA (n := 7) rfl rfl (zvA rfl) zk rfl dj6 HB13 dj5 ?_)
    rintro w109 HX109 k109 z109
    have := k109.size
    replace HB13 := HX109
    clear HX109
    try simp only [zS, Nat.zero_add, Nat.reduceAdd, List.drop_nil] at HB13
    replace HB1 := (HB1.ext e13).keep k109 dj4
    replace HPq := (HPq.ext e13).keep k109 (by intro h; (try dsimp only at h); (try simp only [add_block] at h); first | omega)
    replace HPp := (HPp.ext e13).keep k109 (by intro h; (try dsimp only at h); (try simp only [add_block] at h); first | omega)
    replace HB8 := (HB8.ext e13).keep k109 dj4
    replace HB9 := (HB9.ext e13).keep k109 dj4
    replace HB10 := (HB10.ext e13).keep k109 dj4
    replace HPz := (HPz.ext e13).keep k109 (by intro h; (try dsimp only at h); (try simp only [add_block] at h); first | omega)
    refine l_nil (n_then (c_seq (wp_reg zd (l_v (v_fieldAddr (off := 0) (ft := 39) zk rfl) (l_v (v_fieldAddr (off := 1) (ft := 33) zk rfl) (l_v (v_load zk rfl (by first | exact HB13.pv 1 _ rfl | exact HPz 1 _ rfl | exact pv_1 HPz | exact HB10.pv 1 _ rfl | exact HB9.pv 1 _ rfl | exact HB8.pv 1 _ rfl | exact HPp 1 _ rfl | exact pv_1 HPp | exact HPq 1 _ rfl | exact pv_1 HPq | exact HB1.pv 1 _ rfl | assumption)) ?_))))))
    refine l_v (v_fieldAddr (off := 1) (ft := 33) zk rfl) (l_v (v_load zk rfl (by first | exact HB13.pv 1 _ rfl | exact HPz 1 _ rfl | exact pv_1 HPz | exact HB10.pv 1 _ rfl | exact HB9.pv 1 _ rfl | exact HB8.pv 1 _ rfl | exact HPp 1 _ rfl | exact pv_1 HPp | exact HPq 1 _ rfl | exact pv_1 HPq | exact HB1.pv 1 _ rfl | assumption)) ?_)
    replace HSf := (HSf.ext e13).keep k109 dj1
    replace HSzf := (HSzf.ext e13).keep k109 dj1
    refine l_to (to_f2 zk (zvS rfl) (zvS rfl) (CallsR.mono (Equal_c HSzf HSf) ?_))
    replace HSr := (HSr.ext e13).keep k109 dj1
    replace HSm := (HSm.ext e13).keep k109 dj1
    replace HGm := (HGm.ext e13).keep k109 dj1
    replace HSt := (HSt.ext e13).keep k109 dj1
    replace HG3 := (HG3.ext e13).keep k109 dj1
    replace HGu := (HGu.ext e13).keep k109 dj1
    replace HSuf := (HSuf.ext e13).keep k109 dj1
    replace HSut := (HSut.ext e13).keep k109 dj1
    rintro _ w110 ⟨rfl, e110⟩
    have := e110.size
    replace E := ((E.trans e13.keep).step k109 dj3).trans e110.keep
    replace EL1 := ((EL1.trans e13.keep).step k109 dj3).trans e110.keep
    replace EL2 := ((EL2.trans e13.keep).step k109 dj3).trans e110.keep
    replace HSr := HSr.ext e110
    replace HSm := HSm.ext e110
    replace HGm := HGm.ext e110
    replace HB1 := HB1.ext e110
    replace HPq := HPq.ext e110
    replace HSf := HSf.ext e110
    replace HSt := HSt.ext e110
    replace HG3 := HG3.ext e110
    replace HPp := HPp.ext e110
    replace HB8 := HB8.ext e110
    replace HB9 := HB9.ext e110
    replace HGu := HGu.ext e110
    replace HSuf := HSuf.ext e110
    replace HSut := HSut.ext e110
    replace HB10 := HB10.ext e110
    replace HPz := HPz.ext e110
    replace HSzf := HSzf.ext e110
    replace HB13 := HB13.ext e110
    refine l_nil (n_then (c_cond rfl rfl (fun h113 => ?_) (fun h113 => ?_)))
    ·
     refine c_seq (wp_reg zd (l_v (v_assign rfl) (l_nil (n_then (c_ret (r_blk (r_then (r_then (r_blk ?_)))))))))
     refine r_blk (r_then (r_then (r_blk (r_then (ret1v rfl zq (zvB rfl) ?_)))))
     refine ⟨?_, E⟩
     congr 1; symm; refine mayMa_no (i := i) zo ?_; rw [Bool.eq_false_iff]; intro h
     exact ((okMa_at hx).1 h).2.2 z (List.mem_of_getElem? (i := k) (by rw [List.getElem?_take_of_lt zo]; exact hz)) (by simpa using h113)
    refine c_skip (n_blk (n_then (wp_reg zd (l_v (v_add rfl rfl (by first | exact wr_i64 zo zo | rfl)) ?_))))
    refine l_v (zmI rfl) (l_nil (n_then (⟨k + 1, _, rfl, by (repeat (first | exact Off.of_over _ _ _ | refine Off.upd ?_ zq _ | refine Off.overs ?_ zq _)), ⟨by first | rfl | exact congrArg (Value.int _) zo | (simp; done), trivial⟩, ⟨E, EL2, ?_⟩, ?_⟩)))
    ·
     refine ⟨by omega, fun u hu => ?_⟩
     rw [List.take_add_one, hz] at hu
     rcases List.mem_append.1 hu with hu | hu
     ·
      exact h4 u hu
     obtain rfl : u = z := by simpa using hu
     simpa using h113
    (dsimp only; omega)
   refine c_exit (x_then (x_then (x_hit (n_blk (n_then (wp_reg zd (l_v (v_add rfl rfl (by first | exact wr_i64 zo zo | rfl)) ?_)))))))
   refine l_v (zmI rfl) (l_nil (n_then (⟨i + 1, _, rfl, by (repeat (first | exact Off.of_over _ _ _ | refine Off.upd ?_ zq _ | refine Off.overs ?_ zq _)), ⟨by first | rfl | exact congrArg (Value.int _) zo | (simp; done), trivial⟩, ⟨E, EL1, ?_⟩, ?_⟩)))
   ·
    have hk : k = i := by have := dfalse h105; omega
    refine ⟨by omega, fun j hj => ?_⟩
    rcases Nat.lt_or_ge j i with hji | hji
    ·
     exact h2 j hji
    obtain rfl : j = i := by omega
    refine (okMa_at hx).2 ⟨⟨hgd.1, hgd.2.1, atMa_ok h73 h98⟩, fun j2 y2 hj2 hy2 => ?_, fun z hz => h4 z (by rw [hk]; exact hz)⟩
    subst hj2; simp only [Nat.add_sub_cancel] at hy; rw [hy] at hy2; cases hy2; exact hgd.2.2 zo
   (dsimp only; omega)
  refine c_skip (n_then (c_seq (c_seq (wp_reg zd (l_v (zmI rfl) (l_v (v_lss rfl rfl) ?_))))))
  refine l_v (zmB rfl) (l_g1 rfl rfl (fun hG => v_fieldAddr (off := 2) (ft := 4) zk rfl) ?_)
  refine l_g1 rfl rfl (fun hG => v_load zk (gd hG rfl) (by first | exact HB10.pv 2 _ rfl | exact HB9.pv 2 _ rfl | exact HB8.pv 2 _ rfl | exact HPp 2 _ rfl | exact pv_1 HPp | exact HPq 2 _ rfl | exact pv_1 HPq | exact HB1.pv 2 _ rfl | assumption)) ?_
  refine l_g1 rfl rfl (fun hG => v_fieldAddr (off := 3) (ft := 4) zk rfl) ?_
  refine l_g1 rfl rfl (fun hG => v_load zk (gd hG rfl) (by first | exact HB10.pv 3 _ rfl | exact HB9.pv 3 _ rfl | exact HB8.pv 3 _ rfl | exact HPp 3 _ rfl | exact pv_1 HPp | exact HPq 3 _ rfl | exact pv_1 HPq | exact HB1.pv 3 _ rfl | assumption)) ?_
  refine l_g1 rfl rfl (fun hG => v_bneq zk (gd hG rfl) (gd hG rfl)) ?_
  refine l_v (v_or rfl rfl) ?_
  refine l_v (zmB rfl) (l_g1 rfl rfl (fun hG => v_fieldAddr (off := 1) (ft := 33) zk rfl) ?_)
  refine l_g1 rfl rfl (fun hG => v_load zk (gd hG rfl) (by first | exact HB10.pv 1 _ rfl | exact HB9.pv 1 _ rfl | exact HB8.pv 1 _ rfl | exact HPp 1 _ rfl | exact pv_1 HPp | exact HPq 1 _ rfl | exact pv_1 HPq | exact HB1.pv 1 _ rfl | assumption)) ?_
  refine l_g1 rfl rfl (fun hG => v_fieldAddr (off := 2) (ft := 33) zk rfl) ?_
  refine l_g1 rfl rfl (fun hG => v_load zk (gd hG rfl) (by first | exact HB10.pv 2 _ rfl | exact HB9.pv 2 _ rfl | exact HB8.pv 2 _ rfl | exact HPp 2 _ rfl | exact pv_1 HPp | exact HPq 2 _ rfl | exact pv_1 HPq | exact HB1.pv 2 _ rfl | assumption)) ?_
  refine l_g1f rfl rfl (fun hG => to_f2 zk (gd hG rfl) (gd hG rfl) (Equal_c HSut HSt)) ?_
  rintro w111 e111
  have := e111.size
  refine l_g1 rfl rfl (fun hG => v_not (gd hG rfl)) ?_
  refine l_v (v_or rfl rfl) ?_
  refine l_v (zmB rfl) (l_g1 rfl rfl (fun hG => v_fieldAddr (off := 3) (ft := 3) zk rfl) ?_)
  replace HB1 := HB1.ext e111
  replace HPq := HPq.ext e111
  replace HPp := HPp.ext e111
  replace HB8 := HB8.ext e111
  replace HB9 := HB9.ext e111
  replace HB10 := HB10.ext e111
  refine l_g1 rfl rfl (fun hG => v_load zk (gd hG rfl) (by first | exact HB10.pv 3 _ rfl | exact HB9.pv 3 _ rfl | exact HB8.pv 3 _ rfl | exact HPp 3 _ rfl | exact pv_1 HPp | exact HPq 3 _ rfl | exact pv_1 HPq | exact HB1.pv 3 _ rfl | assumption)) ?_
  refine l_g1 rfl rfl (fun hG => zmI rfl) (l_g1 rfl rfl (fun hG => v_neq (gd hG rfl) (gd hG rfl)) ?_)
  refine l_v (v_or rfl rfl) ?_
  replace E := E.trans e111.keep
  replace HSr := HSr.ext e111
  replace HSm := HSm.ext e111
  replace HGm := HGm.ext e111
  replace EL1 := EL1.trans e111.keep
  replace HSf := HSf.ext e111
  replace HSt := HSt.ext e111
  replace HG3 := HG3.ext e111
  replace HGu := HGu.ext e111
  replace HSuf := HSuf.ext e111
  replace HSut := HSut.ext e111
  refine l_nil (n_then (c_cond rfl rfl (fun h98 => ?_) (fun h98 => ?_)))
  ·
   refine c_seq (wp_reg zd (l_v (v_assign rfl) (l_nil (n_then (c_ret (r_then (r_blk (r_then (r_then ?_)))))))))
   refine r_blk (r_then (ret1v rfl zq (zvB rfl) ?_))
   refine ⟨?_, E⟩
   congr 1; symm; refine mayMa_no (i := i) zo ?_; rw [Bool.eq_false_iff]; intro h
   have g := ((okMa_at hx).1 h).1.2.2
   exact atMa_98 h73 h98 g
  refine c_skip (n_then (c_seq (wp_reg zd (l_v (v_fieldAddr (off := 3) (ft := 25) zk rfl) (l_v (v_load zk rfl (by first | exact HB10.pv 3 _ rfl | exact HB9.pv 3 _ rfl | exact HB8.pv 3 _ rfl | exact HPp 3 _ rfl | exact pv_1 HPp | exact HPq 3 _ rfl | exact pv_1 HPq | exact HB1.pv 3 _ rfl | assumption)) ?_)))))
  refine l_v (zmI rfl) (l_v (v_slicePre (et := 54) (sz := 7) (h := i) zk zk rfl rfl (by first | rfl | omega) zo) ?_)
  refine l_v (v_len (et := 54) zk rfl) ?_
  refine l_v (v_move rfl) (l_nil (n_then (c_block (c_loop (τ := Nat) [2, 10, 104, 105, 106, 107, 108, 109, 110, 111, 112, 113, 114] (fun k => [(104, .int .i64 k)]) (fun k W => Ext w W ∧ Keep (NoK) w111 W ∧ k ≤ i ∧ ∀ z ∈ ms.take k, z.1.2.1 ≠ x.1.2.1) (fun k => i - k) 0 (by exact ⟨rfl, trivial⟩) (by exact ⟨E, Keep.refl _, Nat.zero_le _, fun z hz => by simp at hz⟩) ?_))))
  rintro k w112 j ⟨E, EL3, h3, h4⟩
  have := EL3.size
  refine c_seq (wp_reg zd (l_v (v_lss rfl rfl) ?_))
  replace HSr := HSr.ext EL3
  replace HSm := HSm.ext EL3
  replace HGm := HGm.ext EL3
  replace HB1 := HB1.ext EL3
  replace EL1 := EL1.trans EL3.keep
  replace HPq := HPq.ext EL3
  replace HSf := HSf.ext EL3
  replace HSt := HSt.ext EL3
  replace HG3 := HG3.ext EL3
  replace HPp := HPp.ext EL3
  replace HB8 := HB8.ext EL3
  replace HB9 := HB9.ext EL3
  replace HGu := HGu.ext EL3
  replace HSuf := HSuf.ext EL3
  replace HSut := HSut.ext EL3
  replace HB10 := HB10.ext EL3
  refine l_nil (n_then (c_seq (c_cond rfl rfl (fun h105 => ?_) (fun h105 => ?_))))
  ·
   have h105 := dtrue h105
   obtain ⟨z, hz, _⟩ := getE (l := ms) (i := k) zo
   obtain ⟨q2, cs2, hq2, hF2, _, HPz, hrz⟩ := HSm.el hz
   cases hq2
   obtain ⟨b11, d11, b12, d12, rfl, HSzf, _⟩ := tMa_cells hrz
   refine c_skip (n_then (c_seq (c_block (c_seq (wp_reg zd (l_v (v_indexAddr (et := 54) (sz := 7) (k := k) zk zk rfl rfl (by first | rfl | omega) zo) ?_))))))
   refine l_v (v_loadA zk rfl (by first | exact HPz | exact HB10.pv | exact HB9.pv | exact HB8.pv | exact HPp | exact HPq | exact HB1.pv | assumption) rfl) ?_
   refine l_to (to_alloc (z := (.agg #[.int .i64 0, .slice none 0 0, .slice none 0 0, .bool false, .int .i64 0, .int .i64 0, .bool false])) (by unfold kZero; kernel_rfl) ?_)
   rintro b13 w13 zb13 HB13 e13 z13
   have := e13.size
   try simp only [Value.cells] at HB13
   refine l_to (to_storeA (n := 7) rfl rfl (zvA rfl) zk rfl dj6 HB13 dj5 ?_)
   rintro w113 HX113 k113 z113
   have := k113.size
   replace HB13 := HX113
   clear HX113
   try simp only [zS, Nat.zero_add, Nat.reduceAdd, List.drop_nil] at HB13
   replace HB1 := (HB1.ext e13).keep k113 dj4
   replace HPq := (HPq.ext e13).keep k113 (by intro h; (try dsimp only at h); (try simp only [add_block] at h); first | omega)
   replace HPp := (HPp.ext e13).keep k113 (by intro h; (try dsimp only at h); (try simp only [add_block] at h); first | omega)
   replace HB8 := (HB8.ext e13).keep k113 dj4
   replace HB9 := (HB9.ext e13).keep k113 dj4
   replace HB10 := (HB10.ext e13).keep k113 dj4
   replace HPz := (HPz.ext e13).keep k113 (by intro h; (try dsimp only at h); (try simp only [add_block] at h); first | omega)
   refine l_nil (n_then (c_seq (wp_reg zd (l_v (v_fieldAddr (off := 0) (ft := 39) zk rfl) (l_v (v_fieldAddr (off := 1) (ft := 33) zk rfl) (l_v (v_load zk rfl (by first | exact HB13.pv 1 _ rfl | exact HPz 1 _ rfl | exact pv_1 HPz | exact HB10.pv 1 _ rfl | exact HB9.pv 1 _ rfl | exact HB8.pv 1 _ rfl | exact HPp 1 _ rfl | exact pv_1 HPp | exact HPq 1 _ rfl | exact pv_1 HPq | exact HB1.pv 1 _ rfl | assumption)) ?_))))))
   refine l_v (v_fieldAddr (off := 1) (ft := 33) zk rfl) (l_v (v_load zk rfl (by first | exact HB13.pv 1 _ rfl | exact HPz 1 _ rfl | exact pv_1 HPz | exact HB10.pv 1 _ rfl | exact HB9.pv 1 _ rfl | exact HB8.pv 1 _ rfl | exact HPp 1 _ rfl | exact pv_1 HPp | exact HPq 1 _ rfl | exact pv_1 HPq | exact HB1.pv 1 _ rfl | assumption)) ?_)
   replace HSf := (HSf.ext e13).keep k113 dj1
   replace HSzf := (HSzf.ext e13).keep k113 dj1
   refine l_to (to_f2 zk (zvS rfl) (zvS rfl) (CallsR.mono (Equal_c HSzf HSf) ?_))
   replace HSr := (HSr.ext e13).keep k113 dj1
   replace HSm := (HSm.ext e13).keep k113 dj1
   replace HGm := (HGm.ext e13).keep k113 dj1
   replace HSt := (HSt.ext e13).keep k113 dj1
   replace HG3 := (HG3.ext e13).keep k113 dj1
   replace HGu := (HGu.ext e13).keep k113 dj1
   replace HSuf := (HSuf.ext e13).keep k113 dj1
   replace HSut := (HSut.ext e13).keep k113 dj1
   rintro _ w114 ⟨rfl, e114⟩
   have := e114.size
   replace E := ((E.trans e13.keep).step k113 dj3).trans e114.keep
   replace EL1 := ((EL1.trans e13.keep).step k113 dj3).trans e114.keep
   replace EL3 := ((EL3.trans e13.keep).step k113 dj3).trans e114.keep
   replace HSr := HSr.ext e114
   replace HSm := HSm.ext e114
   replace HGm := HGm.ext e114
   replace HB1 := HB1.ext e114
   replace HPq := HPq.ext e114
   replace HSf := HSf.ext e114
   replace HSt := HSt.ext e114
   replace HG3 := HG3.ext e114
   replace HPp := HPp.ext e114
   replace HB8 := HB8.ext e114
   replace HB9 := HB9.ext e114
   replace HGu := HGu.ext e114
   replace HSuf := HSuf.ext e114
   replace HSut := HSut.ext e114
   replace HB10 := HB10.ext e114
   replace HPz := HPz.ext e114
   replace HSzf := HSzf.ext e114
   replace HB13 := HB13.ext e114
   refine l_nil (n_then (c_cond rfl rfl (fun h113 => ?_) (fun h113 => ?_)))
   ·
    refine c_seq (wp_reg zd (l_v (v_assign rfl) (l_nil (n_then (c_ret (r_blk (r_then (r_then (r_blk ?_)))))))))
    refine r_blk (r_then (r_then (r_blk (r_then (ret1v rfl zq (zvB rfl) ?_)))))
    refine ⟨?_, E⟩
    congr 1; symm; refine mayMa_no (i := i) zo ?_; rw [Bool.eq_false_iff]; intro h
    exact ((okMa_at hx).1 h).2.2 z (List.mem_of_getElem? (i := k) (by rw [List.getElem?_take_of_lt zo]; exact hz)) (by simpa using h113)
   refine c_skip (n_blk (n_then (wp_reg zd (l_v (v_add rfl rfl (by first | exact wr_i64 zo zo | rfl)) ?_))))
   refine l_v (zmI rfl) (l_nil (n_then (⟨k + 1, _, rfl, by (repeat (first | exact Off.of_over _ _ _ | refine Off.upd ?_ zq _ | refine Off.overs ?_ zq _)), ⟨by first | rfl | exact congrArg (Value.int _) zo | (simp; done), trivial⟩, ⟨E, EL3, ?_⟩, ?_⟩)))
   ·
    refine ⟨by omega, fun u hu => ?_⟩
    rw [List.take_add_one, hz] at hu
    rcases List.mem_append.1 hu with hu | hu
    ·
     exact h4 u hu
    obtain rfl : u = z := by simpa using hu
    simpa using h113
   (dsimp only; omega)
  refine c_exit (x_then (x_then (x_hit (n_blk (n_then (wp_reg zd (l_v (v_add rfl rfl (by first | exact wr_i64 zo zo | rfl)) ?_)))))))
  refine l_v (zmI rfl) (l_nil (n_then (⟨i + 1, _, rfl, by (repeat (first | exact Off.of_over _ _ _ | refine Off.upd ?_ zq _ | refine Off.overs ?_ zq _)), ⟨by first | rfl | exact congrArg (Value.int _) zo | (simp; done), trivial⟩, ⟨E, EL1, ?_⟩, ?_⟩)))
  ·
   have hk : k = i := by have := dfalse h105; omega
   refine ⟨by omega, fun j hj => ?_⟩
   rcases Nat.lt_or_ge j i with hji | hji
   ·
    exact h2 j hji
   obtain rfl : j = i := by omega
   refine (okMa_at hx).2 ⟨⟨hgd.1, hgd.2.1, atMa_ok h73 h98⟩, fun j2 y2 hj2 hy2 => ?_, fun z hz => h4 z (by rw [hk]; exact hz)⟩
   subst hj2; simp only [Nat.add_sub_cancel] at hy; rw [hy] at hy2; cases hy2; exact hgd.2.2 zo
  (dsimp only; omega)
 refine c_exit (x_then (x_then (x_hit (n_then (c_seq (wp_reg zd (l_v (v_assign rfl) (l_nil (n_then ?_)))))))))
 refine c_ret (ret1v rfl zq (zvB rfl) ?_)
 refine ⟨?_, E⟩
 rw [mayMa_yes fun j hj => h2 j (by have := dfalse hlt; omega)]
end Go.Proofs.Yteehplloacefmaa
