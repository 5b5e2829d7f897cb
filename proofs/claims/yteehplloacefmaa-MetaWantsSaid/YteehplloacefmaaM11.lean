/- A part of the proof: steps and lemmas for the walks through the given program. -/
import Derived.Test.YteehplloacefmaaM10
namespace Go.Proofs.Yteehplloacefmaa
open Go.Vc
set_option linter.unusedVariables false
set_option linter.unusedSimpArgs false
set_option maxRecDepth 100000

theorem waC_may {m : MvV} {k : Int} (hm : mayMv m = true) (hk : k = 3 ∨ k = 5) : mayCm (waC k m) = true := by
  have h : nmdC (waC k m) = ((k, rq0, m, [], [], [], 0), mayMv m) := by
    rcases hk with rfl | rfl <;> rfl
  rw [mayCm, h]
  simp [hm, waC]
theorem szB_le {s : MtV} (h : szB s = true) : s.1.2.length ≤ 40 ∧ s.2.2.length ≤ 40 := by simpa [szB] using h
theorem MetaWants_c {w : World} {F : Nat → Prop} {v : Value} {s : MtV} (HG1 : AgV tMt w F v s) : CallsR Try.prog 6 #[v] w (fun o w' => o = .bool true ∧ Ext w w') := by
 obtain ⟨⟨e, rs⟩, n, ms⟩ := s
 obtain ⟨a1, c1, a2, c2, rfl, HSr, HSm, ie, im⟩ := HG1.mt
 simp only at HSr HSm ie im
 refine enter 82 Try.func6 rfl rfl (by simp) ?_
 refine c_seq ?_
 have E := Keep.refl (K := NoK) w
 replace HG1 := HG1.all
 replace HSm := HSm.all
 refine wp_reg zd (l_to (to_box (zvA rfl) ?_))
 rintro b1 w1 zb1 HB1 e1 z1
 have := e1.size
 try simp only [Value.cells] at HB1
 refine l_v (v_assign rfl) (l_nil (n_then (c_seq (c_seq (wp_reg zd (l_v (v_loadA zk rfl (by first | exact HB1.pv | assumption) rfl) ?_))))))
 replace HG1 := HG1.ext e1
 refine l_to (to_f1 zk (zvA rfl) (CallsR.mono (sized_c HG1) ?_))
 rintro _ w101 ⟨rfl, e101⟩
 have := e101.size
 refine l_v (v_not rfl) ?_
 replace E := (E.trans e1.keep).trans e101.keep
 replace HSm := (HSm.ext e1).ext e101
 replace HG1 := HG1.ext e101
 replace HB1 := HB1.ext e101
 refine l_nil (n_then (c_cond rfl rfl (fun h9 => ?_) (fun h9 => ?_)))
 ·
  refine c_seq (wp_reg zd (l_to (to_f0 zk (CallsR.mono (known20_c) ?_))))
  rintro _ w102 ⟨rfl, e102⟩
  have := e102.size
  refine l_v (zaB rfl) (l_nil (n_then (c_ret (r_then (ret1v rfl zq (zvB rfl) ?_)))))
  replace E := E.trans e102.keep
  exact ⟨rfl, E⟩
 have hz := szB_le (by simpa using h9 : szB ((e, rs), n, ms) = true)
 simp only at hz
 refine c_skip (n_then (c_seq (wp_reg zd (l_v (v_loadA zk rfl (by first | exact HB1.pv | assumption) rfl) ?_))))
 refine l_to (to_f1 zk (zvA rfl) (CallsR.mono (Wants_s HG1 (by simp only; omega)) ?_))
 rintro _ w11 ⟨⟨a3, c3, rfl, HSw⟩, e11⟩
 have := e11.size
 replace HSw := HSw.mono (F' := fun b => b < w11.heap.size) fun b hb _ => hb
 replace HB1 := HB1.ext e11
 refine l_v (zaS rfl) (l_nil (n_then (c_seq (c_seq (wp_reg zd (l_v (v_loadA zk rfl (by first | exact HB1.pv | assumption) rfl) ?_))))))
 replace HG1 := HG1.ext e11
 refine l_to (to_f1 zk (zvA rfl) (CallsR.mono (rMay_c HG1) ?_))
 rintro _ w103 ⟨rfl, e103⟩
 have := e103.size
 refine l_v (v_not rfl) ?_
 replace E := (E.trans e11.keep).trans e103.keep
 replace HSm := (HSm.ext e11).ext e103
 replace HG1 := HG1.ext e103
 replace HB1 := HB1.ext e103
 replace HSw := HSw.ext e103
 refine l_nil (n_then (c_cond rfl rfl (fun h15 => ?_) (fun h15 => ?_)))
 ·
  have hm0 : ¬ mayMt ((e, rs), n, ms) = true := by simpa using h15
  have hw0 : wanL ((e, rs), n, ms) = [] := by rw [wanL, if_neg hm0]
  have hw1 : (wanL ((e, rs), n, ms)).length = 0 := by rw [hw0]; rfl
  rw [hw1]
  refine c_seq (wp_reg zd (l_v (zmS rfl) (l_v (v_len (et := 60) zk rfl) ?_)))
  refine l_v (v_eql rfl rfl) ?_
  refine l_v (zmB rfl) (l_g1f rfl rfl (fun hG => to_f0 zk (known20_c)) ?_)
  rintro w104 e104
  have := e104.size
  refine l_v (v_and rfl rfl) ?_
  refine l_v (zaB rfl) (l_nil (n_then (c_ret (r_then (ret1v rfl zq (zvB rfl) ?_)))))
  replace E := E.trans e104.keep
  exact ⟨rfl, E⟩
 have hms : mayMt ((e, rs), n, ms) = true := by simpa using h15
 have hwl : wanL ((e, rs), n, ms) = ms.map wanOf := by rw [wanL, if_pos hms]
 have hw1 : (wanL ((e, rs), n, ms)).length = ms.length := by rw [hwl, List.length_map]
 rw [hw1] at HSw ⊢
 rw [hwl] at HSw
 obtain ⟨_, _, _, p4⟩ := mayMt_iff.1 hms
 simp only at p4
 refine c_skip (n_then (c_seq (c_seq (wp_reg zd (l_v (zmS rfl) (l_v (v_len (et := 60) zk rfl) ?_))))))
 refine l_v (v_fieldAddr (off := 3) (ft := 25) zk rfl) (l_v (v_load zk rfl (by first | exact HB1.pv 3 _ rfl | assumption)) ?_)
 refine l_v (v_len (et := 54) zk rfl) ?_
 refine l_v (v_neq rfl rfl) ?_
 refine l_nil (n_then (c_cond rfl rfl (fun h27 => ?_) (fun h27 => ?_)))
 ·
  simp at h27
 refine c_skip (n_then (c_seq (c_seq (wp_reg zd (l_v (v_assign rfl) (l_nil (n_then (c_block (c_loop (τ := Nat) [2, 4, 5, 6, 28, 29, 30, 31, 32, 33, 34, 35, 36, 37, 38, 39, 40, 41, 42, 43, 44, 45, 46, 47, 48, 49, 50, 51, 52, 53, 54, 55, 56, 57, 58, 59, 60, 61, 62, 63, 64, 65, 66, 67, 68, 69, 70, 71, 72, 73, 74, 75, 76, 77, 78, 79, 80] (fun i => [(4, .int .i64 i)]) (fun i W => Ext w W ∧ Keep (NoK) w103 W ∧ i ≤ ms.length) (fun i => ms.length - i) 0 (by exact ⟨rfl, trivial⟩) (by exact ⟨E, Keep.refl _, Nat.zero_le _⟩) ?_)))))))))
 rintro i w105 j ⟨E, EL1, h1⟩
 have := EL1.size
 refine c_seq (c_seq (wp_reg zd (l_v (zmI rfl) (l_v (zmS rfl) (l_v (v_len (et := 60) zk rfl) ?_)))))
 refine l_v (v_lss rfl rfl) ?_
 replace HG1 := HG1.ext EL1
 replace HSm := HSm.ext EL1
 replace HB1 := HB1.ext EL1
 replace HSw := HSw.ext EL1
 refine l_nil (n_then (c_cond rfl rfl (fun hlt => ?_) (fun hlt => ?_)))
 ·
  have hlt := dtrue hlt
  obtain ⟨x, hx, hdr⟩ := getE (l := ms) (i := i) zo
  have hmx2 := (p4.1 x (List.mem_of_getElem? hx)).1
  have hwx : (ms.map wanOf)[i]? = some (wanOf x) := by rw [List.getElem?_map, hx]; rfl
  obtain ⟨q, cs, hqq, hF, _, HPq, hr⟩ := HSm.el hx
  subst hqq
  have HG2 : AgV tMa _ _ _ x := ⟨cs, rfl, hr⟩
  obtain ⟨b3, y3, b5, y5, rfl, _, _, i1, i2, i3⟩ := tMa_cells hr
  have HG3 := AgV.maMv HG2
  refine c_skip (n_then (c_seq (c_block (c_seq (wp_reg zd (l_v (v_fieldAddr (off := 3) (ft := 25) zk rfl) (l_v (v_load zk rfl (by first | exact HPq 3 _ rfl | exact pv_1 HPq | exact HB1.pv 3 _ rfl | assumption)) ?_)))))))
  refine l_v (zmI rfl) (l_v (v_indexAddr (et := 54) (sz := 7) (k := i) zk zk rfl rfl (by first | rfl | omega) zo) ?_)
  refine l_v (v_loadA zk rfl (by first | exact HPq | exact HB1.pv | assumption) rfl) ?_
  refine l_to (to_alloc (z := (.agg #[.int .i64 0, .slice none 0 0, .slice none 0 0, .bool false, .int .i64 0, .int .i64 0, .bool false])) (by unfold kZero; kernel_rfl) ?_)
  rintro b4 w4 zb4 HB4 e4 z4
  have := e4.size
  try simp only [Value.cells] at HB4
  refine l_to (to_storeA (n := 7) rfl rfl (zvA rfl) zk rfl dj6 HB4 dj5 ?_)
  rintro w106 HX106 k106 z106
  have := k106.size
  replace HB4 := HX106
  clear HX106
  try simp only [zS, Nat.zero_add, Nat.reduceAdd, List.drop_nil] at HB4
  refine l_nil (n_then (c_seq (wp_reg zd (l_v (v_assign rfl) (l_nil (n_then (c_seq (c_seq (wp_reg zd ?_)))))))))
  replace HB1 := (HB1.ext e4).keep k106 dj4
  replace HPq := (HPq.ext e4).keep k106 (by intro h; (try dsimp only at h); (try simp only [add_block] at h); first | omega)
  refine l_v (v_fieldAddr (off := 6) (ft := 4) zk rfl) (l_v (v_load zk rfl (by first | exact HB4.pv 6 _ rfl | exact HPq 6 _ rfl | exact pv_1 HPq | exact HB1.pv 6 _ rfl | assumption)) ?_)
  replace E := (E.trans e4.keep).step k106 dj3
  replace HG1 := (HG1.ext e4).keep k106 dj1
  replace HSm := (HSm.ext e4).keep k106 dj1
  replace HSw := (HSw.ext e4).keep k106 dj1
  replace EL1 := (EL1.trans e4.keep).step k106 dj3
  replace HG3 := (HG3.ext e4).keep k106 dj1
  refine l_nil (n_then (c_cond rfl rfl (fun h40 => ?_) (fun h40 => ?_)))
  ·
   have hwr : wanOf x = (x.1.2.2.2.2.1, waC 5 x.1) := by rw [wanOf, if_pos h40]
   obtain ⟨q5, cs5, hq5, hF5, _, HPw, hrw⟩ := HSw.el hwx
   cases hq5
   rw [hwr] at hrw
   obtain ⟨_, cc, rfl, ⟨rfl, _⟩, hrc⟩ := hrw
   have HGc : AgV tCm _ _ (.agg cc.toArray) (5, rq0, x.1, [], [], [], 0) := ⟨_, rfl, hrc⟩
   obtain ⟨x1, d1, x2, d2, x3, d3, x4, d4, x5, d5, x6, d6, x7, d7, x8, d8, x9, d9, hcs, _, HGw, _⟩ := AgV.cm HGc
   have hcc := congrArg Array.toList (Value.agg.inj hcs)
   simp only [] at hcc
   subst hcc
   refine wp_reg zd (l_v (v_assign rfl) (l_nil (n_then (c_seq (wp_regd (NoK) zk zd zd ?_)))))
   refine rt_v (fun vals w hR hd => zmS rfl) ?_
   refine rt_v (fun vals w hR hd => zmI rfl) ?_
   refine rt_v (fun vals w hR hd => v_indexAddr (et := 60) (sz := 21) (k := i) zk zk (hd 0 rfl) (hd 1 rfl) (by first | rfl | omega) (by (try rw [List.length_map]); omega)) ?_
   refine rt_v (fun vals w hR hd => v_fieldAddr (off := 0) (ft := 3) zk (hd 2 rfl)) ?_
   refine rt_v (fun vals w hR hd => v_load zk (hd 3 rfl) (by first | exact (HPw.ext hR) 0 _ rfl | exact (HB4.ext hR).pv 0 _ rfl | exact (HPq.ext hR) 0 _ rfl | exact (HB1.ext hR).pv 0 _ rfl | assumption)) ?_
   refine rt_v (fun vals w hR hd => v_fieldAddr (off := 0) (ft := 39) zk rfl) ?_
   refine rt_v (fun vals w hR hd => v_fieldAddr (off := 4) (ft := 3) zk (hd 5 rfl)) ?_
   refine rt_v (fun vals w hR hd => v_load zk (hd 6 rfl) (by first | exact (HPw.ext hR) 4 _ rfl | exact pv_1 (HPw.ext hR) | exact (HB4.ext hR).pv 4 _ rfl | exact (HPq.ext hR) 4 _ rfl | exact pv_1 (HPq.ext hR) | exact (HB1.ext hR).pv 4 _ rfl | assumption)) ?_
   refine rt_v (fun vals w hR hd => v_neq (hd 4 rfl) (hd 7 rfl)) ?_
   refine rt_v (fun vals w hR hd => v_move (t := .bool _) (hd 8 rfl)) ?_
   refine rt_g1 rfl (fun vals w hd => hd 9 rfl) (fun vals w hR hd hG => zmS rfl) ?_
   refine rt_g1 rfl (fun vals w hd => hd 9 rfl) (fun vals w hR hd hG => zmI rfl) ?_
   refine rt_g1 rfl (fun vals w hd => hd 9 rfl) (fun vals w hR hd hG => v_indexAddr (et := 60) (sz := 21) (k := i) zk zk (gd hG (hd 10 rfl)) (gd hG (hd 11 rfl)) (by first | rfl | omega) (by (try rw [List.length_map]); omega)) ?_
   refine rt_g1 rfl (fun vals w hd => hd 9 rfl) (fun vals w hR hd hG => v_fieldAddr (off := 1) (ft := 42) zk (gd hG (hd 12 rfl))) ?_
   refine rt_g1 rfl (fun vals w hd => hd 9 rfl) (fun vals w hR hd hG => v_fieldAddr (off := 0) (ft := 31) zk (gd hG (hd 13 rfl))) ?_
   refine rt_g1 rfl (fun vals w hd => hd 9 rfl) (fun vals w hR hd hG => v_load zk (gd hG (hd 14 rfl)) (by first | exact (HPw.ext hR) 1 _ rfl | exact pv_1 (HPw.ext hR) | exact (HB4.ext hR).pv 1 _ rfl | exact (HPq.ext hR) 1 _ rfl | exact pv_1 (HPq.ext hR) | exact (HB1.ext hR).pv 1 _ rfl | exact (HPw.ext hR) 0 _ rfl | exact (HB4.ext hR).pv 0 _ rfl | exact (HPq.ext hR) 0 _ rfl | exact (HB1.ext hR).pv 0 _ rfl | assumption)) ?_
   refine rt_g1 rfl (fun vals w hd => hd 9 rfl) (fun vals w hR hd hG => zmI rfl) ?_
   refine rt_g1 rfl (fun vals w hd => hd 9 rfl) (fun vals w hR hd hG => v_neq (gd hG (hd 15 rfl)) (gd hG (hd 16 rfl))) ?_
   refine rt_v (fun vals w hR hd => v_or (hd 9 rfl) (hd 17 rfl)) ?_
   refine rt_v (fun vals w hR hd => v_move (t := .bool _) (hd 18 rfl)) ?_
   refine rt_g1 rfl (fun vals w hd => hd 19 rfl) (fun vals w hR hd hG => zmS rfl) ?_
   refine rt_g1 rfl (fun vals w hd => hd 19 rfl) (fun vals w hR hd hG => zmI rfl) ?_
   refine rt_g1 rfl (fun vals w hd => hd 19 rfl) (fun vals w hR hd hG => v_indexAddr (et := 60) (sz := 21) (k := i) zk zk (gd hG (hd 20 rfl)) (gd hG (hd 21 rfl)) (by first | rfl | omega) (by (try rw [List.length_map]); omega)) ?_
   refine rt_g1 rfl (fun vals w hd => hd 19 rfl) (fun vals w hR hd hG => v_fieldAddr (off := 1) (ft := 42) zk (gd hG (hd 22 rfl))) ?_
   refine rt_g1 rfl (fun vals w hd => hd 19 rfl) (fun vals w hR hd hG => v_fieldAddr (off := 10) (ft := 39) zk (gd hG (hd 23 rfl))) ?_
   refine rt_g1 rfl (fun vals w hd => hd 19 rfl) (fun vals w hR hd hG => v_loadA zk (gd hG (hd 24 rfl)) (by first | exact (show Pv _ _ [_, _, _, _, _, _] from pv_sub 11 6 (HPw.ext hR)) | exact (show Pv _ _ [_, _, _, _, _, _] from pv_sub 11 6 (HB4.ext hR).pv) | exact (show Pv _ _ [_, _, _, _, _, _] from pv_sub 11 6 (HPq.ext hR)) | exact (show Pv _ _ [_, _, _, _, _, _] from pv_sub 11 6 (HB1.ext hR).pv) | exact (show Pv _ _ [_, _, _, _, _, _] from pv_sub 10 6 (HPw.ext hR)) | exact (show Pv _ _ [_, _, _, _, _, _] from pv_sub 10 6 (HB4.ext hR).pv) | exact (show Pv _ _ [_, _, _, _, _, _] from pv_sub 10 6 (HPq.ext hR)) | exact (show Pv _ _ [_, _, _, _, _, _] from pv_sub 10 6 (HB1.ext hR).pv) | exact pv_at 10 (HPw.ext hR) | exact pv_at 10 (HB4.ext hR).pv | exact pv_at 10 (HPq.ext hR) | exact pv_at 10 (HB1.ext hR).pv | exact (HPw.ext hR) | exact (HPq.ext hR) | assumption) rfl) ?_
   refine rt_g1 rfl (fun vals w hd => hd 19 rfl) (fun vals w hR hd hG => v_fieldAddr (off := 0) (ft := 39) zk rfl) ?_
   refine rt_g1 rfl (fun vals w hd => hd 19 rfl) (fun vals w hR hd hG => v_loadA zk (gd hG (hd 26 rfl)) (by first | exact (show Pv _ _ [_, _, _, _, _, _] from pv_sub 0 6 (HPw.ext hR)) | exact (show Pv _ _ [_, _, _, _, _, _] from pv_sub 0 6 (HB4.ext hR).pv) | exact (show Pv _ _ [_, _, _, _, _, _] from pv_sub 0 6 (HPq.ext hR)) | exact (show Pv _ _ [_, _, _, _, _, _] from pv_sub 0 6 (HB1.ext hR).pv) | exact pv_at 0 (HPw.ext hR) | exact pv_at 0 (HB4.ext hR).pv | exact pv_at 0 (HPq.ext hR) | exact pv_at 0 (HB1.ext hR).pv | exact (HPw.ext hR) | exact (HPq.ext hR) | assumption) rfl) ?_
   refine rt_g1f rfl (fun vals w hd => hd 19 rfl) (fun vals w hR hd hG => to_f2 zk (gd hG (hd 25 rfl)) (gd hG (hd 27 rfl)) (rSameMove_c (HGw.ext hR) (HG3.ext hR))) ?_
   refine rt_g1 rfl (fun vals w hd => hd 19 rfl) (fun vals w hR hd hG => v_not (gd hG (hd 28 rfl))) ?_
   refine rt_v (fun vals w hR hd => v_or (hd 19 rfl) (hd 29 rfl)) ?_
   refine rt_v (fun vals w hR hd => v_move (t := .bool _) (hd 30 rfl)) ?_
   refine rt_g1 rfl (fun vals w hd => hd 31 rfl) (fun vals w hR hd hG => zmS rfl) ?_
   refine rt_g1 rfl (fun vals w hd => hd 31 rfl) (fun vals w hR hd hG => zmI rfl) ?_
   refine rt_g1 rfl (fun vals w hd => hd 31 rfl) (fun vals w hR hd hG => v_indexAddr (et := 60) (sz := 21) (k := i) zk zk (gd hG (hd 32 rfl)) (gd hG (hd 33 rfl)) (by first | rfl | omega) (by (try rw [List.length_map]); omega)) ?_
   refine rt_g1 rfl (fun vals w hd => hd 31 rfl) (fun vals w hR hd hG => v_fieldAddr (off := 1) (ft := 42) zk (gd hG (hd 34 rfl))) ?_
   refine rt_g1 rfl (fun vals w hd => hd 31 rfl) (fun vals w hR hd hG => v_loadA zk (gd hG (hd 35 rfl)) (by first | exact (show Pv _ _ [_, _, _, _, _, _, _, _, _, _, _, _, _, _, _, _, _, _, _, _] from pv_sub 1 20 (HPw.ext hR)) | exact (show Pv _ _ [_, _, _, _, _, _, _, _, _, _, _, _, _, _, _, _, _, _, _, _] from pv_sub 1 20 (HB4.ext hR).pv) | exact (show Pv _ _ [_, _, _, _, _, _, _, _, _, _, _, _, _, _, _, _, _, _, _, _] from pv_sub 1 20 (HPq.ext hR)) | exact (show Pv _ _ [_, _, _, _, _, _, _, _, _, _, _, _, _, _, _, _, _, _, _, _] from pv_sub 1 20 (HB1.ext hR).pv) | exact pv_at 1 (HPw.ext hR) | exact pv_at 1 (HB4.ext hR).pv | exact pv_at 1 (HPq.ext hR) | exact pv_at 1 (HB1.ext hR).pv | exact (HPw.ext hR) | exact (HPq.ext hR) | assumption) rfl) ?_
   refine rt_g1f rfl (fun vals w hd => hd 31 rfl) (fun vals w hR hd hG => to_f1 zk (gd hG (hd 36 rfl)) (CMay_c (HGc.ext hR))) ?_
   refine rt_g1 rfl (fun vals w hd => hd 31 rfl) (fun vals w hR hd hG => v_not (gd hG (hd 37 rfl))) ?_
   refine rt_v (fun vals w hR hd => v_or (hd 31 rfl) (hd 38 rfl)) ?_
   refine rt_nil (fun w107 e107 => ?_)
   rintro _ rfl _ rfl _ rfl _ rfl _ rfl _ rfl _ rfl _ rfl _ rfl _ rfl _ rfl _ rfl _ rfl _ rfl _ rfl _ rfl _ rfl _ rfl _ rfl _ rfl _ rfl _ rfl _ rfl _ rfl _ rfl _ rfl _ rfl _ rfl _ rfl _ rfl _ rfl _ rfl _ rfl _ rfl _ rfl _ rfl _ rfl _ rfl _ rfl _ rfl
   have := e107.size
   replace E := E.trans e107.keep
   replace HG1 := HG1.ext e107
   replace HSm := HSm.ext e107
   replace HB1 := HB1.ext e107
   replace HSw := HSw.ext e107
   replace EL1 := EL1.trans e107.keep
   replace HPq := HPq.ext e107
   replace HG3 := HG3.ext e107
   replace HB4 := HB4.ext e107
   replace HPw := HPw.ext e107
   replace HGc := HGc.ext e107
   replace HGw := HGw.ext e107
   refine fin_nil (n_then (c_cond rfl rfl (fun h80 => ?_) (fun h80 => ?_)))
   ·
    rw [show mayCm (5, rq0, x.1, [], [], [], 0) = true from waC_may hmx2 zq] at h80; simp at h80
   refine c_skip (n_blk (n_then (wp_reg zd (l_v (zmI rfl) (l_v (v_add rfl rfl (by first | exact wr_i64 zo zo | rfl)) ?_)))))
   refine l_v (zaI rfl) (l_nil (n_then (⟨i + 1, _, rfl, by (repeat (first | exact Off.of_over _ _ _ | refine Off.upd ?_ zq _ | refine Off.overs ?_ zq _)), ⟨by first | rfl | exact congrArg (Value.int _) zo | (simp; done), trivial⟩, ⟨E, EL1, ?_⟩, ?_⟩)))
   ·
    exact by omega
   (dsimp only; omega)
  have hwr : wanOf x = (x.1.2.2.2.2.1, waC 3 x.1) := by rw [wanOf, if_neg (by rw [show x.2 = false from h40]; simp)]
  obtain ⟨q5, cs5, hq5, hF5, _, HPw, hrw⟩ := HSw.el hwx
  cases hq5
  rw [hwr] at hrw
  obtain ⟨_, cc, rfl, ⟨rfl, _⟩, hrc⟩ := hrw
  have HGc : AgV tCm _ _ (.agg cc.toArray) (3, rq0, x.1, [], [], [], 0) := ⟨_, rfl, hrc⟩
  obtain ⟨x1, d1, x2, d2, x3, d3, x4, d4, x5, d5, x6, d6, x7, d7, x8, d8, x9, d9, hcs, _, HGw, _⟩ := AgV.cm HGc
  have hcc := congrArg Array.toList (Value.agg.inj hcs)
  simp only [] at hcc
  subst hcc
  refine c_skip (n_then (c_seq (wp_regd (NoK) zk zd zd ?_)))
  refine rt_v (fun vals w hR hd => zmS rfl) ?_
  refine rt_v (fun vals w hR hd => zmI rfl) ?_
  refine rt_v (fun vals w hR hd => v_indexAddr (et := 60) (sz := 21) (k := i) zk zk (hd 0 rfl) (hd 1 rfl) (by first | rfl | omega) (by (try rw [List.length_map]); omega)) ?_
  refine rt_v (fun vals w hR hd => v_fieldAddr (off := 0) (ft := 3) zk (hd 2 rfl)) ?_
  refine rt_v (fun vals w hR hd => v_load zk (hd 3 rfl) (by first | exact (HPw.ext hR) 0 _ rfl | exact (HB4.ext hR).pv 0 _ rfl | exact (HPq.ext hR) 0 _ rfl | exact (HB1.ext hR).pv 0 _ rfl | assumption)) ?_
  refine rt_v (fun vals w hR hd => v_fieldAddr (off := 0) (ft := 39) zk rfl) ?_
  refine rt_v (fun vals w hR hd => v_fieldAddr (off := 4) (ft := 3) zk (hd 5 rfl)) ?_
  refine rt_v (fun vals w hR hd => v_load zk (hd 6 rfl) (by first | exact (HPw.ext hR) 4 _ rfl | exact pv_1 (HPw.ext hR) | exact (HB4.ext hR).pv 4 _ rfl | exact (HPq.ext hR) 4 _ rfl | exact pv_1 (HPq.ext hR) | exact (HB1.ext hR).pv 4 _ rfl | assumption)) ?_
  refine rt_v (fun vals w hR hd => v_neq (hd 4 rfl) (hd 7 rfl)) ?_
  refine rt_v (fun vals w hR hd => v_move (t := .bool _) (hd 8 rfl)) ?_
  refine rt_g1 rfl (fun vals w hd => hd 9 rfl) (fun vals w hR hd hG => zmS rfl) ?_
  refine rt_g1 rfl (fun vals w hd => hd 9 rfl) (fun vals w hR hd hG => zmI rfl) ?_
  refine rt_g1 rfl (fun vals w hd => hd 9 rfl) (fun vals w hR hd hG => v_indexAddr (et := 60) (sz := 21) (k := i) zk zk (gd hG (hd 10 rfl)) (gd hG (hd 11 rfl)) (by first | rfl | omega) (by (try rw [List.length_map]); omega)) ?_
  refine rt_g1 rfl (fun vals w hd => hd 9 rfl) (fun vals w hR hd hG => v_fieldAddr (off := 1) (ft := 42) zk (gd hG (hd 12 rfl))) ?_
  refine rt_g1 rfl (fun vals w hd => hd 9 rfl) (fun vals w hR hd hG => v_fieldAddr (off := 0) (ft := 31) zk (gd hG (hd 13 rfl))) ?_
  refine rt_g1 rfl (fun vals w hd => hd 9 rfl) (fun vals w hR hd hG => v_load zk (gd hG (hd 14 rfl)) (by first | exact (HPw.ext hR) 1 _ rfl | exact pv_1 (HPw.ext hR) | exact (HB4.ext hR).pv 1 _ rfl | exact (HPq.ext hR) 1 _ rfl | exact pv_1 (HPq.ext hR) | exact (HB1.ext hR).pv 1 _ rfl | exact (HPw.ext hR) 0 _ rfl | exact (HB4.ext hR).pv 0 _ rfl | exact (HPq.ext hR) 0 _ rfl | exact (HB1.ext hR).pv 0 _ rfl | assumption)) ?_
  refine rt_g1 rfl (fun vals w hd => hd 9 rfl) (fun vals w hR hd hG => zmI rfl) ?_
  refine rt_g1 rfl (fun vals w hd => hd 9 rfl) (fun vals w hR hd hG => v_neq (gd hG (hd 15 rfl)) (gd hG (hd 16 rfl))) ?_
  refine rt_v (fun vals w hR hd => v_or (hd 9 rfl) (hd 17 rfl)) ?_
  refine rt_v (fun vals w hR hd => v_move (t := .bool _) (hd 18 rfl)) ?_
  refine rt_g1 rfl (fun vals w hd => hd 19 rfl) (fun vals w hR hd hG => zmS rfl) ?_
  refine rt_g1 rfl (fun vals w hd => hd 19 rfl) (fun vals w hR hd hG => zmI rfl) ?_
  refine rt_g1 rfl (fun vals w hd => hd 19 rfl) (fun vals w hR hd hG => v_indexAddr (et := 60) (sz := 21) (k := i) zk zk (gd hG (hd 20 rfl)) (gd hG (hd 21 rfl)) (by first | rfl | omega) (by (try rw [List.length_map]); omega)) ?_
  refine rt_g1 rfl (fun vals w hd => hd 19 rfl) (fun vals w hR hd hG => v_fieldAddr (off := 1) (ft := 42) zk (gd hG (hd 22 rfl))) ?_
  refine rt_g1 rfl (fun vals w hd => hd 19 rfl) (fun vals w hR hd hG => v_fieldAddr (off := 10) (ft := 39) zk (gd hG (hd 23 rfl))) ?_
  refine rt_g1 rfl (fun vals w hd => hd 19 rfl) (fun vals w hR hd hG => v_loadA zk (gd hG (hd 24 rfl)) (by first | exact (show Pv _ _ [_, _, _, _, _, _] from pv_sub 11 6 (HPw.ext hR)) | exact (show Pv _ _ [_, _, _, _, _, _] from pv_sub 11 6 (HB4.ext hR).pv) | exact (show Pv _ _ [_, _, _, _, _, _] from pv_sub 11 6 (HPq.ext hR)) | exact (show Pv _ _ [_, _, _, _, _, _] from pv_sub 11 6 (HB1.ext hR).pv) | exact (show Pv _ _ [_, _, _, _, _, _] from pv_sub 10 6 (HPw.ext hR)) | exact (show Pv _ _ [_, _, _, _, _, _] from pv_sub 10 6 (HB4.ext hR).pv) | exact (show Pv _ _ [_, _, _, _, _, _] from pv_sub 10 6 (HPq.ext hR)) | exact (show Pv _ _ [_, _, _, _, _, _] from pv_sub 10 6 (HB1.ext hR).pv) | exact pv_at 10 (HPw.ext hR) | exact pv_at 10 (HB4.ext hR).pv | exact pv_at 10 (HPq.ext hR) | exact pv_at 10 (HB1.ext hR).pv | exact (HPw.ext hR) | exact (HPq.ext hR) | assumption) rfl) ?_
  refine rt_g1 rfl (fun vals w hd => hd 19 rfl) (fun vals w hR hd hG => v_fieldAddr (off := 0) (ft := 39) zk rfl) ?_
  refine rt_g1 rfl (fun vals w hd => hd 19 rfl) (fun vals w hR hd hG => v_loadA zk (gd hG (hd 26 rfl)) (by first | exact (show Pv _ _ [_, _, _, _, _, _] from pv_sub 0 6 (HPw.ext hR)) | exact (show Pv _ _ [_, _, _, _, _, _] from pv_sub 0 6 (HB4.ext hR).pv) | exact (show Pv _ _ [_, _, _, _, _, _] from pv_sub 0 6 (HPq.ext hR)) | exact (show Pv _ _ [_, _, _, _, _, _] from pv_sub 0 6 (HB1.ext hR).pv) | exact pv_at 0 (HPw.ext hR) | exact pv_at 0 (HB4.ext hR).pv | exact pv_at 0 (HPq.ext hR) | exact pv_at 0 (HB1.ext hR).pv | exact (HPw.ext hR) | exact (HPq.ext hR) | assumption) rfl) ?_
  refine rt_g1f rfl (fun vals w hd => hd 19 rfl) (fun vals w hR hd hG => to_f2 zk (gd hG (hd 25 rfl)) (gd hG (hd 27 rfl)) (rSameMove_c (HGw.ext hR) (HG3.ext hR))) ?_
  refine rt_g1 rfl (fun vals w hd => hd 19 rfl) (fun vals w hR hd hG => v_not (gd hG (hd 28 rfl))) ?_
  refine rt_v (fun vals w hR hd => v_or (hd 19 rfl) (hd 29 rfl)) ?_
  refine rt_v (fun vals w hR hd => v_move (t := .bool _) (hd 30 rfl)) ?_
  refine rt_g1 rfl (fun vals w hd => hd 31 rfl) (fun vals w hR hd hG => zmS rfl) ?_
  refine rt_g1 rfl (fun vals w hd => hd 31 rfl) (fun vals w hR hd hG => zmI rfl) ?_
  refine rt_g1 rfl (fun vals w hd => hd 31 rfl) (fun vals w hR hd hG => v_indexAddr (et := 60) (sz := 21) (k := i) zk zk (gd hG (hd 32 rfl)) (gd hG (hd 33 rfl)) (by first | rfl | omega) (by (try rw [List.length_map]); omega)) ?_
  refine rt_g1 rfl (fun vals w hd => hd 31 rfl) (fun vals w hR hd hG => v_fieldAddr (off := 1) (ft := 42) zk (gd hG (hd 34 rfl))) ?_
  refine rt_g1 rfl (fun vals w hd => hd 31 rfl) (fun vals w hR hd hG => v_loadA zk (gd hG (hd 35 rfl)) (by first | exact (show Pv _ _ [_, _, _, _, _, _, _, _, _, _, _, _, _, _, _, _, _, _, _, _] from pv_sub 1 20 (HPw.ext hR)) | exact (show Pv _ _ [_, _, _, _, _, _, _, _, _, _, _, _, _, _, _, _, _, _, _, _] from pv_sub 1 20 (HB4.ext hR).pv) | exact (show Pv _ _ [_, _, _, _, _, _, _, _, _, _, _, _, _, _, _, _, _, _, _, _] from pv_sub 1 20 (HPq.ext hR)) | exact (show Pv _ _ [_, _, _, _, _, _, _, _, _, _, _, _, _, _, _, _, _, _, _, _] from pv_sub 1 20 (HB1.ext hR).pv) | exact pv_at 1 (HPw.ext hR) | exact pv_at 1 (HB4.ext hR).pv | exact pv_at 1 (HPq.ext hR) | exact pv_at 1 (HB1.ext hR).pv | exact (HPw.ext hR) | exact (HPq.ext hR) | assumption) rfl) ?_
  refine rt_g1f rfl (fun vals w hd => hd 31 rfl) (fun vals w hR hd hG => to_f1 zk (gd hG (hd 36 rfl)) (CMay_c (HGc.ext hR))) ?_
  refine rt_g1 rfl (fun vals w hd => hd 31 rfl) (fun vals w hR hd hG => v_not (gd hG (hd 37 rfl))) ?_
  refine rt_v (fun vals w hR hd => v_or (hd 31 rfl) (hd 38 rfl)) ?_
  refine rt_nil (fun w108 e108 => ?_)
  rintro _ rfl _ rfl _ rfl _ rfl _ rfl _ rfl _ rfl _ rfl _ rfl _ rfl _ rfl _ rfl _ rfl _ rfl _ rfl _ rfl _ rfl _ rfl _ rfl _ rfl _ rfl _ rfl _ rfl _ rfl _ rfl _ rfl _ rfl _ rfl _ rfl _ rfl _ rfl _ rfl _ rfl _ rfl _ rfl _ rfl _ rfl _ rfl _ rfl _ rfl
  have := e108.size
  replace E := E.trans e108.keep
  replace HG1 := HG1.ext e108
  replace HSm := HSm.ext e108
  replace HB1 := HB1.ext e108
  replace HSw := HSw.ext e108
  replace EL1 := EL1.trans e108.keep
  replace HPq := HPq.ext e108
  replace HG3 := HG3.ext e108
  replace HB4 := HB4.ext e108
  replace HPw := HPw.ext e108
  replace HGc := HGc.ext e108
  replace HGw := HGw.ext e108
  refine fin_nil (n_then (c_cond rfl rfl (fun h80 => ?_) (fun h80 => ?_)))
  ·
   rw [show mayCm (3, rq0, x.1, [], [], [], 0) = true from waC_may hmx2 zq] at h80; simp at h80
  refine c_skip (n_blk (n_then (wp_reg zd (l_v (zmI rfl) (l_v (v_add rfl rfl (by first | exact wr_i64 zo zo | rfl)) ?_)))))
  refine l_v (zaI rfl) (l_nil (n_then (⟨i + 1, _, rfl, by (repeat (first | exact Off.of_over _ _ _ | refine Off.upd ?_ zq _ | refine Off.overs ?_ zq _)), ⟨by first | rfl | exact congrArg (Value.int _) zo | (simp; done), trivial⟩, ⟨E, EL1, ?_⟩, ?_⟩)))
  ·
   exact by omega
  (dsimp only; omega)
 refine c_exit (x_then (x_then (x_hit (n_then (c_seq (wp_reg zd (l_to (to_f0 zk (CallsR.mono (known20_c) ?_)))))))))
 rintro _ w109 ⟨rfl, e109⟩
 have := e109.size
 refine l_v (zaB rfl) (l_nil (n_then (c_ret (ret1v rfl zq (zvB rfl) ?_))))
 replace E := E.trans e109.keep
 exact ⟨rfl, E⟩
end Go.Proofs.Yteehplloacefmaa
