/- A part of the proof: steps and lemmas for the walks through the given program. -/
import Derived.Test.YtifnkmflmgnfjaaJd
namespace Go.Proofs.Ytifnkmflmgnfjaa
open Go.Vc
set_option linter.unusedVariables false
set_option linter.unusedSimpArgs false
set_option maxRecDepth 100000

theorem fits_no {m : MapV} {a : AkV} {x : AnV} (h : (!mayMp m || !mayAk a) = true) : fitsM m a x = false := by
  unfold fitsM
  cases h1 : mayMp m <;> cases h2 : mayAk a <;> simp_all
theorem fits_one {m : MapV} {a : AkV} {x : AnV} (hm : mayMp m = true) (ha : mayAk a = true) (h : ((decide (x = (doM m a).2) || !decide (a.1 = 5)) || !decide (x.1 = 0)) = true) : fitsM m a x = decide (x = (doM m a).2) := by
  unfold fitsM
  rw [hm, ha]
  cases h1 : decide (x = (doM m a).2) <;> cases h2 : decide (a.1 = 5) <;> cases h3 : decide (x.1 = 0) <;> simp_all
theorem fits_scan {m : MapV} {a : AkV} {x : AnV} (hm : mayMp m = true) (ha : mayAk a = true) (h : ((decide (x = (doM m a).2) || !decide (a.1 = 5)) || !decide (x.1 = 0)) = false) : a.1 = 5 ∧ x.1 = 0 ∧ fitsM m a x = (if x.2.2.isEmpty then decide (((partM m a.2.1 a.2.2.1).length : Int) ≤ a.2.2.2.2.2.2) && decide (x.2.1 = partM m a.2.1 a.2.2.1)
       else decide (x.2.2.length ≤ 25) && decide (a.2.1 < x.2.2) && (a.2.2.1.isEmpty || decide (x.2.2 < a.2.2.1)) &&
         decide (((partM m a.2.1 x.2.2).length : Int) ≤ a.2.2.2.2.2.2) && decide (x.2.1 = partM m a.2.1 x.2.2)) := by
  simp only [Bool.or_eq_false_iff, Bool.not_eq_false'] at h
  obtain ⟨⟨h1, h2⟩, h3⟩ := h
  refine ⟨of_decide_eq_true h2, of_decide_eq_true h3, ?_⟩
  unfold fitsM
  rw [hm, ha, h1, h2, h3]
  simp only [Bool.true_and, Bool.false_or]
theorem cmp_le (x y : List UInt8) : decide (cmpB x y ≤ 0) = !decide (y < x) := by
  by_cases h : y < x
  · rw [decide_eq_true h, decide_eq_false (fun h2 => cmpB_le.1 h2 h)]; rfl
  · rw [decide_eq_false h, decide_eq_true (cmpB_le.2 h)]; rfl
theorem same_part {nx : List UInt8} {l ps : List PrV} : decide (((0 : Int), l, nx) = (0, ps, nx)) = decide (ps = l) := by
  by_cases h : ps = l
  · subst h; simp
  · rw [decide_eq_false h, decide_eq_false (fun e => h (by cases e; rfl))]
theorem pos_len (l : List UInt8) : decide ((0 : Int) < l.length) = !l.isEmpty := by cases l <;> simp
set_option maxHeartbeats 1000000 in
theorem Fits_c {w : World} {F G : Nat → Prop} {vm va vx : Value} {m : MapV} {a : AkV} {x : AnV} (HSm : SlV tPr w F vm m) (HG1 : AgV tAk w F va a) (HG2 : AgV tAn w G vx x) (hn : m.length ≤ 900000) :
    CallsR Try.prog 16 #[vm, va, vx] w (fun o w' => o = .bool (fitsM m a x) ∧ Ext w w') := by
 obtain ⟨a1, c1, a2, c2, a3, c3, a4, c4, rfl, HS1, HS2, HS3, HS4, hi1, hi2⟩ := HG1.ak
 obtain ⟨x1, y1, x2, y2, rfl, HSp, HSn, hix⟩ := HG2.an
 obtain ⟨am, cm, rfl⟩ := HSm.shape
 replace HSm := HSm.lt
 replace HG1 := HG1.mono (F' := fun b => F b ∧ b < w.heap.size) fun b hb h => ⟨h, hb⟩
 replace HG2 := HG2.mono (F' := fun b => b < w.heap.size) fun b hb h => hb
 refine enter 88 Try.func16 rfl rfl (by simp) ?_
 refine c_seq ?_
 have E := Keep.refl (K := NoK) w
 replace HS1 := HS1.all
 replace HS2 := HS2.all
 replace HSn := HSn.all
 refine wp_reg zd (l_to (to_box (zvA rfl) ?_))
 rintro b1 w1 zb1 HB1 e1 z1
 have := e1.size
 try simp only [Value.cells] at HB1
 refine l_to (to_box (zvA rfl) ?_)
 rintro b2 w2 zb2 HB2 e2 z2
 have := e2.size
 try simp only [Value.cells] at HB2
 replace HSm := (HSm.ext e1).ext e2
 refine l_v (v_assign rfl) (l_nil (n_then (c_seq (c_seq (wp_reg zd (l_v (zmS rfl) (l_to (to_f1 zk (zvS rfl) (CallsR.mono (MayMap_c HSm) ?_)))))))))
 rintro _ w101 ⟨rfl, e101⟩
 have := e101.size
 refine l_v (v_not rfl) ?_
 replace HB1 := (HB1.ext e2).ext e101
 replace HB2 := HB2.ext e101
 refine l_v (zmB rfl) (l_g1 rfl rfl (fun hG => v_loadA zk rfl (by first | exact HB2.pv | exact HB1.pv | assumption) rfl) ?_)
 replace HG1 := ((HG1.ext e1).ext e2).ext e101
 refine l_g1f rfl rfl (fun hG => to_f1 zk (gd hG rfl) (MayAsk_c HG1)) ?_
 rintro w102 e102
 have := e102.size
 refine l_g1 rfl rfl (fun hG => v_not (gd hG rfl)) ?_
 refine l_v (v_or rfl rfl) ?_
 replace E := (((E.trans e1.keep).trans e2.keep).trans e101.keep).trans e102.keep
 replace HS1 := (((HS1.ext e1).ext e2).ext e101).ext e102
 replace HS2 := (((HS2.ext e1).ext e2).ext e101).ext e102
 replace HSn := (((HSn.ext e1).ext e2).ext e101).ext e102
 replace HG2 := (((HG2.ext e1).ext e2).ext e101).ext e102
 replace HSm := (HSm.ext e101).ext e102
 replace HG1 := HG1.ext e102
 replace HB1 := HB1.ext e102
 replace HB2 := HB2.ext e102
 refine l_nil (n_then (c_cond rfl rfl (fun h19 => ?_) (fun h19 => ?_)))
 ·
  refine c_seq (wp_reg zd (l_v (v_assign rfl) (l_nil (n_then (c_ret (r_then (ret1v rfl zq (zvB rfl) ?_)))))))
  exact ⟨by rw [fits_no h19], E⟩
 have hm : mayMp m = true := by cases h : mayMp m <;> simp_all
 have ha : mayAk a = true := by cases h : mayAk a <;> simp_all
 refine c_skip (n_then (c_seq (wp_reg zd (l_v (zmS rfl) (l_v (v_loadA zk rfl (by first | exact HB2.pv | exact HB1.pv | assumption) rfl) ?_)))))
 refine l_to (to_f2 zk (zvS rfl) (zvA rfl) (CallsR.mono (do_c HSm HG1 hm hn ha) ?_))
 rintro _ w9 ⟨u, y, rfl, HSu, HGy, e9⟩
 have := e9.size
 replace HGy := HGy.mono (F' := fun b => b < w9.heap.size) fun b hb h => hb
 obtain ⟨d5, d6, rfl⟩ := HSu.shape
 obtain ⟨d1, d2, d3, d4, rfl, _⟩ := HGy.an
 refine l_v (zmT rfl) (l_v (v_extract (t := .slice _ _ _) rfl rfl) (l_v (v_extract (t := .agg _) rfl rfl) (l_to (to_alloc (z := .agg #[.int .i64 0, .slice none 0 0, .slice none 0 0]) (by unfold kZero; kernel_rfl) ?_))))
 rintro b103 w103 zb103 HB103 e103 z103
 have := e103.size
 try simp only [Value.cells] at HB103
 refine l_v (zaS rfl) (l_to (to_storeA (n := 3) rfl rfl (zvA rfl) zk rfl dj6 HB103 dj5 ?_))
 rintro w104 HX104 k104 z104
 have := k104.size
 replace HB103 := HX104
 clear HX104
 try simp only [zS, Nat.zero_add, Nat.reduceAdd, List.drop_nil] at HB103
 replace HB1 := ((HB1.ext e9).ext e103).keep k104 dj4
 replace HB2 := ((HB2.ext e9).ext e103).keep k104 dj4
 refine l_nil (n_then (c_seq (c_seq (wp_reg zd (l_v (v_loadA zk rfl (by first | exact HB103.pv | exact HB2.pv | exact HB1.pv | assumption) rfl) ?_)))))
 refine l_v (v_loadA zk rfl (by first | exact HB103.pv | exact HB2.pv | exact HB1.pv | assumption) rfl) ?_
 replace HG2 := ((HG2.ext e9).ext e103).keep k104 dj1
 replace HGy := (HGy.ext e103).keep k104 dj1
 refine l_to (to_f2 zk (zvA rfl) (zvA rfl) (CallsR.mono (SameAnswer_c HG2 HGy) ?_))
 replace HS1 := ((HS1.ext e9).ext e103).keep k104 dj1
 replace HS2 := ((HS2.ext e9).ext e103).keep k104 dj1
 replace HSn := ((HSn.ext e9).ext e103).keep k104 dj1
 replace HSm := ((HSm.ext e9).ext e103).keep k104 dj1
 replace HG1 := ((HG1.ext e9).ext e103).keep k104 dj1
 rintro _ w105 ⟨rfl, e105⟩
 have := e105.size
 refine l_v (zmB rfl) (l_g1 rfl rfl (fun hG => v_fieldAddr (off := 0) (ft := 25) zk rfl) ?_)
 replace HB1 := HB1.ext e105
 replace HB2 := HB2.ext e105
 replace HB103 := HB103.ext e105
 refine l_g1 rfl rfl (fun hG => v_load zk (gd hG rfl) (by first | exact HB103.pv 0 _ rfl | exact HB2.pv 0 _ rfl | exact HB1.pv 0 _ rfl | assumption)) ?_
 refine l_g1 rfl rfl (fun hG => v_neq (gd hG rfl) rfl) ?_
 refine l_v (v_or rfl rfl) ?_
 refine l_v (zmB rfl) (l_g1 rfl rfl (fun hG => v_fieldAddr (off := 0) (ft := 29) zk rfl) ?_)
 refine l_g1 rfl rfl (fun hG => v_load zk (gd hG rfl) (by first | exact HB103.pv 0 _ rfl | exact HB2.pv 0 _ rfl | exact HB1.pv 0 _ rfl | assumption)) ?_
 refine l_g1 rfl rfl (fun hG => v_neq (gd hG rfl) rfl) ?_
 refine l_v (v_or rfl rfl) ?_
 replace E := (((E.trans e9.keep).trans e103.keep).step k104 dj3).trans e105.keep
 replace HS1 := HS1.ext e105
 replace HS2 := HS2.ext e105
 replace HSn := HSn.ext e105
 replace HSm := HSm.ext e105
 replace HG1 := HG1.ext e105
 replace HG2 := HG2.ext e105
 replace HGy := HGy.ext e105
 refine l_nil (n_then (c_cond rfl rfl (fun h38 => ?_) (fun h38 => ?_)))
 ·
  refine c_seq (wp_reg zd (l_v (v_loadA zk rfl (by first | exact HB103.pv | exact HB2.pv | exact HB1.pv | assumption) rfl) ?_))
  refine l_v (v_loadA zk rfl (by first | exact HB103.pv | exact HB2.pv | exact HB1.pv | assumption) rfl) ?_
  refine l_to (to_f2 zk (zvA rfl) (zvA rfl) (CallsR.mono (SameAnswer_c HG2 HGy) ?_))
  rintro _ w106 ⟨rfl, e106⟩
  have := e106.size
  refine l_v (zaB rfl) (l_nil (n_then (c_ret (r_then (ret1v rfl zq (zvB rfl) ?_)))))
  replace E := E.trans e106.keep
  exact ⟨by rw [fits_one hm ha h38], E⟩
 obtain ⟨h5, h0, hfit⟩ := fits_scan hm ha h38
 refine c_skip (n_then (c_seq (wp_regd (NoK) zk zd zd ?_)))
 refine rt_v (fun vals w hR hd => v_fieldAddr (off := 2) (ft := 26) zk rfl) ?_
 refine rt_v (fun vals w hR hd => v_load zk (hd 0 rfl) (by first | exact (HB103.ext hR).pv 2 _ rfl | exact (HB2.ext hR).pv 2 _ rfl | exact (HB1.ext hR).pv 2 _ rfl | assumption)) ?_
 refine rt_v (fun vals w hR hd => v_fieldAddr (off := 2) (ft := 26) zk rfl) ?_
 refine rt_v (fun vals w hR hd => v_load zk (hd 2 rfl) (by first | exact (HB103.ext hR).pv 2 _ rfl | exact (HB2.ext hR).pv 2 _ rfl | exact (HB1.ext hR).pv 2 _ rfl | assumption)) ?_
 refine rt_v (fun vals w hR hd => v_assign (t := .slice _ _ _) (hd 1 rfl)) ?_
 refine rt_v (fun vals w hR hd => v_assign (t := .slice _ _ _) (hd 3 rfl)) ?_
 refine rt_nil (fun w107 e107 => ?_)
 rintro _ rfl _ rfl _ rfl _ rfl _ rfl _ rfl
 have := e107.size
 refine fin_nil (n_then (c_seq (c_seq (wp_reg zd (l_v (zmS rfl) (l_v (v_len (et := 5) zk rfl) ?_))))))
 refine l_v (v_gtr rfl rfl) ?_
 replace E := E.trans e107.keep
 replace HS1 := HS1.ext e107
 replace HS2 := HS2.ext e107
 replace HSn := HSn.ext e107
 replace HSm := HSm.ext e107
 replace HG1 := HG1.ext e107
 replace HG2 := HG2.ext e107
 replace HB1 := HB1.ext e107
 replace HB2 := HB2.ext e107
 replace HB103 := HB103.ext e107
 refine l_nil (n_then (c_cond rfl rfl (fun h48 => ?_) (fun h48 => ?_)))
 ·
  rw [pos_len] at h48
  refine c_seq (c_seq (wp_reg zd (l_v (zmS rfl) (l_v (v_len (et := 5) zk rfl) ?_))))
  refine l_v (v_gtr rfl rfl) ?_
  refine l_v (zmB rfl) (l_g1 rfl rfl (fun hG => zmS rfl) (l_g1 rfl rfl (fun hG => v_fieldAddr (off := 1) (ft := 26) zk rfl) ?_))
  refine l_g1 rfl rfl (fun hG => v_load zk (gd hG rfl) (by first | exact HB103.pv 1 _ rfl | exact HB2.pv 1 _ rfl | exact HB1.pv 1 _ rfl | assumption)) ?_
  refine l_g1f rfl rfl (fun hG => to_f2 zk (gd hG rfl) (gd hG rfl) (Compare_c HSn HS1)) ?_
  rintro w108 e108
  have := e108.size
  refine l_g1 rfl rfl (fun hG => v_leq (gd hG rfl) rfl) ?_
  refine l_v (v_or rfl rfl) ?_
  refine l_v (zmB rfl) (l_g1 rfl rfl (fun hG => zmS rfl) (l_g1 rfl rfl (fun hG => v_len (et := 5) zk (gd hG rfl)) ?_))
  refine l_g1 rfl rfl (fun hG => v_gtr (gd hG rfl) rfl) ?_
  refine l_g1 rfl rfl (fun hG => v_move (t := .bool _) (gd hG rfl)) ?_
  refine l_g2 rfl rfl (fun hG => zmS rfl) ?_
  refine l_g2 rfl rfl (fun hG => zmS rfl) ?_
  replace HS2 := HS2.ext e108
  replace HSn := HSn.ext e108
  refine l_g2f rfl rfl (fun hG => to_f2 zk (gd hG rfl) (gd hG rfl) (Compare_c HSn HS2)) ?_
  rintro w109 e109
  have := e109.size
  refine l_g2 rfl rfl (fun hG => v_geq (gd hG rfl) rfl) ?_
  refine l_g1 rfl rfl (fun hG => v_and (gd hG rfl) (gda hG rfl)) ?_
  refine l_v (v_or rfl rfl) ?_
  replace E := (E.trans e108.keep).trans e109.keep
  replace HS1 := (HS1.ext e108).ext e109
  replace HSm := (HSm.ext e108).ext e109
  replace HG1 := (HG1.ext e108).ext e109
  replace HG2 := (HG2.ext e108).ext e109
  replace HB1 := (HB1.ext e108).ext e109
  replace HB2 := (HB2.ext e108).ext e109
  replace HB103 := (HB103.ext e108).ext e109
  replace HS2 := HS2.ext e109
  replace HSn := HSn.ext e109
  refine l_nil (n_then (c_cond rfl rfl (fun h69 => ?_) (fun h69 => ?_)))
  ·
   refine c_seq (wp_reg zd (l_v (v_assign rfl) (l_nil (n_then (c_ret (r_then (r_then (ret1v rfl zq (zvB rfl) ?_))))))))
   refine ⟨?_, E⟩
   rw [hfit, show x.2.2.isEmpty = false by simpa using h48]
   rw [cmp_le, cmp_ge, pos_len] at h69
   congr 1
   cases g1 : decide (x.2.2.length ≤ 25) with
   | false => rfl
   | true =>
    have g2 : decide ((25 : Int) < x.2.2.length) = false := decide_eq_false (by have := of_decide_eq_true g1; omega)
    rw [g2] at h69
    cases g3 : decide (a.2.1 < x.2.2) <;> cases g4 : a.2.2.1.isEmpty <;> cases g5 : decide (x.2.2 < a.2.2.1) <;> simp_all
  have h69' := h69
  rw [cmp_le, cmp_ge, pos_len] at h69'
  refine c_skip (n_then (wp_reg zd (l_v (zmS rfl) (l_v (zaS rfl) (l_nil (n_then (c_seq (wp_reg zd (l_v (zmS rfl) ?_)))))))))
  refine l_v (v_fieldAddr (off := 1) (ft := 26) zk rfl) (l_v (v_load zk rfl (by first | exact HB103.pv 1 _ rfl | exact HB2.pv 1 _ rfl | exact HB1.pv 1 _ rfl | assumption)) ?_)
  refine l_v (zmS rfl) (l_to (to_f3 zk (zvS rfl) (zvS rfl) (zvS rfl) (CallsR.mono (part_c HSm HS1 HSn hm zo) ?_)))
  rintro _ w10 ⟨HSl, e10⟩
  have := e10.size
  obtain ⟨d7, d8, rfl⟩ := HSl.shape
  refine l_v (zaS rfl) (l_nil (n_then (c_seq (wp_reg zd (l_v (zmS rfl) (l_v (v_len (et := 50) zk rfl) ?_))))))
  replace HB1 := HB1.ext e10
  replace HB2 := HB2.ext e10
  replace HB103 := HB103.ext e10
  refine l_v (v_fieldAddr (off := 6) (ft := 3) zk rfl) (l_v (v_load zk rfl (by first | exact HB103.pv 6 _ rfl | exact HB2.pv 6 _ rfl | exact HB1.pv 6 _ rfl | assumption)) ?_)
  refine l_v (v_leq rfl rfl) ?_
  refine l_v (zmB rfl) (l_g1 rfl rfl (fun hG => zmS rfl) (l_g1 rfl rfl (fun hG => zmS rfl) (l_g1 rfl rfl (fun hG => v_build (pl := [(0, 1), (1, 1), (2, 1)]) (z := .agg #[.int .i64 0, .slice none 0 0, .slice none 0 0]) (zl := [.int .i64 0, .slice none 0 0, .slice none 0 0]) (ps := [(1, .slice d7 (partM m a.2.1 x.2.2).length d8), (2, .slice x2 x.2.2.length y2)]) zk (by unfold kZero; kernel_rfl) rfl (by refine parts2 (v0 := .slice d7 (partM m a.2.1 x.2.2).length d8) (v1 := .slice x2 x.2.2.length y2) ?_ ?_; exact (gd hG rfl); exact (gd hG rfl)) (cells := [.int .i64 0, .slice d7 (partM m a.2.1 x.2.2).length d8, .slice x2 x.2.2.length y2]) rfl) ?_)))
  refine l_g1 rfl rfl (fun hG => v_loadA zk rfl (by first | exact HB103.pv | exact HB2.pv | exact HB1.pv | assumption) rfl) ?_
  replace HSn := HSn.ext e10
  replace HG2 := HG2.ext e10
  refine l_g1f rfl rfl (fun hG => to_f2 zk (gd hG rfl) (gd hG rfl) (SameAnswer_c (AgV.mkAn (HSl.mono (F' := fun b => b < w.heap.size) fun _ _ h => h.2) HSn ⟨by decide, by decide⟩) HG2)) ?_
  rintro w110 e110
  have := e110.size
  refine l_v (v_and rfl rfl) ?_
  refine l_v (zaB rfl) (l_nil (n_then (c_ret (ret1v rfl zq (zvB rfl) ?_))))
  replace E := (E.trans e10.keep).trans e110.keep
  refine ⟨?_, E⟩
  rw [hfit, show x.2.2.isEmpty = false by simpa using h48]
  congr 1
  have g1 : decide (x.2.2.length ≤ 25) = true := decide_eq_true (by cases g : decide ((25 : Int) < x.2.2.length) <;> simp_all; omega)
  have g2 : decide ((25 : Int) < x.2.2.length) = false := decide_eq_false (by have := of_decide_eq_true g1; omega)
  rw [g2] at h69'
  rw [g1, show x = (0, x.2.1, x.2.2) from by rw [← h0], same_part]
  cases g3 : decide (a.2.1 < x.2.2) <;> cases g4 : a.2.2.1.isEmpty <;> cases g5 : decide (x.2.2 < a.2.2.1) <;> simp_all
 refine c_skip (n_then (c_seq (wp_reg zd (l_v (zmS rfl) (l_v (v_fieldAddr (off := 1) (ft := 26) zk rfl) (l_v (v_load zk rfl (by first | exact HB103.pv 1 _ rfl | exact HB2.pv 1 _ rfl | exact HB1.pv 1 _ rfl | assumption)) ?_))))))
 refine l_v (zmS rfl) (l_to (to_f3 zk (zvS rfl) (zvS rfl) (zvS rfl) (CallsR.mono (part_c HSm HS1 HS2 hm zo) ?_)))
 rintro _ w10 ⟨HSl, e10⟩
 have := e10.size
 obtain ⟨d7, d8, rfl⟩ := HSl.shape
 refine l_v (zaS rfl) (l_nil (n_then (c_seq (wp_reg zd (l_v (zmS rfl) (l_v (v_len (et := 50) zk rfl) ?_))))))
 replace HB1 := HB1.ext e10
 replace HB2 := HB2.ext e10
 replace HB103 := HB103.ext e10
 refine l_v (v_fieldAddr (off := 6) (ft := 3) zk rfl) (l_v (v_load zk rfl (by first | exact HB103.pv 6 _ rfl | exact HB2.pv 6 _ rfl | exact HB1.pv 6 _ rfl | assumption)) ?_)
 refine l_v (v_leq rfl rfl) ?_
 refine l_v (zmB rfl) (l_g1 rfl rfl (fun hG => zmS rfl) (l_g1 rfl rfl (fun hG => zmS rfl) (l_g1 rfl rfl (fun hG => v_build (pl := [(0, 1), (1, 1), (2, 1)]) (z := .agg #[.int .i64 0, .slice none 0 0, .slice none 0 0]) (zl := [.int .i64 0, .slice none 0 0, .slice none 0 0]) (ps := [(1, .slice d7 (partM m a.2.1 a.2.2.1).length d8), (2, .slice x2 x.2.2.length y2)]) zk (by unfold kZero; kernel_rfl) rfl (by refine parts2 (v0 := .slice d7 (partM m a.2.1 a.2.2.1).length d8) (v1 := .slice x2 x.2.2.length y2) ?_ ?_; exact (gd hG rfl); exact (gd hG rfl)) (cells := [.int .i64 0, .slice d7 (partM m a.2.1 a.2.2.1).length d8, .slice x2 x.2.2.length y2]) rfl) ?_)))
 refine l_g1 rfl rfl (fun hG => v_loadA zk rfl (by first | exact HB103.pv | exact HB2.pv | exact HB1.pv | assumption) rfl) ?_
 replace HSn := HSn.ext e10
 replace HG2 := HG2.ext e10
 refine l_g1f rfl rfl (fun hG => to_f2 zk (gd hG rfl) (gd hG rfl) (SameAnswer_c (AgV.mkAn (HSl.mono (F' := fun b => b < w.heap.size) fun _ _ h => h.2) HSn ⟨by decide, by decide⟩) HG2)) ?_
 rintro w111 e111
 have := e111.size
 refine l_v (v_and rfl rfl) ?_
 refine l_v (zaB rfl) (l_nil (n_then (c_ret (ret1v rfl zq (zvB rfl) ?_))))
 replace E := (E.trans e10.keep).trans e111.keep
 refine ⟨?_, E⟩
 have he : x.2.2.isEmpty = true := by rw [pos_len] at h48; simpa using h48
 rw [hfit, he]
 congr 1
 have hnx : x.2.2 = [] := List.isEmpty_iff.1 he
 rw [show x = (0, x.2.1, x.2.2) from by rw [← h0], same_part]
 rfl
end Go.Proofs.Ytifnkmflmgnfjaa

namespace Go.Proofs.Ytifnkmflmgnfjaa
open Go.Vc
set_option linter.unusedVariables false
set_option linter.unusedSimpArgs false
set_option maxRecDepth 100000

theorem refset_c {w : World} {F : Nat → Prop} {v u t : Value} {m : MapV} {k x : List UInt8} (HSm : SlV tPr w F v m) (HSk : Bv w F u k) (HSx : Bv w F t x) (hn : m.length ≤ 900000) : CallsR Try.prog 56 #[v, u, t] w (fun o w' => SlV tPr w' (fun b => F b ∨ w.heap.size ≤ b) o (setM m k x) ∧ Ext w w') := by
 obtain ⟨n0, hn0⟩ : ∃ n, n = w.heap.size := ⟨_, rfl⟩
 obtain ⟨a, c, rfl⟩ := HSm.shape
 obtain ⟨a2, c2, rfl⟩ := HSk.shape
 obtain ⟨a3, c3, rfl⟩ := HSx.shape
 have hcm := SlV.cap_ge HSm
 have hlk := posM_le m k
 replace HSm := HSm.lt
 replace HSk := HSk.lt
 replace HSx := HSx.lt
 rw [← hn0] at HSm HSk HSx ⊢
 have hlp : (m.take (posM m k)).length = posM m k := by rw [List.length_take]; omega
 refine enter 33 Try.func56 rfl rfl (by simp) ?_
 refine c_seq ?_
 have E := Keep.refl (K := NoK) w
 refine wp_reg zd (l_v (v_assign rfl) (l_nil (n_then (c_seq (wp_reg zd (l_v (zmS rfl) (l_v (zmS rfl) (l_to (to_f2 zk (zvS rfl) (zvS rfl) (CallsR.mono (reffind_c HSm HSk) ?_))))))))))
 rintro _ w101 ⟨rfl, e101⟩
 have := e101.size
 refine l_v (zmT rfl) (l_v (v_extract (t := .int _ _) rfl rfl) (l_v (v_extract (t := .bool _) rfl rfl) (l_v (zaI rfl) (l_v (zaB rfl) (l_nil (n_then (c_seq (wp_reg zd (l_v (zmS rfl) ?_)))))))))
 refine l_v (zmI rfl) (l_v (v_slicePre (et := 50) (sz := 2) (h := posM m k) zk zk rfl rfl (by first | rfl | omega) zo) ?_)
 obtain ⟨n4, hn4⟩ : ∃ n, n = w101.heap.size := ⟨_, rfl⟩
 replace HSm := HSm.ext e101
 refine l_to (to_appNil (et := 50) (bytes := 48) (F := fun b => F b ∧ b < n0) zk rfl (zvS rfl) (HSm.pre (h := posM m k) zo) (fun cs z h => h) zo ?_)
 rintro v5 w5 HO5 e5
 have := e5.size
 obtain ⟨a5, c5, rfl⟩ := HO5.shape
 have zo_HO5 := fun (b : Nat) h => HO5.own_lt (b := b) h
 refine l_v (zmS rfl) (l_v (zmS rfl) (l_v (v_build (pl := [(0, 1), (1, 1)]) (z := .agg #[.slice none 0 0, .slice none 0 0]) (zl := [.slice none 0 0, .slice none 0 0]) zk (by unfold kZero; kernel_rfl) rfl rfl (cells := [_, _]) rfl) ?_))
 replace HSk := (HSk.ext e101).ext e5
 replace HSx := (HSx.ext e101).ext e5
 refine l_to (to_slice1 (t := tPr) (et := 50) (bytes := 48) zk zq (zvA rfl) ((AgV.rp (show AgV tPr _ _ _ (k, x) from ⟨_, rfl, tPr_mk HSk HSx⟩))) ?_)
 rintro b32 w32 zb32 HO32 e32 z32
 have := e32.size
 have zo_HO32 := fun (b : Nat) h => HO32.own_lt (b := b) h
 replace HO5 := HO5.ext e32
 have HO6 := HO5.mono (F' := fun b => (F b ∧ b < n0) ∨ n4 ≤ b) fun b _ h => .inl h
 have HS32 := HO32.view.mono (F' := fun b => (F b ∧ b < n0) ∨ b32 ≤ b) fun b _ h => h.elim (fun h => .inr h) (fun h => .inl h.1)
 have zo_HO6 := fun (b : Nat) h => HO6.own_lt (b := b) h
 refine l_to (to_append (et := 50) (bytes := 48) zk (zvS rfl) HO6 (zvS rfl) HS32 (deepF (fun b _ h => ⟨h.imp (fun h => h) (fun h => by omega), fun ho => by have := zo_HO5 _ ho; omega⟩)) (by first | omega | (simp; done) | (simp; omega)) (by simp only [maxLen]; first | omega | (simp; done) | (simp; omega)) zo ?_)
 rintro a9 n9 c9 w9 HO9 hn9 k9 h9 i9
 have := k9.size
 subst hn9
 have zo_HO9 := fun (b : Nat) h => HO9.own_lt (b := b) h
 replace E := (((E.trans e101.keep).trans e5.keep).trans e32.keep).step k9 (by intro i hi he; have he0 := he; (try dsimp only [NoK] at hi he ⊢); (try simp only [Value.ownBlock, Option.some.injEq] at he); first | exact he.elim | omega | exact he | (have := (HO6).own_lt he0; omega) | (have := zo_HO6 _ he0; omega) | (have := (HO6).own_lt he0; rcases hi with hi | hi <;> omega) | (have := zo_HO5 _ he; omega))
 replace HSm := ((HSm.ext e5).ext e32).keep k9 (by intro i _ hi he; have he0 := he; (try dsimp only [NoK, AllB] at hi he); (try simp only [Value.ownBlock, Option.some.injEq] at he); first | exact hi.elim | exact he.elim | omega | (rcases hi with hi | hi <;> omega) | (rcases he with he | he <;> omega) | (have := (HO6).own_lt he0; omega) | (have := zo_HO6 _ he0; omega) | (have := (HO6).own_lt he0; rcases hi with hi | hi <;> omega) | (have := zo_HO5 _ he; omega))
 replace HSk := (HSk.ext e32).keep k9 (by intro i _ hi he; have he0 := he; (try dsimp only [NoK, AllB] at hi he); (try simp only [Value.ownBlock, Option.some.injEq] at he); first | exact hi.elim | exact he.elim | omega | (rcases hi with hi | hi <;> omega) | (rcases he with he | he <;> omega) | (have := (HO6).own_lt he0; omega) | (have := zo_HO6 _ he0; omega) | (have := (HO6).own_lt he0; rcases hi with hi | hi <;> omega) | (have := zo_HO5 _ he; omega))
 replace HSx := (HSx.ext e32).keep k9 (by intro i _ hi he; have he0 := he; (try dsimp only [NoK, AllB] at hi he); (try simp only [Value.ownBlock, Option.some.injEq] at he); first | exact hi.elim | exact he.elim | omega | (rcases hi with hi | hi <;> omega) | (rcases he with he | he <;> omega) | (have := (HO6).own_lt he0; omega) | (have := zo_HO6 _ he0; omega) | (have := (HO6).own_lt he0; rcases hi with hi | hi <;> omega) | (have := zo_HO5 _ he; omega))
 replace HS32 := HS32.keep k9 (by intro i _ hi he; have he0 := he; (try dsimp only [NoK, AllB] at hi he); (try simp only [Value.ownBlock, Option.some.injEq] at he); first | exact hi.elim | exact he.elim | omega | (rcases hi with hi | hi <;> omega) | (rcases he with he | he <;> omega) | (have := (HO6).own_lt he0; omega) | (have := zo_HO6 _ he0; omega) | (have := (HO6).own_lt he0; rcases hi with hi | hi <;> omega) | (have := zo_HO5 _ he; omega))
 refine l_v (zaS rfl) (l_nil (n_then (c_seq (c_seq (wp_reg zd (l_v (zmB rfl) (l_nil (n_then (c_cond rfl rfl (fun h25 => ?_) (fun h25 => ?_))))))))))
 ·
  have hp1 := hasM_lt h25
  refine wp_reg zd (l_v (zmI rfl) (l_v (v_add rfl rfl (by first | exact wr_i64 zo zo | rfl)) ?_))
  refine l_v (zaI rfl) (l_nil (n_then (c_seq (wp_reg zd (l_v (zmS rfl) (l_v (zmS rfl) (l_v (zmI rfl) (l_v (v_slice (et := 50) (sz := 2) (l := posM m k + 1) (h := m.length) zk zk rfl ⟨.i64, ((show _ = Value.int _ _ from rfl)).trans (congrArg (Value.int _) zo)⟩ rfl zo zo) ?_))))))))
  refine l_to (to_append (et := 50) (bytes := 48) zk (zvS rfl) HO9 (zvS rfl) ((HSm.sub (l := posM m k + 1) (h := m.length) zo zo)) (deepF (fun b _ h => ⟨.inl h, fun ho => by have := zo_HO9 _ ho; omega⟩)) (by first | omega | (simp; done) | (simp; omega)) (by simp only [maxLen]; first | omega | (simp; done) | (simp; omega)) zo ?_)
  rintro a10 n10 c10 w10 HO10 hn10 k10 h10 i10
  have := k10.size
  subst hn10
  have zo_HO10 := fun (b : Nat) h => HO10.own_lt (b := b) h
  refine l_v (zaS rfl) (l_nil (n_then (c_ret (ret1v rfl zq (zvS rfl) ?_))))
  replace E := E.step k10 (by intro i hi he; have he0 := he; (try dsimp only [NoK] at hi he ⊢); (try simp only [Value.ownBlock, Option.some.injEq] at he); first | exact he.elim | omega | exact he | (have := (HO9).own_lt he0; omega) | (have := zo_HO9 _ he0; omega) | (have := (HO9).own_lt he0; rcases hi with hi | hi <;> omega) | (have := zo_HO5 _ he; omega))
  refine ⟨?_, E⟩
  have he : setM m k x = m.take (posM m k) ++ [(k, x)] ++ (m.take m.length).drop (posM m k + 1) := by simp [setM, h25]
  rw [he]
  exact HO10.view.mono fun b _ h => h.elim (fun h => .inr zo) (fun h => h.elim (fun h => .inl h.1) (fun h => .inr zo))
 refine c_skip (n_then (c_seq (wp_reg zd (l_v (zmS rfl) (l_v (zmS rfl) (l_v (zmI rfl) (l_v (v_slice (et := 50) (sz := 2) (l := posM m k) (h := m.length) zk zk rfl ⟨.i64, ((show _ = Value.int _ _ from rfl)).trans (congrArg (Value.int _) zo)⟩ rfl zo zo) ?_)))))))
 refine l_to (to_append (et := 50) (bytes := 48) zk (zvS rfl) HO9 (zvS rfl) ((HSm.sub (l := posM m k) (h := m.length) zo zo)) (deepF (fun b _ h => ⟨.inl h, fun ho => by have := zo_HO9 _ ho; omega⟩)) (by first | omega | (simp; done) | (simp; omega)) (by simp only [maxLen]; first | omega | (simp; done) | (simp; omega)) zo ?_)
 rintro a10 n10 c10 w10 HO10 hn10 k10 h10 i10
 have := k10.size
 subst hn10
 have zo_HO10 := fun (b : Nat) h => HO10.own_lt (b := b) h
 refine l_v (zaS rfl) (l_nil (n_then (c_ret (ret1v rfl zq (zvS rfl) ?_))))
 replace E := E.step k10 (by intro i hi he; have he0 := he; (try dsimp only [NoK] at hi he ⊢); (try simp only [Value.ownBlock, Option.some.injEq] at he); first | exact he.elim | omega | exact he | (have := (HO9).own_lt he0; omega) | (have := zo_HO9 _ he0; omega) | (have := (HO9).own_lt he0; rcases hi with hi | hi <;> omega) | (have := zo_HO5 _ he; omega))
 refine ⟨?_, E⟩
 have he : setM m k x = m.take (posM m k) ++ [(k, x)] ++ (m.take m.length).drop (posM m k) := by simp [setM, h25]
 rw [he]
 exact HO10.view.mono fun b _ h => h.elim (fun h => .inr zo) (fun h => h.elim (fun h => .inl h.1) (fun h => .inr zo))
end Go.Proofs.Ytifnkmflmgnfjaa
