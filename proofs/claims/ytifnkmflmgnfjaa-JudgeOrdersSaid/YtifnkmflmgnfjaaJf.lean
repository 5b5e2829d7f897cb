/- A part of the proof: steps and lemmas for the walks through the given program. -/
import Derived.Test.YtifnkmflmgnfjaaJ10
namespace Go.Proofs.Ytifnkmflmgnfjaa
open Go.Vc
set_option linter.unusedVariables false
set_option linter.unusedSimpArgs false
set_option maxRecDepth 100000

theorem fits_yes {m : MapV} {a : AkV} {x : AnV} (hm : mayMp m = true) (ha : mayAk a = true) (h : decide (x = (doM m a).2) = true) : fitsM m a x = true := by
  unfold fitsM; rw [hm, ha, h]; rfl
theorem same_ps {l ps : List PrV} : decide (((0 : Int), l, ([] : List UInt8)) = (0, ps, [])) = decide (ps = l) := by
  by_cases h : ps = l
  · subst h; simp
  · rw [decide_eq_false h, decide_eq_false (fun e => h (by cases e; rfl))]
set_option maxHeartbeats 1000000 in
theorem refFits_c {w : World} {F G : Nat → Prop} {vm va vx : Value} {m : MapV} {a : AkV} {x : AnV} (HSm : SlV tPr w F vm m) (HG1 : AgV tAk w F va a) (HG2 : AgV tAn w G vx x) (hn : m.length ≤ 900000) :
    CallsR Try.prog 17 #[vm, va, vx] w (fun o w' => o = .bool (fitsM m a x) ∧ Ext w w') := by
 obtain ⟨a1, c1, a2, c2, a3, c3, a4, c4, rfl, HS1, HS2, HS3, HS4, hi1, hi2⟩ := HG1.ak
 obtain ⟨x1, y1, x2, y2, rfl, HSp, HSn, hix⟩ := HG2.an
 obtain ⟨am, cm, rfl⟩ := HSm.shape
 replace HSm := HSm.lt
 replace HG1 := HG1.mono (F' := fun b => F b ∧ b < w.heap.size) fun b hb h => ⟨h, hb⟩
 replace HG2 := HG2.mono (F' := fun b => b < w.heap.size) fun b hb h => hb
 refine enter 88 Try.func17 rfl rfl (by simp) ?_
 refine c_seq ?_
 have E := Keep.refl (K := NoK) w
 replace HS1 := HS1.all
 replace HS2 := HS2.all
 replace HSn := HSn.all
 replace HSp := HSp.all
 refine wp_reg zd (l_to (to_box (zvA rfl) ?_))
 rintro b1 w1 zb1 HB1 e1 z1
 have := e1.size
 try simp only [Value.cells] at HB1
 refine l_to (to_box (zvA rfl) ?_)
 rintro b2 w2 zb2 HB2 e2 z2
 have := e2.size
 try simp only [Value.cells] at HB2
 replace HSm := (HSm.ext e1).ext e2
 refine l_v (v_assign rfl) (l_nil (n_then (c_seq (c_seq (wp_reg zd (l_v (zmS rfl) (l_to (to_f1 zk (zvS rfl) (CallsR.mono (refMayMap_c HSm) ?_)))))))))
 rintro _ w101 ⟨rfl, e101⟩
 have := e101.size
 refine l_v (v_not rfl) ?_
 replace HB1 := (HB1.ext e2).ext e101
 replace HB2 := HB2.ext e101
 refine l_v (zmB rfl) (l_g1 rfl rfl (fun hG => v_loadA zk rfl (by first | exact HB2.pv | exact HB1.pv | assumption) rfl) ?_)
 replace HG1 := ((HG1.ext e1).ext e2).ext e101
 refine l_g1f rfl rfl (fun hG => to_f1 zk (gd hG rfl) (refMayAsk_c HG1)) ?_
 rintro w102 e102
 have := e102.size
 refine l_g1 rfl rfl (fun hG => v_not (gd hG rfl)) ?_
 refine l_v (v_or rfl rfl) ?_
 replace E := (((E.trans e1.keep).trans e2.keep).trans e101.keep).trans e102.keep
 replace HS1 := (((HS1.ext e1).ext e2).ext e101).ext e102
 replace HS2 := (((HS2.ext e1).ext e2).ext e101).ext e102
 replace HSn := (((HSn.ext e1).ext e2).ext e101).ext e102
 replace HSp := (((HSp.ext e1).ext e2).ext e101).ext e102
 replace HG2 := (((HG2.ext e1).ext e2).ext e101).ext e102
 replace HSm := (HSm.ext e101).ext e102
 replace HG1 := HG1.ext e102
 replace HB1 := HB1.ext e102
 replace HB2 := HB2.ext e102
 refine l_nil (n_then (c_cond rfl rfl (fun h18 => ?_) (fun h18 => ?_)))
 ·
  refine c_seq (wp_reg zd (l_v (v_assign rfl) (l_nil (n_then (c_ret (r_then (ret1v rfl zq (zvB rfl) ?_)))))))
  exact ⟨by rw [fits_no h18], E⟩
 have hm : mayMp m = true := by cases h : mayMp m <;> simp_all
 have ha : mayAk a = true := by cases h : mayAk a <;> simp_all
 refine c_skip (n_then (c_seq (wp_reg zd (l_v (zmS rfl) (l_v (v_loadA zk rfl (by first | exact HB2.pv | exact HB1.pv | assumption) rfl) ?_)))))
 refine l_to (to_f2 zk (zvS rfl) (zvA rfl) (CallsR.mono (refDo_c HSm HG1 hm hn ha) ?_))
 rintro _ w9 ⟨u, y, rfl, HSu, HGy, e9⟩
 have := e9.size
 replace HGy := HGy.mono (F' := fun b => b < w9.heap.size) fun b hb h => hb
 obtain ⟨d5, d6, rfl⟩ := HSu.shape
 obtain ⟨d1, d2, d3, d4, rfl, _⟩ := HGy.an
 refine l_v (zmT rfl) (l_v (v_extract (t := .slice _ _ _) rfl rfl) (l_v (v_extract (t := .agg _) rfl rfl) (l_to (to_alloc (z := .agg #[.int .i64 0, .slice none 0 0, .slice none 0 0]) (by unfold kZero; kernel_rfl) ?_))))
 rintro b103 w103 zb103 HB103 e103 z103
 have := e103.size
 try simp only [Value.cells] at HB103
 refine l_v (zaS rfl) (l_to (to_storeA (n := 3) rfl rfl (zvA rfl) zk rfl dj6 HB103 dj5 ?_))
 rintro w104 HX104 k104 z104
 have := k104.size
 replace HB103 := HX104
 clear HX104
 try simp only [zS, Nat.zero_add, Nat.reduceAdd, List.drop_nil] at HB103
 replace HB1 := ((HB1.ext e9).ext e103).keep k104 dj4
 replace HB2 := ((HB2.ext e9).ext e103).keep k104 dj4
 refine l_nil (n_then (c_seq (c_seq (wp_reg zd (l_v (v_loadA zk rfl (by first | exact HB103.pv | exact HB2.pv | exact HB1.pv | assumption) rfl) ?_)))))
 refine l_v (v_loadA zk rfl (by first | exact HB103.pv | exact HB2.pv | exact HB1.pv | assumption) rfl) ?_
 replace HG2 := ((HG2.ext e9).ext e103).keep k104 dj1
 replace HGy := (HGy.ext e103).keep k104 dj1
 refine l_to (to_f2 zk (zvA rfl) (zvA rfl) (CallsR.mono (refSameAnswer_c HG2 HGy) ?_))
 replace HS1 := ((HS1.ext e9).ext e103).keep k104 dj1
 replace HS2 := ((HS2.ext e9).ext e103).keep k104 dj1
 replace HSn := ((HSn.ext e9).ext e103).keep k104 dj1
 replace HSp := ((HSp.ext e9).ext e103).keep k104 dj1
 replace HSm := ((HSm.ext e9).ext e103).keep k104 dj1
 replace HG1 := ((HG1.ext e9).ext e103).keep k104 dj1
 rintro _ w105 ⟨rfl, e105⟩
 have := e105.size
 replace E := (((E.trans e9.keep).trans e103.keep).step k104 dj3).trans e105.keep
 replace HS1 := HS1.ext e105
 replace HS2 := HS2.ext e105
 replace HSn := HSn.ext e105
 replace HSp := HSp.ext e105
 replace HSm := HSm.ext e105
 replace HG1 := HG1.ext e105
 replace HG2 := HG2.ext e105
 replace HB1 := HB1.ext e105
 replace HB2 := HB2.ext e105
 replace HGy := HGy.ext e105
 replace HB103 := HB103.ext e105
 refine l_nil (n_then (c_cond rfl rfl (fun h27 => ?_) (fun h27 => ?_)))
 ·
  refine c_seq (wp_reg zd (l_v (v_assign rfl) (l_nil (n_then (c_ret (r_then (ret1v rfl zq (zvB rfl) ?_)))))))
  exact ⟨by rw [fits_yes hm ha h27], E⟩
 refine c_skip (n_then (c_seq (c_seq (wp_reg zd (l_v (v_fieldAddr (off := 0) (ft := 25) zk rfl) (l_v (v_load zk rfl (by first | exact HB103.pv 0 _ rfl | exact HB2.pv 0 _ rfl | exact HB1.pv 0 _ rfl | assumption)) ?_))))))
 refine l_v (v_neq rfl rfl) ?_
 refine l_v (zmB rfl) (l_g1 rfl rfl (fun hG => v_fieldAddr (off := 0) (ft := 29) zk rfl) ?_)
 refine l_g1 rfl rfl (fun hG => v_load zk (gd hG rfl) (by first | exact HB103.pv 0 _ rfl | exact HB2.pv 0 _ rfl | exact HB1.pv 0 _ rfl | assumption)) ?_
 refine l_g1 rfl rfl (fun hG => v_neq (gd hG rfl) rfl) ?_
 refine l_v (v_or rfl rfl) ?_
 refine l_nil (n_then (c_cond rfl rfl (fun h35 => ?_) (fun h35 => ?_)))
 ·
  refine c_seq (wp_reg zd (l_v (v_assign rfl) (l_nil (n_then (c_ret (r_then (ret1v rfl zq (zvB rfl) ?_)))))))
  exact ⟨by rw [fits_one hm ha (by rw [h27]; simpa using h35), h27], E⟩
 obtain ⟨h5, h0, hfit⟩ := fits_scan (x := x) hm ha (by rw [h27]; simpa using h35)
 refine c_skip (n_then (c_seq (wp_reg zd (l_v (v_fieldAddr (off := 2) (ft := 26) zk rfl) (l_v (v_load zk rfl (by first | exact HB103.pv 2 _ rfl | exact HB2.pv 2 _ rfl | exact HB1.pv 2 _ rfl | assumption)) ?_)))))
 refine l_v (zaS rfl) (l_nil (n_then (c_seq (c_seq (wp_reg zd (l_v (v_fieldAddr (off := 2) (ft := 26) zk rfl) (l_v (v_load zk rfl (by first | exact HB103.pv 2 _ rfl | exact HB2.pv 2 _ rfl | exact HB1.pv 2 _ rfl | assumption)) ?_)))))))
 refine l_v (v_len (et := 5) zk rfl) ?_
 refine l_v (v_gtr rfl rfl) ?_
 refine l_nil (n_then (c_cond rfl rfl (fun h41 => ?_) (fun h41 => ?_)))
 ·
  rw [pos_len] at h41
  refine c_seq (c_seq (wp_reg zd (l_v (v_fieldAddr (off := 2) (ft := 26) zk rfl) (l_v (v_load zk rfl (by first | exact HB103.pv 2 _ rfl | exact HB2.pv 2 _ rfl | exact HB1.pv 2 _ rfl | assumption)) ?_))))
  refine l_v (v_len (et := 5) zk rfl) ?_
  refine l_v (v_gtr rfl rfl) ?_
  refine l_v (zmB rfl) (l_g1 rfl rfl (fun hG => v_fieldAddr (off := 2) (ft := 26) zk rfl) ?_)
  refine l_g1 rfl rfl (fun hG => v_load zk (gd hG rfl) (by first | exact HB103.pv 2 _ rfl | exact HB2.pv 2 _ rfl | exact HB1.pv 2 _ rfl | assumption)) ?_
  refine l_g1 rfl rfl (fun hG => v_b2s (et := 5) zk zk zk (gd hG rfl) (by first | exact HSm | exact HSp | exact HSn | exact HS2 | exact HS1 | assumption)) ?_
  refine l_g1 rfl rfl (fun hG => v_fieldAddr (off := 1) (ft := 26) zk rfl) ?_
  refine l_g1 rfl rfl (fun hG => v_load zk (gd hG rfl) (by first | exact HB103.pv 1 _ rfl | exact HB2.pv 1 _ rfl | exact HB1.pv 1 _ rfl | assumption)) ?_
  refine l_g1 rfl rfl (fun hG => v_b2s (et := 5) zk zk zk (gd hG rfl) (by first | exact HSm | exact HSp | exact HSn | exact HS2 | exact HS1 | assumption)) ?_
  refine l_g1 rfl rfl (fun hG => v_sle (gd hG rfl) (gd hG rfl)) ?_
  refine l_v (v_or rfl rfl) ?_
  refine l_v (zmB rfl) (l_g1 rfl rfl (fun hG => zmS rfl) (l_g1 rfl rfl (fun hG => v_len (et := 5) zk (gd hG rfl)) ?_))
  refine l_g1 rfl rfl (fun hG => v_gtr (gd hG rfl) rfl) ?_
  refine l_g1 rfl rfl (fun hG => v_move (t := .bool _) (gd hG rfl)) ?_
  refine l_g2 rfl rfl (fun hG => v_fieldAddr (off := 2) (ft := 26) zk rfl) ?_
  refine l_g2 rfl rfl (fun hG => v_load zk (gd hG rfl) (by first | exact HB103.pv 2 _ rfl | exact HB2.pv 2 _ rfl | exact HB1.pv 2 _ rfl | assumption)) ?_
  refine l_g2 rfl rfl (fun hG => v_b2s (et := 5) zk zk zk (gd hG rfl) (by first | exact HSm | exact HSp | exact HSn | exact HS2 | exact HS1 | assumption)) ?_
  refine l_g2 rfl rfl (fun hG => zmS rfl) ?_
  refine l_g2 rfl rfl (fun hG => v_b2s (et := 5) zk zk zk (gd hG rfl) (by first | exact HSm | exact HSp | exact HSn | exact HS2 | exact HS1 | assumption)) ?_
  refine l_g2 rfl rfl (fun hG => v_sge (gd hG rfl) (gd hG rfl)) ?_
  refine l_g1 rfl rfl (fun hG => v_and (gd hG rfl) (gda hG rfl)) ?_
  refine l_v (v_or rfl rfl) ?_
  refine l_nil (n_then (c_cond rfl rfl (fun h67 => ?_) (fun h67 => ?_)))
  ·
   rw [pos_len] at h67
   refine c_seq (wp_reg zd (l_v (v_assign rfl) (l_nil (n_then (c_ret (r_then (r_then (ret1v rfl zq (zvB rfl) ?_))))))))
   refine ⟨?_, E⟩
   rw [hfit, show x.2.2.isEmpty = false by simpa using h41]
   congr 1
   cases g1 : decide (x.2.2.length ≤ 25) with
   | false => rfl
   | true =>
    have g2 : decide ((25 : Int) < x.2.2.length) = false := decide_eq_false (by have := of_decide_eq_true g1; omega)
    rw [g2] at h67
    cases g3 : decide (a.2.1 < x.2.2) <;> cases g4 : a.2.2.1.isEmpty <;> cases g5 : decide (x.2.2 < a.2.2.1) <;> simp_all
  have h69' := h67
  rw [pos_len] at h69'
  refine c_skip (n_then (wp_reg zd (l_v (v_fieldAddr (off := 2) (ft := 26) zk rfl) (l_v (v_load zk rfl (by first | exact HB103.pv 2 _ rfl | exact HB2.pv 2 _ rfl | exact HB1.pv 2 _ rfl | assumption)) ?_))))
  refine l_v (zaS rfl) (l_nil (n_then (c_seq (wp_reg zd (l_v (zmS rfl) (l_v (v_fieldAddr (off := 1) (ft := 26) zk rfl) (l_v (v_load zk rfl (by first | exact HB103.pv 1 _ rfl | exact HB2.pv 1 _ rfl | exact HB1.pv 1 _ rfl | assumption)) ?_)))))))
  refine l_v (zmS rfl) (l_to (to_f3 zk (zvS rfl) (zvS rfl) (zvS rfl) (CallsR.mono (reffrom_c HSm HS1 HSn zo) ?_)))
  rintro _ w10 ⟨HSl, e10⟩
  have := e10.size
  rw [← partM_from hm] at HSl
  replace HSl := HSl.allB
  obtain ⟨d7, d8, rfl⟩ := HSl.shape
  refine l_v (zaS rfl) (l_nil (n_then (c_seq (wp_reg zd (l_v (zmS rfl) (l_v (v_len (et := 50) zk rfl) ?_))))))
  replace HB1 := HB1.ext e10
  replace HB2 := HB2.ext e10
  replace HB103 := HB103.ext e10
  refine l_v (v_fieldAddr (off := 6) (ft := 3) zk rfl) (l_v (v_load zk rfl (by first | exact HB103.pv 6 _ rfl | exact HB2.pv 6 _ rfl | exact HB1.pv 6 _ rfl | assumption)) ?_)
  refine l_v (v_leq rfl rfl) ?_
  refine l_v (zmB rfl) (l_g1 rfl rfl (fun hG => zmS rfl) (l_g1 rfl rfl (fun hG => v_build (pl := [(0, 1), (1, 1), (2, 1)]) (z := .agg #[.int .i64 0, .slice none 0 0, .slice none 0 0]) (zl := [.int .i64 0, .slice none 0 0, .slice none 0 0]) (ps := [(1, .slice d7 (partM m a.2.1 x.2.2).length d8)]) zk (by unfold kZero; kernel_rfl) rfl (by refine parts1 (v0 := .slice d7 (partM m a.2.1 x.2.2).length d8) ?_; exact (gd hG rfl)) (cells := [.int .i64 0, .slice d7 (partM m a.2.1 x.2.2).length d8, .slice none 0 0]) rfl) ?_))
  refine l_g1 rfl rfl (fun hG => v_fieldAddr (off := 1) (ft := 22) zk rfl) ?_
  refine l_g1 rfl rfl (fun hG => v_load zk (gd hG rfl) (by first | exact HB103.pv 1 _ rfl | exact HB2.pv 1 _ rfl | exact HB1.pv 1 _ rfl | assumption)) ?_
  refine l_g1 rfl rfl (fun hG => v_build (pl := [(0, 1), (1, 1), (2, 1)]) (z := .agg #[.int .i64 0, .slice none 0 0, .slice none 0 0]) (zl := [.int .i64 0, .slice none 0 0, .slice none 0 0]) (ps := [(1, .slice x1 x.2.1.length y1)]) zk (by unfold kZero; kernel_rfl) rfl (by refine parts1 (v0 := .slice x1 x.2.1.length y1) ?_; exact (gd hG rfl)) (cells := [.int .i64 0, .slice x1 x.2.1.length y1, .slice none 0 0]) rfl) ?_
  replace HSp := HSp.ext e10
  refine l_g1f rfl rfl (fun hG => to_f2 zk (gd hG rfl) (gd hG rfl) (refSameAnswer_c (AgV.mkAn HSl (SlV.nil _ _ _) ⟨by decide, by decide⟩) (AgV.mkAn HSp (SlV.nil _ _ _) ⟨by decide, by decide⟩))) ?_
  rintro w106 e106
  have := e106.size
  refine l_v (v_and rfl rfl) ?_
  refine l_v (zaB rfl) (l_nil (n_then (c_ret (ret1v rfl zq (zvB rfl) ?_))))
  replace E := (E.trans e10.keep).trans e106.keep
  refine ⟨?_, E⟩
  rw [hfit, show x.2.2.isEmpty = false by simpa using h41]
  congr 1
  have g1 : decide (x.2.2.length ≤ 25) = true := decide_eq_true (by cases g : decide ((25 : Int) < x.2.2.length) <;> simp_all; omega)
  have g2 : decide ((25 : Int) < x.2.2.length) = false := decide_eq_false (by have := of_decide_eq_true g1; omega)
  rw [g2] at h69'
  rw [g1, same_ps]
  cases g3 : decide (a.2.1 < x.2.2) <;> cases g4 : a.2.2.1.isEmpty <;> cases g5 : decide (x.2.2 < a.2.2.1) <;> simp_all
 refine c_skip (n_then (c_seq (wp_reg zd (l_v (zmS rfl) (l_v (v_fieldAddr (off := 1) (ft := 26) zk rfl) (l_v (v_load zk rfl (by first | exact HB103.pv 1 _ rfl | exact HB2.pv 1 _ rfl | exact HB1.pv 1 _ rfl | assumption)) ?_))))))
 refine l_v (zmS rfl) (l_to (to_f3 zk (zvS rfl) (zvS rfl) (zvS rfl) (CallsR.mono (reffrom_c HSm HS1 HS2 zo) ?_)))
 rintro _ w10 ⟨HSl, e10⟩
 have := e10.size
 rw [← partM_from hm] at HSl
 replace HSl := HSl.allB
 obtain ⟨d7, d8, rfl⟩ := HSl.shape
 refine l_v (zaS rfl) (l_nil (n_then (c_seq (wp_reg zd (l_v (zmS rfl) (l_v (v_len (et := 50) zk rfl) ?_))))))
 replace HB1 := HB1.ext e10
 replace HB2 := HB2.ext e10
 replace HB103 := HB103.ext e10
 refine l_v (v_fieldAddr (off := 6) (ft := 3) zk rfl) (l_v (v_load zk rfl (by first | exact HB103.pv 6 _ rfl | exact HB2.pv 6 _ rfl | exact HB1.pv 6 _ rfl | assumption)) ?_)
 refine l_v (v_leq rfl rfl) ?_
 refine l_v (zmB rfl) (l_g1 rfl rfl (fun hG => zmS rfl) (l_g1 rfl rfl (fun hG => v_build (pl := [(0, 1), (1, 1), (2, 1)]) (z := .agg #[.int .i64 0, .slice none 0 0, .slice none 0 0]) (zl := [.int .i64 0, .slice none 0 0, .slice none 0 0]) (ps := [(1, .slice d7 (partM m a.2.1 a.2.2.1).length d8)]) zk (by unfold kZero; kernel_rfl) rfl (by refine parts1 (v0 := .slice d7 (partM m a.2.1 a.2.2.1).length d8) ?_; exact (gd hG rfl)) (cells := [.int .i64 0, .slice d7 (partM m a.2.1 a.2.2.1).length d8, .slice none 0 0]) rfl) ?_))
 refine l_g1 rfl rfl (fun hG => v_fieldAddr (off := 1) (ft := 22) zk rfl) ?_
 refine l_g1 rfl rfl (fun hG => v_load zk (gd hG rfl) (by first | exact HB103.pv 1 _ rfl | exact HB2.pv 1 _ rfl | exact HB1.pv 1 _ rfl | assumption)) ?_
 refine l_g1 rfl rfl (fun hG => v_build (pl := [(0, 1), (1, 1), (2, 1)]) (z := .agg #[.int .i64 0, .slice none 0 0, .slice none 0 0]) (zl := [.int .i64 0, .slice none 0 0, .slice none 0 0]) (ps := [(1, .slice x1 x.2.1.length y1)]) zk (by unfold kZero; kernel_rfl) rfl (by refine parts1 (v0 := .slice x1 x.2.1.length y1) ?_; exact (gd hG rfl)) (cells := [.int .i64 0, .slice x1 x.2.1.length y1, .slice none 0 0]) rfl) ?_
 replace HSp := HSp.ext e10
 refine l_g1f rfl rfl (fun hG => to_f2 zk (gd hG rfl) (gd hG rfl) (refSameAnswer_c (AgV.mkAn HSl (SlV.nil _ _ _) ⟨by decide, by decide⟩) (AgV.mkAn HSp (SlV.nil _ _ _) ⟨by decide, by decide⟩))) ?_
 rintro w107 e107
 have := e107.size
 refine l_v (v_and rfl rfl) ?_
 refine l_v (zaB rfl) (l_nil (n_then (c_ret (ret1v rfl zq (zvB rfl) ?_))))
 replace E := (E.trans e10.keep).trans e107.keep
 refine ⟨?_, E⟩
 have he : x.2.2.isEmpty = true := by rw [pos_len] at h41; simpa using h41
 rw [hfit, he]
 congr 1
 rw [same_ps]
 rfl
end Go.Proofs.Ytifnkmflmgnfjaa

namespace Go.Proofs.Ytifnkmflmgnfjaa
open Go.Vc
set_option linter.unusedVariables false
set_option linter.unusedSimpArgs false
set_option maxRecDepth 100000

theorem doM_len {m : MapV} {a : AkV} (ha : mayAk a = true) : (doM m a).1.length ≤ m.length + 1 := by
  obtain ⟨k, key, to, val, was, no, most⟩ := a
  have h1 : (setM m key val).length ≤ m.length + 1 := by
    have := posM_le m key
    simp only [setM, List.length_append, List.length_cons, List.length_take, List.length_drop]
    split <;> omega
  have h2 : (delM m key).length ≤ m.length + 1 := by
    simp only [delM, List.length_append, List.length_take, List.length_drop]
    omega
  simp only [doM]
  repeat' split
  all_goals first | exact h1 | exact h2 | (simp only []; omega)
end Go.Proofs.Ytifnkmflmgnfjaa
