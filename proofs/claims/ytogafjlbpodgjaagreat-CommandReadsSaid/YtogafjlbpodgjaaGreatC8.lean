/- A part of the proof: steps and lemmas for the walks through the given program. -/
import Derived.Test.YtogafjlbpodgjaaGreatC7
namespace Go.Proofs.YtogafjlbpodgjaaGreat
open Go.Vc
set_option linter.unusedVariables false
set_option linter.unusedSimpArgs false
set_option maxRecDepth 100000

theorem cm_eq {k k' g g' : Int} {rq rq' : RqV} {mv mv' : MvV} {en en' : List IkV} {an an' key key' : List UInt8} : decide ((k, rq, mv, en, an, key, g) = ((k', rq', mv', en', an', key', g') : CmV)) = (decide (k = k') && decide (rq = rq') && decide (mv = mv') && decide (en = en') && decide (an = an') && decide (key = key') && decide (g = g')) := by
  rw [Bool.eq_iff_iff]; simp only [decide_eq_true_eq, Bool.and_eq_true, Prod.mk.injEq, and_assoc]
theorem rq_eq {c c' n n' : Int} {a a' : AkV} : decide ((c, n, a) = ((c', n', a') : RqV)) = (decide (c = c') && decide (n = n') && decide (a = a')) := by
  rw [Bool.eq_iff_iff]; simp only [decide_eq_true_eq, Bool.and_eq_true, Prod.mk.injEq, and_assoc]
theorem CSame_c {w : World} {F G : Nat → Prop} {v u : Value} {c d : CmV} (HG01 : AgV tCm w F v c) (HG02 : AgV tCm w G u d) : CallsR Tryz.prog 58 #[v, u] w (fun o w' => o = .bool (decide (c = d)) ∧ Ext w w') := by
 obtain ⟨k, ⟨rc, rn, ra⟩, mv, en, an, key, g⟩ := c
 obtain ⟨k', ⟨rc', rn', ra'⟩, mv', en', an', key', g'⟩ := d
 obtain ⟨a1, c1, a2, c2, a3, c3, a4, c4, a5, c5, a6, c6, a7, c7, a8, c8, a9, c9, rfl, HG1, HG2, HSe, HSa, HSk, hik, hig⟩ := HG01.cm
 obtain ⟨b1, d1, b2, d2, b3, d3, b4, d4, b5, d5, b6, d6, b7, d7, b8, d8, b9, d9, rfl, HG3, HG4, HSf, HSb, HSl, hjk, hjg⟩ := HG02.cm
 clear HG01 HG02
 have HG5 := HG1.rqAk
 have HG6 := HG3.rqAk
 clear HG1 HG3
 refine enter 76 Tryz.func58 rfl rfl (by simp) ?_
 refine c_seq ?_
 have E := Keep.refl (K := NoK) w
 replace HG5 := HG5.all
 replace HG6 := HG6.all
 replace HG2 := HG2.all
 replace HG4 := HG4.all
 replace HSe := HSe.all
 replace HSa := HSa.all
 replace HSk := HSk.all
 replace HSf := HSf.all
 replace HSb := HSb.all
 replace HSl := HSl.all
 refine wp_reg zd (l_to (to_box (zvA rfl) ?_))
 rintro b31 w1 zb1 HB31 e1 z1
 have := e1.size
 try simp only [Value.cells] at HB31
 refine l_to (to_box (zvA rfl) ?_)
 rintro b32 w2 zb2 HB32 e2 z2
 have := e2.size
 try simp only [Value.cells] at HB32
 replace HB31 := HB31.ext e2
 refine l_v (v_assign rfl) (l_nil (n_then (c_seq (wp_reg zd (l_v (v_fieldAddr (off := 1) (ft := 28) zk rfl) (l_v (v_fieldAddr (off := 0) (ft := 3) zk rfl) (l_v (v_load zk rfl (by first | exact HB32.pv 1 _ rfl | exact HB31.pv 1 _ rfl | exact HB32.pv 0 _ rfl | exact HB31.pv 0 _ rfl | assumption)) ?_)))))))
 refine l_v (v_fieldAddr (off := 1) (ft := 28) zk rfl) (l_v (v_fieldAddr (off := 0) (ft := 3) zk rfl) (l_v (v_load zk rfl (by first | exact HB32.pv 1 _ rfl | exact HB31.pv 1 _ rfl | exact HB32.pv 0 _ rfl | exact HB31.pv 0 _ rfl | assumption)) ?_))
 refine l_v (v_eql rfl rfl) ?_
 refine l_v (zmB rfl) (l_g1 rfl rfl (fun hG => v_fieldAddr (off := 1) (ft := 28) zk rfl) ?_)
 refine l_g1 rfl rfl (fun hG => v_fieldAddr (off := 1) (ft := 2) zk (gd hG rfl)) ?_
 refine l_g1 rfl rfl (fun hG => v_load zk (gd hG rfl) (by first | exact HB32.pv 2 _ rfl | exact HB31.pv 2 _ rfl | exact HB32.pv 1 _ rfl | exact HB31.pv 1 _ rfl | assumption)) ?_
 refine l_g1 rfl rfl (fun hG => v_fieldAddr (off := 1) (ft := 28) zk rfl) ?_
 refine l_g1 rfl rfl (fun hG => v_fieldAddr (off := 1) (ft := 2) zk (gd hG rfl)) ?_
 refine l_g1 rfl rfl (fun hG => v_load zk (gd hG rfl) (by first | exact HB32.pv 2 _ rfl | exact HB31.pv 2 _ rfl | exact HB32.pv 1 _ rfl | exact HB31.pv 1 _ rfl | assumption)) ?_
 refine l_g1 rfl rfl (fun hG => v_eql (gd hG rfl) (gd hG rfl)) ?_
 refine l_v (v_and rfl rfl) ?_
 refine l_v (zmB rfl) (l_g1 rfl rfl (fun hG => v_fieldAddr (off := 1) (ft := 28) zk rfl) ?_)
 refine l_g1 rfl rfl (fun hG => v_fieldAddr (off := 2) (ft := 26) zk (gd hG rfl)) ?_
 refine l_g1 rfl rfl (fun hG => v_loadA zk (gd hG rfl) (by first | exact (show Pv _ _ [_, _, _, _, _, _, _] from pv_sub 3 7 HB32.pv) | exact (show Pv _ _ [_, _, _, _, _, _, _] from pv_sub 3 7 HB31.pv) | exact (show Pv _ _ [_, _, _, _, _, _, _] from pv_sub 2 7 HB32.pv) | exact (show Pv _ _ [_, _, _, _, _, _, _] from pv_sub 2 7 HB31.pv) | exact pv_at 2 HB32.pv | exact pv_at 2 HB31.pv | assumption) rfl) ?_
 refine l_g1 rfl rfl (fun hG => v_fieldAddr (off := 1) (ft := 28) zk rfl) ?_
 refine l_g1 rfl rfl (fun hG => v_fieldAddr (off := 2) (ft := 26) zk (gd hG rfl)) ?_
 refine l_g1 rfl rfl (fun hG => v_loadA zk (gd hG rfl) (by first | exact (show Pv _ _ [_, _, _, _, _, _, _] from pv_sub 3 7 HB32.pv) | exact (show Pv _ _ [_, _, _, _, _, _, _] from pv_sub 3 7 HB31.pv) | exact (show Pv _ _ [_, _, _, _, _, _, _] from pv_sub 2 7 HB32.pv) | exact (show Pv _ _ [_, _, _, _, _, _, _] from pv_sub 2 7 HB31.pv) | exact pv_at 2 HB32.pv | exact pv_at 2 HB31.pv | assumption) rfl) ?_
 replace HG5 := (HG5.ext e1).ext e2
 replace HG6 := (HG6.ext e1).ext e2
 refine l_g1f rfl rfl (fun hG => to_f2 zk (gd hG rfl) (gd hG rfl) (SameAsk_c HG5 HG6)) ?_
 rintro w101 e101
 have := e101.size
 refine l_v (v_and rfl rfl) ?_
 replace HB31 := HB31.ext e101
 replace HB32 := HB32.ext e101
 refine l_v (zaB rfl) (l_nil (n_then (c_seq (wp_reg zd (l_v (v_fieldAddr (off := 16) (ft := 31) zk rfl) (l_v (v_load zk rfl (by first | exact HB32.pv 16 _ rfl | exact HB31.pv 16 _ rfl | assumption)) ?_))))))
 refine l_v (v_fieldAddr (off := 16) (ft := 31) zk rfl) (l_v (v_load zk rfl (by first | exact HB32.pv 16 _ rfl | exact HB31.pv 16 _ rfl | assumption)) ?_)
 replace HSe := ((HSe.ext e1).ext e2).ext e101
 replace HSf := ((HSf.ext e1).ext e2).ext e101
 refine l_to (to_f3 zk (zvS rfl) (zvS rfl) rfl (CallsR.mono (EqualFuncI_c HSe HSf) ?_))
 rintro _ w102 ⟨rfl, e102⟩
 have := e102.size
 refine l_v (zmB rfl) (l_g1 rfl rfl (fun hG => v_fieldAddr (off := 17) (ft := 24) zk rfl) ?_)
 replace HB31 := HB31.ext e102
 replace HB32 := HB32.ext e102
 refine l_g1 rfl rfl (fun hG => v_load zk (gd hG rfl) (by first | exact HB32.pv 17 _ rfl | exact HB31.pv 17 _ rfl | assumption)) ?_
 refine l_g1 rfl rfl (fun hG => v_fieldAddr (off := 17) (ft := 24) zk rfl) ?_
 refine l_g1 rfl rfl (fun hG => v_load zk (gd hG rfl) (by first | exact HB32.pv 17 _ rfl | exact HB31.pv 17 _ rfl | assumption)) ?_
 replace HSa := (((HSa.ext e1).ext e2).ext e101).ext e102
 replace HSb := (((HSb.ext e1).ext e2).ext e101).ext e102
 refine l_g1f rfl rfl (fun hG => to_f2 zk (gd hG rfl) (gd hG rfl) (Equal_c HSa HSb)) ?_
 rintro w103 e103
 have := e103.size
 refine l_v (v_and rfl rfl) ?_
 refine l_v (zmB rfl) (l_g1 rfl rfl (fun hG => v_fieldAddr (off := 18) (ft := 24) zk rfl) ?_)
 replace HB31 := HB31.ext e103
 replace HB32 := HB32.ext e103
 refine l_g1 rfl rfl (fun hG => v_load zk (gd hG rfl) (by first | exact HB32.pv 18 _ rfl | exact HB31.pv 18 _ rfl | assumption)) ?_
 refine l_g1 rfl rfl (fun hG => v_fieldAddr (off := 18) (ft := 24) zk rfl) ?_
 refine l_g1 rfl rfl (fun hG => v_load zk (gd hG rfl) (by first | exact HB32.pv 18 _ rfl | exact HB31.pv 18 _ rfl | assumption)) ?_
 replace HSk := ((((HSk.ext e1).ext e2).ext e101).ext e102).ext e103
 replace HSl := ((((HSl.ext e1).ext e2).ext e101).ext e102).ext e103
 refine l_g1f rfl rfl (fun hG => to_f2 zk (gd hG rfl) (gd hG rfl) (Equal_c HSk HSl)) ?_
 rintro w104 e104
 have := e104.size
 refine l_v (v_and rfl rfl) ?_
 replace HB31 := HB31.ext e104
 replace HB32 := HB32.ext e104
 refine l_v (zaB rfl) (l_nil (n_then (c_seq (wp_reg zd (l_v (v_fieldAddr (off := 0) (ft := 22) zk rfl) (l_v (v_load zk rfl (by first | exact HB32.pv 0 _ rfl | exact HB31.pv 0 _ rfl | assumption)) ?_))))))
 refine l_v (v_fieldAddr (off := 0) (ft := 22) zk rfl) (l_v (v_load zk rfl (by first | exact HB32.pv 0 _ rfl | exact HB31.pv 0 _ rfl | assumption)) ?_)
 refine l_v (v_eql rfl rfl) ?_
 refine l_v (zmB rfl) (l_g1 rfl rfl (fun hG => v_fieldAddr (off := 19) (ft := 3) zk rfl) ?_)
 refine l_g1 rfl rfl (fun hG => v_load zk (gd hG rfl) (by first | exact HB32.pv 19 _ rfl | exact HB31.pv 19 _ rfl | assumption)) ?_
 refine l_g1 rfl rfl (fun hG => v_fieldAddr (off := 19) (ft := 3) zk rfl) ?_
 refine l_g1 rfl rfl (fun hG => v_load zk (gd hG rfl) (by first | exact HB32.pv 19 _ rfl | exact HB31.pv 19 _ rfl | assumption)) ?_
 refine l_g1 rfl rfl (fun hG => v_eql (gd hG rfl) (gd hG rfl)) ?_
 refine l_v (v_and rfl rfl) ?_
 refine l_v (zmB rfl) (l_g1 rfl rfl (fun hG => zmB rfl) (l_v (v_and rfl rfl) ?_))
 refine l_v (zmB rfl) (l_g1 rfl rfl (fun hG => v_fieldAddr (off := 10) (ft := 30) zk rfl) ?_)
 refine l_g1 rfl rfl (fun hG => v_loadA zk (gd hG rfl) (by first | exact (show Pv _ _ [_, _, _, _, _, _] from pv_sub 10 6 HB32.pv) | exact (show Pv _ _ [_, _, _, _, _, _] from pv_sub 10 6 HB31.pv) | exact pv_at 10 HB32.pv | exact pv_at 10 HB31.pv | assumption) rfl) ?_
 refine l_g1 rfl rfl (fun hG => v_fieldAddr (off := 10) (ft := 30) zk rfl) ?_
 refine l_g1 rfl rfl (fun hG => v_loadA zk (gd hG rfl) (by first | exact (show Pv _ _ [_, _, _, _, _, _] from pv_sub 10 6 HB32.pv) | exact (show Pv _ _ [_, _, _, _, _, _] from pv_sub 10 6 HB31.pv) | exact pv_at 10 HB32.pv | exact pv_at 10 HB31.pv | assumption) rfl) ?_
 replace HG2 := (((((HG2.ext e1).ext e2).ext e101).ext e102).ext e103).ext e104
 replace HG4 := (((((HG4.ext e1).ext e2).ext e101).ext e102).ext e103).ext e104
 refine l_g1f rfl rfl (fun hG => to_f2 zk (gd hG rfl) (gd hG rfl) (SameMove_c HG2 HG4)) ?_
 rintro w105 e105
 have := e105.size
 refine l_v (v_and rfl rfl) ?_
 refine l_v (zmB rfl) (l_g1 rfl rfl (fun hG => zmB rfl) (l_v (v_and rfl rfl) ?_))
 refine l_v (zaB rfl) (l_nil (n_then (c_ret (ret1v rfl zq (zvB rfl) ?_))))
 replace E := ((((((E.trans e1.keep).trans e2.keep).trans e101.keep).trans e102.keep).trans e103.keep).trans e104.keep).trans e105.keep
 refine ⟨?_, E⟩
 rw [cm_eq, rq_eq]
 congr 1; rw [Bool.eq_iff_iff]; simp only [Bool.and_eq_true, decide_eq_true_eq, beq_iff_eq, and_assoc]
 exact ⟨fun ⟨a, b, c, d, e, f, g, h, i⟩ => ⟨a, c, d, e, f, g, h, i, b⟩, fun ⟨a, c, d, e, f, g, h, i, b⟩ => ⟨a, b, c, d, e, f, g, h, i⟩⟩
theorem refSameList_c {w : World} {F G : Nat → Prop} {v u : Value} {rs ss : List IkV} (HSr : SlV tIk w F v rs) (HSs : SlV tIk w G u ss) : CallsR Tryz.prog 50 #[v, u] w (fun o w' => o = .bool (decide (rs = ss)) ∧ Ext w w') := by
 obtain ⟨a, c, rfl⟩ := HSr.shape
 obtain ⟨a2, c2, rfl⟩ := HSs.shape
 have hmx := HSr.len_max
 have hmx2 := HSs.len_max
 refine enter 27 Tryz.func50 rfl rfl (by simp) ?_
 refine c_seq ?_
 have E := Keep.refl (K := NoK) w
 replace HSr := HSr.all
 replace HSs := HSs.all
 refine wp_reg zd (l_v (v_assign rfl) (l_nil (n_then (c_seq (c_seq (wp_reg zd (l_v (zmS rfl) (l_v (v_len (et := 93) zk rfl) ?_))))))))
 refine l_v (zmS rfl) (l_v (v_len (et := 93) zk rfl) ?_)
 refine l_v (v_neq rfl rfl) ?_
 refine l_nil (n_then (c_cond rfl rfl (fun hc => ?_) (fun hc => ?_)))
 ·
  refine c_seq (wp_reg zd (l_v (v_assign rfl) (l_nil (n_then (c_ret (r_then (ret1v rfl zq (zvB rfl) ?_)))))))
  refine ⟨?_, E⟩
  rw [decide_eq_false]
  intro h; subst h; simp at hc
 have hlen : rs.length = ss.length := by simp at hc; omega
 refine c_skip (n_then (c_seq (c_seq (wp_reg zd (l_v (v_assign rfl) (l_nil (n_then (c_block (c_loop (τ := Nat) [4, 5, 11, 12, 13, 14, 15, 16, 17, 18, 19, 20, 21, 22, 23, 24, 25, 26] (fun i => [(5, .int .i64 i)]) (fun i W => Ext w W ∧ Keep (NoK) w W ∧ i ≤ rs.length ∧ rs.take i = ss.take i) (fun i => rs.length - i) 0 (by exact ⟨rfl, trivial⟩) (by exact ⟨E, Keep.refl _, Nat.zero_le _, rfl⟩) ?_)))))))))
 rintro i w101 j ⟨E, EL1, h1, h2⟩
 have := EL1.size
 refine c_seq (c_seq (wp_reg zd (l_v (zmI rfl) (l_v (zmS rfl) (l_v (v_len (et := 93) zk rfl) ?_)))))
 refine l_v (v_lss rfl rfl) ?_
 replace HSr := HSr.ext EL1
 replace HSs := HSs.ext EL1
 refine l_nil (n_then (c_cond rfl rfl (fun hlt => ?_) (fun hlt => ?_)))
 ·
  have hlt := dtrue hlt
  obtain ⟨r, hx, hdr⟩ := getE (l := rs) (i := i) zo
  obtain ⟨s, hy, hds⟩ := getE (l := ss) (i := i) zo
  obtain ⟨q1, cs1, rfl, hq1, _, HP1, hr1⟩ := HSr.el hx
  obtain ⟨q2, cs2, rfl, hq2, _, HP2, hr2⟩ := HSs.el hy
  have HG5 : AgV tIk _ _ _ r := ⟨cs1, rfl, hr1⟩
  have HG6 : AgV tIk _ _ _ s := ⟨cs2, rfl, hr2⟩
  obtain ⟨b1, d1, b2, d2, rfl, _⟩ := tIk_cells hr1
  obtain ⟨b3, d3, b4, d4, rfl, _⟩ := tIk_cells hr2
  refine c_skip (n_then (c_seq (c_block (c_seq (wp_regd (NoK) zk zd zd ?_)))))
  refine rt_v (fun vals w hR hd => zmS rfl) ?_
  refine rt_v (fun vals w hR hd => zmI rfl) ?_
  refine rt_v (fun vals w hR hd => v_indexAddr (et := 93) (sz := 4) (k := i) zk zk (hd 0 rfl) (hd 1 rfl) (by first | rfl | omega) zo) ?_
  refine rt_v (fun vals w hR hd => v_loadA zk (hd 2 rfl) (by first | exact (HP2.ext hR) | exact (HP1.ext hR) | assumption) rfl) ?_
  refine rt_v (fun vals w hR hd => zmS rfl) ?_
  refine rt_v (fun vals w hR hd => zmI rfl) ?_
  refine rt_v (fun vals w hR hd => v_indexAddr (et := 93) (sz := 4) (k := i) zk zk (hd 4 rfl) (hd 5 rfl) (by first | rfl | omega) zo) ?_
  refine rt_v (fun vals w hR hd => v_loadA zk (hd 6 rfl) (by first | exact (HP2.ext hR) | exact (HP1.ext hR) | assumption) rfl) ?_
  refine rt_vf (fun vals w hR hd => to_f2 zk (hd 3 rfl) (hd 7 rfl) (refiSame_c (HG5.ext hR) (HG6.ext hR))) ?_
  refine rt_v (fun vals w hR hd => v_not (hd 8 rfl)) ?_
  refine rt_nil (fun w102 e102 => ?_)
  rintro _ rfl _ rfl _ rfl _ rfl _ rfl _ rfl _ rfl _ rfl _ rfl _ rfl
  have := e102.size
  replace E := E.trans e102.keep
  replace HSr := HSr.ext e102
  replace HSs := HSs.ext e102
  replace EL1 := EL1.trans e102.keep
  replace HP1 := HP1.ext e102
  replace HP2 := HP2.ext e102
  replace HG5 := HG5.ext e102
  replace HG6 := HG6.ext e102
  refine fin_nil (n_then (c_cond rfl rfl (fun h38 => ?_) (fun h38 => ?_)))
  ·
   refine c_seq (wp_reg zd (l_v (v_assign rfl) (l_nil (n_then (c_ret (r_blk (r_then (r_then (r_blk ?_)))))))))
   refine r_then (ret1v rfl zq (zvB rfl) ?_)
   refine ⟨?_, E⟩
   rw [decide_eq_false]
   rintro h; cases h
   rw [hx] at hy; cases hy
   simp at h38
  refine c_skip (n_blk (n_then (wp_reg zd (l_v (zmI rfl) (l_v (v_add rfl rfl (by first | exact wr_i64 zo zo | rfl)) ?_)))))
  refine l_v (zaI rfl) (l_nil (n_then (⟨i + 1, _, rfl, by (repeat (first | exact Off.of_over _ _ _ | refine Off.upd ?_ zq _ | refine Off.overs ?_ zq _)), ⟨by first | rfl | exact congrArg (Value.int _) zo | (simp; done), trivial⟩, ⟨E, EL1, ?_⟩, ?_⟩)))
  ·
   refine ⟨by omega, ?_⟩
   have hs : r = s := by simpa using h38
   rw [List.take_add_one, List.take_add_one, hx, hy, h2, hs]
  (dsimp only; omega)
 have hlt := dfalse hlt
 refine c_exit (x_then (x_then (x_hit (n_then (c_seq (wp_reg zd (l_v (v_assign rfl) (l_nil (n_then ?_)))))))))
 refine c_ret (ret1v rfl zq (zvB rfl) ?_)
 refine ⟨?_, E⟩
 rw [List.take_of_length_le zo, List.take_of_length_le zo] at h2
 rw [decide_eq_true h2]
theorem refCSame_c {w : World} {F G : Nat → Prop} {v u : Value} {c d : CmV} (HG01 : AgV tCm w F v c) (HG02 : AgV tCm w G u d) : CallsR Tryz.prog 13 #[v, u] w (fun o w' => o = .bool (decide (c = d)) ∧ Ext w w') := by
 obtain ⟨k, ⟨rc, rn, ra⟩, mv, en, an, key, g⟩ := c
 obtain ⟨k', ⟨rc', rn', ra'⟩, mv', en', an', key', g'⟩ := d
 obtain ⟨a1, c1, a2, c2, a3, c3, a4, c4, a5, c5, a6, c6, a7, c7, a8, c8, a9, c9, rfl, HG1, HG2, HSe, HSa, HSk, hik, hig⟩ := HG01.cm
 obtain ⟨b1, d1, b2, d2, b3, d3, b4, d4, b5, d5, b6, d6, b7, d7, b8, d8, b9, d9, rfl, HG3, HG4, HSf, HSb, HSl, hjk, hjg⟩ := HG02.cm
 clear HG01 HG02
 have HG5 := HG1.rqAk
 have HG6 := HG3.rqAk
 clear HG1 HG3
 refine enter 78 Tryz.func13 rfl rfl (by simp) ?_
 refine c_seq ?_
 have E := Keep.refl (K := NoK) w
 replace HG5 := HG5.all
 replace HG6 := HG6.all
 replace HG2 := HG2.all
 replace HG4 := HG4.all
 replace HSe := HSe.all
 replace HSa := HSa.all
 replace HSk := HSk.all
 replace HSf := HSf.all
 replace HSb := HSb.all
 replace HSl := HSl.all
 refine wp_reg zd (l_to (to_box (zvA rfl) ?_))
 rintro b31 w1 zb1 HB31 e1 z1
 have := e1.size
 try simp only [Value.cells] at HB31
 refine l_to (to_box (zvA rfl) ?_)
 rintro b32 w2 zb2 HB32 e2 z2
 have := e2.size
 try simp only [Value.cells] at HB32
 replace HB31 := HB31.ext e2
 refine l_v (v_assign rfl) (l_nil (n_then (c_seq (wp_reg zd (l_v (v_fieldAddr (off := 1) (ft := 28) zk rfl) (l_v (v_fieldAddr (off := 0) (ft := 3) zk rfl) (l_v (v_load zk rfl (by first | exact HB32.pv 1 _ rfl | exact HB31.pv 1 _ rfl | exact HB32.pv 0 _ rfl | exact HB31.pv 0 _ rfl | assumption)) ?_)))))))
 refine l_v (v_fieldAddr (off := 1) (ft := 28) zk rfl) (l_v (v_fieldAddr (off := 0) (ft := 3) zk rfl) (l_v (v_load zk rfl (by first | exact HB32.pv 1 _ rfl | exact HB31.pv 1 _ rfl | exact HB32.pv 0 _ rfl | exact HB31.pv 0 _ rfl | assumption)) ?_))
 refine l_v (v_eql rfl rfl) ?_
 refine l_v (zmB rfl) (l_g1 rfl rfl (fun hG => v_fieldAddr (off := 1) (ft := 28) zk rfl) ?_)
 refine l_g1 rfl rfl (fun hG => v_fieldAddr (off := 1) (ft := 2) zk (gd hG rfl)) ?_
 refine l_g1 rfl rfl (fun hG => v_load zk (gd hG rfl) (by first | exact HB32.pv 2 _ rfl | exact HB31.pv 2 _ rfl | exact HB32.pv 1 _ rfl | exact HB31.pv 1 _ rfl | assumption)) ?_
 refine l_g1 rfl rfl (fun hG => v_fieldAddr (off := 1) (ft := 28) zk rfl) ?_
 refine l_g1 rfl rfl (fun hG => v_fieldAddr (off := 1) (ft := 2) zk (gd hG rfl)) ?_
 refine l_g1 rfl rfl (fun hG => v_load zk (gd hG rfl) (by first | exact HB32.pv 2 _ rfl | exact HB31.pv 2 _ rfl | exact HB32.pv 1 _ rfl | exact HB31.pv 1 _ rfl | assumption)) ?_
 refine l_g1 rfl rfl (fun hG => v_eql (gd hG rfl) (gd hG rfl)) ?_
 refine l_v (v_and rfl rfl) ?_
 refine l_v (zmB rfl) (l_g1 rfl rfl (fun hG => v_fieldAddr (off := 1) (ft := 28) zk rfl) ?_)
 refine l_g1 rfl rfl (fun hG => v_fieldAddr (off := 2) (ft := 26) zk (gd hG rfl)) ?_
 refine l_g1 rfl rfl (fun hG => v_loadA zk (gd hG rfl) (by first | exact (show Pv _ _ [_, _, _, _, _, _, _] from pv_sub 3 7 HB32.pv) | exact (show Pv _ _ [_, _, _, _, _, _, _] from pv_sub 3 7 HB31.pv) | exact (show Pv _ _ [_, _, _, _, _, _, _] from pv_sub 2 7 HB32.pv) | exact (show Pv _ _ [_, _, _, _, _, _, _] from pv_sub 2 7 HB31.pv) | exact pv_at 2 HB32.pv | exact pv_at 2 HB31.pv | assumption) rfl) ?_
 refine l_g1 rfl rfl (fun hG => v_fieldAddr (off := 1) (ft := 28) zk rfl) ?_
 refine l_g1 rfl rfl (fun hG => v_fieldAddr (off := 2) (ft := 26) zk (gd hG rfl)) ?_
 refine l_g1 rfl rfl (fun hG => v_loadA zk (gd hG rfl) (by first | exact (show Pv _ _ [_, _, _, _, _, _, _] from pv_sub 3 7 HB32.pv) | exact (show Pv _ _ [_, _, _, _, _, _, _] from pv_sub 3 7 HB31.pv) | exact (show Pv _ _ [_, _, _, _, _, _, _] from pv_sub 2 7 HB32.pv) | exact (show Pv _ _ [_, _, _, _, _, _, _] from pv_sub 2 7 HB31.pv) | exact pv_at 2 HB32.pv | exact pv_at 2 HB31.pv | assumption) rfl) ?_
 replace HG5 := (HG5.ext e1).ext e2
 replace HG6 := (HG6.ext e1).ext e2
 refine l_g1f rfl rfl (fun hG => to_f2 zk (gd hG rfl) (gd hG rfl) (refSameAsk_c HG5 HG6)) ?_
 rintro w101 e101
 have := e101.size
 refine l_v (v_and rfl rfl) ?_
 replace HB31 := HB31.ext e101
 replace HB32 := HB32.ext e101
 refine l_v (zaB rfl) (l_nil (n_then (c_seq (wp_reg zd (l_v (v_fieldAddr (off := 0) (ft := 22) zk rfl) (l_v (v_load zk rfl (by first | exact HB32.pv 0 _ rfl | exact HB31.pv 0 _ rfl | assumption)) ?_))))))
 refine l_v (v_fieldAddr (off := 0) (ft := 22) zk rfl) (l_v (v_load zk rfl (by first | exact HB32.pv 0 _ rfl | exact HB31.pv 0 _ rfl | assumption)) ?_)
 refine l_v (v_eql rfl rfl) ?_
 refine l_v (zmB rfl) (l_g1 rfl rfl (fun hG => zmB rfl) (l_v (v_and rfl rfl) ?_))
 refine l_v (zmB rfl) (l_g1 rfl rfl (fun hG => v_fieldAddr (off := 10) (ft := 30) zk rfl) ?_)
 refine l_g1 rfl rfl (fun hG => v_loadA zk (gd hG rfl) (by first | exact (show Pv _ _ [_, _, _, _, _, _] from pv_sub 10 6 HB32.pv) | exact (show Pv _ _ [_, _, _, _, _, _] from pv_sub 10 6 HB31.pv) | exact pv_at 10 HB32.pv | exact pv_at 10 HB31.pv | assumption) rfl) ?_
 refine l_g1 rfl rfl (fun hG => v_fieldAddr (off := 10) (ft := 30) zk rfl) ?_
 refine l_g1 rfl rfl (fun hG => v_loadA zk (gd hG rfl) (by first | exact (show Pv _ _ [_, _, _, _, _, _] from pv_sub 10 6 HB32.pv) | exact (show Pv _ _ [_, _, _, _, _, _] from pv_sub 10 6 HB31.pv) | exact pv_at 10 HB32.pv | exact pv_at 10 HB31.pv | assumption) rfl) ?_
 replace HG2 := ((HG2.ext e1).ext e2).ext e101
 replace HG4 := ((HG4.ext e1).ext e2).ext e101
 refine l_g1f rfl rfl (fun hG => to_f2 zk (gd hG rfl) (gd hG rfl) (refSameMove_c HG2 HG4)) ?_
 rintro w102 e102
 have := e102.size
 refine l_v (v_and rfl rfl) ?_
 refine l_v (zmB rfl) (l_g1 rfl rfl (fun hG => v_fieldAddr (off := 16) (ft := 31) zk rfl) ?_)
 replace HB31 := HB31.ext e102
 replace HB32 := HB32.ext e102
 refine l_g1 rfl rfl (fun hG => v_load zk (gd hG rfl) (by first | exact HB32.pv 16 _ rfl | exact HB31.pv 16 _ rfl | assumption)) ?_
 refine l_g1 rfl rfl (fun hG => v_fieldAddr (off := 16) (ft := 31) zk rfl) ?_
 refine l_g1 rfl rfl (fun hG => v_load zk (gd hG rfl) (by first | exact HB32.pv 16 _ rfl | exact HB31.pv 16 _ rfl | assumption)) ?_
 replace HSe := (((HSe.ext e1).ext e2).ext e101).ext e102
 replace HSf := (((HSf.ext e1).ext e2).ext e101).ext e102
 refine l_g1f rfl rfl (fun hG => to_f2 zk (gd hG rfl) (gd hG rfl) (refSameList_c HSe HSf)) ?_
 rintro w103 e103
 have := e103.size
 refine l_v (v_and rfl rfl) ?_
 refine l_v (zmB rfl) (l_g1 rfl rfl (fun hG => v_fieldAddr (off := 17) (ft := 24) zk rfl) ?_)
 replace HB31 := HB31.ext e103
 replace HB32 := HB32.ext e103
 refine l_g1 rfl rfl (fun hG => v_load zk (gd hG rfl) (by first | exact HB32.pv 17 _ rfl | exact HB31.pv 17 _ rfl | assumption)) ?_
 replace HSa := ((((HSa.ext e1).ext e2).ext e101).ext e102).ext e103
 refine l_g1 rfl rfl (fun hG => v_b2s (et := 5) zk zk zk (gd hG rfl) HSa) ?_
 refine l_g1 rfl rfl (fun hG => v_fieldAddr (off := 17) (ft := 24) zk rfl) ?_
 refine l_g1 rfl rfl (fun hG => v_load zk (gd hG rfl) (by first | exact HB32.pv 17 _ rfl | exact HB31.pv 17 _ rfl | assumption)) ?_
 replace HSb := ((((HSb.ext e1).ext e2).ext e101).ext e102).ext e103
 refine l_g1 rfl rfl (fun hG => v_b2s (et := 5) zk zk zk (gd hG rfl) HSb) ?_
 refine l_g1 rfl rfl (fun hG => v_seq (gd hG rfl) (gd hG rfl)) ?_
 refine l_v (v_and rfl rfl) ?_
 refine l_v (zmB rfl) (l_g1 rfl rfl (fun hG => v_fieldAddr (off := 18) (ft := 24) zk rfl) ?_)
 refine l_g1 rfl rfl (fun hG => v_load zk (gd hG rfl) (by first | exact HB32.pv 18 _ rfl | exact HB31.pv 18 _ rfl | assumption)) ?_
 replace HSk := ((((HSk.ext e1).ext e2).ext e101).ext e102).ext e103
 refine l_g1 rfl rfl (fun hG => v_b2s (et := 5) zk zk zk (gd hG rfl) HSk) ?_
 refine l_g1 rfl rfl (fun hG => v_fieldAddr (off := 18) (ft := 24) zk rfl) ?_
 refine l_g1 rfl rfl (fun hG => v_load zk (gd hG rfl) (by first | exact HB32.pv 18 _ rfl | exact HB31.pv 18 _ rfl | assumption)) ?_
 replace HSl := ((((HSl.ext e1).ext e2).ext e101).ext e102).ext e103
 refine l_g1 rfl rfl (fun hG => v_b2s (et := 5) zk zk zk (gd hG rfl) HSl) ?_
 refine l_g1 rfl rfl (fun hG => v_seq (gd hG rfl) (gd hG rfl)) ?_
 refine l_v (v_and rfl rfl) ?_
 refine l_v (zmB rfl) (l_g1 rfl rfl (fun hG => v_fieldAddr (off := 19) (ft := 3) zk rfl) ?_)
 refine l_g1 rfl rfl (fun hG => v_load zk (gd hG rfl) (by first | exact HB32.pv 19 _ rfl | exact HB31.pv 19 _ rfl | assumption)) ?_
 refine l_g1 rfl rfl (fun hG => v_fieldAddr (off := 19) (ft := 3) zk rfl) ?_
 refine l_g1 rfl rfl (fun hG => v_load zk (gd hG rfl) (by first | exact HB32.pv 19 _ rfl | exact HB31.pv 19 _ rfl | assumption)) ?_
 refine l_g1 rfl rfl (fun hG => v_eql (gd hG rfl) (gd hG rfl)) ?_
 refine l_v (v_and rfl rfl) ?_
 refine l_v (zaB rfl) (l_nil (n_then (c_ret (ret1v rfl zq (zvB rfl) ?_))))
 replace E := ((((E.trans e1.keep).trans e2.keep).trans e101.keep).trans e102.keep).trans e103.keep
 refine ⟨?_, E⟩
 rw [cm_eq, rq_eq]
theorem CMay_c {w : World} {F : Nat → Prop} {v : Value} {c : CmV} (HG1 : AgV tCm w F v c) : CallsR Tryz.prog 17 #[v] w (fun o w' => o = .bool (mayCm c) ∧ Ext w w') := by
 obtain ⟨k, rq, mv, en, an, key, g⟩ := c
 obtain ⟨a1, c1, a2, c2, a3, c3, a4, c4, a5, c5, a6, c6, a7, c7, a8, c8, a9, c9, hv0, _⟩ := HG1.cm
 subst hv0
 refine enter 16 Tryz.func17 rfl rfl (by simp) ?_
 refine c_seq ?_
 have E := Keep.refl (K := NoK) w
 replace HG1 := HG1.all
 refine wp_reg zd (l_to (to_box (zvA rfl) ?_))
 rintro b31 w1 zb1 HB31 e1 z1
 have := e1.size
 try simp only [Value.cells] at HB31
 refine l_v (v_assign rfl) (l_nil (n_then (c_seq (wp_reg zd (l_v (v_loadA zk rfl (by first | exact HB31.pv | assumption) rfl) ?_)))))
 replace HG1 := HG1.ext e1
 refine l_to (to_f1 zk (zvA rfl) (CallsR.mono (named_c HG1) ?_))
 rintro _ w2 ⟨⟨u2, rfl, HG2⟩, e2⟩
 have := e2.size
 obtain ⟨⟨k', rq', mv', en', an', key', g'⟩, hnm⟩ : ∃ x, x = (nmdC (k, rq, mv, en, an, key, g)).1 := ⟨_, rfl⟩
 rw [← hnm] at HG2
 obtain ⟨b1, d1, b2, d2, b3, d3, b4, d4, b5, d5, b6, d6, b7, d7, b8, d8, b9, d9, rfl, _⟩ := HG2.cm
 refine l_v (zmT rfl) (l_v (v_extract (t := .agg _) rfl rfl) (l_v (v_extract (t := .bool _) rfl rfl) (l_to (to_alloc (z := (.agg #[.int .i64 0, .int .i64 0, .int .i64 0, .int .i64 0, .slice none 0 0, .slice none 0 0, .slice none 0 0, .slice none 0 0, .bool false, .int .i64 0, .int .i64 0, .slice none 0 0, .slice none 0 0, .bool false, .int .i64 0, .int .i64 0, .slice none 0 0, .slice none 0 0, .slice none 0 0, .int .i64 0])) (by unfold kZero; kernel_rfl) ?_))))
 rintro b33 w3 zb3 HB33 e3 z3
 have := e3.size
 try simp only [Value.cells] at HB33
 refine l_to (to_storeA (n := 20) rfl rfl (zvA rfl) zk rfl dj6 HB33 dj5 ?_)
 rintro w101 HX101 k101 z101
 have := k101.size
 replace HB33 := HX101
 clear HX101
 try simp only [zS, Nat.zero_add, Nat.reduceAdd, List.drop_nil] at HB33
 replace HB31 := ((HB31.ext e2).ext e3).keep k101 dj4
 refine l_v (zaB rfl) (l_nil (n_then (c_seq (wp_reg zd (l_v (zmB rfl) (l_v (zmB rfl) (l_g1 rfl rfl (fun hG => v_loadA zk rfl (by first | exact HB33.pv | exact HB31.pv | assumption) rfl) ?_)))))))
 refine l_g1 rfl rfl (fun hG => v_loadA zk rfl (by first | exact HB33.pv | exact HB31.pv | assumption) rfl) ?_
 replace HG1 := ((HG1.ext e2).ext e3).keep k101 dj1
 replace HG2 := (HG2.ext e3).keep k101 dj1
 refine l_g1f rfl rfl (fun hG => to_f2 zk (gd hG rfl) (gd hG rfl) (CSame_c HG2 HG1)) ?_
 rintro w102 e102
 have := e102.size
 refine l_v (v_and rfl rfl) ?_
 refine l_v (zaB rfl) (l_nil (n_then (c_ret (ret1v rfl zq (zvB rfl) ?_))))
 replace E := ((((E.trans e1.keep).trans e2.keep).trans e3.keep).step k101 dj3).trans e102.keep
 refine ⟨?_, E⟩
 unfold mayCm; rw [← hnm]
theorem refCMay_c {w : World} {F : Nat → Prop} {v : Value} {c : CmV} (HG1 : AgV tCm w F v c) : CallsR Tryz.prog 8 #[v] w (fun o w' => o = .bool (mayCm c) ∧ Ext w w') := by
 obtain ⟨k, rq, mv, en, an, key, g⟩ := c
 obtain ⟨a1, c1, a2, c2, a3, c3, a4, c4, a5, c5, a6, c6, a7, c7, a8, c8, a9, c9, hv0, _⟩ := HG1.cm
 subst hv0
 refine enter 16 Tryz.func8 rfl rfl (by simp) ?_
 refine c_seq ?_
 have E := Keep.refl (K := NoK) w
 replace HG1 := HG1.all
 refine wp_reg zd (l_to (to_box (zvA rfl) ?_))
 rintro b31 w1 zb1 HB31 e1 z1
 have := e1.size
 try simp only [Value.cells] at HB31
 refine l_v (v_assign rfl) (l_nil (n_then (c_seq (wp_reg zd (l_v (v_loadA zk rfl (by first | exact HB31.pv | assumption) rfl) ?_)))))
 replace HG1 := HG1.ext e1
 refine l_to (to_f1 zk (zvA rfl) (CallsR.mono (bare_c HG1) ?_))
 rintro _ w2 ⟨⟨u2, rfl, HG2⟩, e2⟩
 have := e2.size
 obtain ⟨⟨k', rq', mv', en', an', key', g'⟩, hnm⟩ : ∃ x, x = (nmdC (k, rq, mv, en, an, key, g)).1 := ⟨_, rfl⟩
 rw [← hnm] at HG2
 obtain ⟨b1, d1, b2, d2, b3, d3, b4, d4, b5, d5, b6, d6, b7, d7, b8, d8, b9, d9, rfl, _⟩ := HG2.cm
 refine l_v (zmT rfl) (l_v (v_extract (t := .agg _) rfl rfl) (l_v (v_extract (t := .bool _) rfl rfl) (l_to (to_alloc (z := (.agg #[.int .i64 0, .int .i64 0, .int .i64 0, .int .i64 0, .slice none 0 0, .slice none 0 0, .slice none 0 0, .slice none 0 0, .bool false, .int .i64 0, .int .i64 0, .slice none 0 0, .slice none 0 0, .bool false, .int .i64 0, .int .i64 0, .slice none 0 0, .slice none 0 0, .slice none 0 0, .int .i64 0])) (by unfold kZero; kernel_rfl) ?_))))
 rintro b33 w3 zb3 HB33 e3 z3
 have := e3.size
 try simp only [Value.cells] at HB33
 refine l_to (to_storeA (n := 20) rfl rfl (zvA rfl) zk rfl dj6 HB33 dj5 ?_)
 rintro w101 HX101 k101 z101
 have := k101.size
 replace HB33 := HX101
 clear HX101
 try simp only [zS, Nat.zero_add, Nat.reduceAdd, List.drop_nil] at HB33
 replace HB31 := ((HB31.ext e2).ext e3).keep k101 dj4
 refine l_v (zaB rfl) (l_nil (n_then (c_seq (wp_reg zd (l_v (zmB rfl) (l_v (zmB rfl) (l_g1 rfl rfl (fun hG => v_loadA zk rfl (by first | exact HB33.pv | exact HB31.pv | assumption) rfl) ?_)))))))
 refine l_g1 rfl rfl (fun hG => v_loadA zk rfl (by first | exact HB33.pv | exact HB31.pv | assumption) rfl) ?_
 replace HG1 := ((HG1.ext e2).ext e3).keep k101 dj1
 replace HG2 := (HG2.ext e3).keep k101 dj1
 refine l_g1f rfl rfl (fun hG => to_f2 zk (gd hG rfl) (gd hG rfl) (refCSame_c HG2 HG1)) ?_
 rintro w102 e102
 have := e102.size
 refine l_v (v_and rfl rfl) ?_
 refine l_v (zaB rfl) (l_nil (n_then (c_ret (ret1v rfl zq (zvB rfl) ?_))))
 replace E := ((((E.trans e1.keep).trans e2.keep).trans e3.keep).step k101 dj3).trans e102.keep
 refine ⟨?_, E⟩
 unfold mayCm; rw [← hnm]
end Go.Proofs.YtogafjlbpodgjaaGreat
