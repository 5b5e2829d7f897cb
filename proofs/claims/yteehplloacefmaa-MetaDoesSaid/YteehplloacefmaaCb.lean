/- A part of the proof: steps and lemmas for the walks through the given program. -/
import Derived.Test.YteehplloacefmaaCa
namespace Go.Proofs.Yteehplloacefmaa
open Go.Vc
set_option linter.unusedVariables false
set_option linter.unusedSimpArgs false
set_option maxRecDepth 100000

theorem mayIk_no {key val : List UInt8} {seq kind : Int} (h : ((((decide ((key.length : Int) < 1) || decide ((32 : Int) < key.length)) || decide (seq < 1)) || decide (2147483647 < seq)) || decide ((65536 : Int) < val.length)) = true) : mayIk (key, seq, kind, val) = false := by
  simp only [Bool.or_eq_true, decide_eq_true_eq] at h
  rw [Bool.eq_false_iff]; intro hm
  simp only [mayIk, Bool.and_eq_true, decide_eq_true_eq] at hm
  omega
theorem mayIk_go {key val : List UInt8} {seq kind : Int} (h : ((((decide ((key.length : Int) < 1) || decide ((32 : Int) < key.length)) || decide (seq < 1)) || decide (2147483647 < seq)) || decide ((65536 : Int) < val.length)) = false) :
    mayIk (key, seq, kind, val) = (decide (kind = 1) || (decide (kind = 2) && decide ((val.length : Int) = 0))) := by
  simp only [Bool.or_eq_false_iff, decide_eq_false_iff_not] at h
  have le : ∀ (l : List UInt8), l.isEmpty = decide ((l.length : Int) = 0) := fun l => by cases l <;> simp <;> omega
  simp only [mayIk, le]
  rw [decide_eq_true (show 1 ≤ key.length by omega), decide_eq_true (show key.length ≤ 32 by omega), decide_eq_true (show 1 ≤ seq by omega), decide_eq_true (show seq ≤ 2147483647 by omega), decide_eq_true (show val.length ≤ 65536 by omega)]
  simp
theorem iMay_c {w : World} {F : Nat → Prop} {v : Value} {a : IkV} (HG1 : AgV tIk w F v a) : CallsR Try.prog 91 #[v] w (fun o w' => o = .bool (mayIk a) ∧ Ext w w') := by
 obtain ⟨key, seq, kind, val⟩ := a
 obtain ⟨a1, c1, a2, c2, rfl, HS1, HS2, hi1, hi2⟩ := HG1.ik
 clear HG1
 simp only [] at HS1 HS2 hi1 hi2 ⊢
 refine enter 43 Try.func91 rfl rfl (by simp) ?_
 refine c_seq ?_
 have E := Keep.refl (K := NoK) w
 replace HS1 := HS1.all
 replace HS2 := HS2.all
 refine wp_reg zd (l_to (to_box (zvA rfl) ?_))
 rintro b1 w1 zb1 HB1 e1 z1
 have := e1.size
 try simp only [Value.cells] at HB1
 refine l_v (v_assign rfl) (l_nil (n_then (c_seq (c_seq (wp_reg zd (l_v (v_fieldAddr (off := 0) (ft := 33) zk rfl) (l_v (v_load zk rfl (by first | exact HB1.pv 0 _ rfl | assumption)) ?_)))))))
 refine l_v (v_len (et := 5) zk rfl) ?_
 refine l_v (v_lss rfl rfl) ?_
 refine l_v (zmB rfl) (l_g1 rfl rfl (fun hG => v_fieldAddr (off := 0) (ft := 33) zk rfl) ?_)
 refine l_g1 rfl rfl (fun hG => v_load zk (gd hG rfl) (by first | exact HB1.pv 0 _ rfl | assumption)) ?_
 refine l_g1 rfl rfl (fun hG => v_len (et := 5) zk (gd hG rfl)) ?_
 refine l_g1 rfl rfl (fun hG => v_gtr (gd hG rfl) rfl) ?_
 refine l_v (v_or rfl rfl) ?_
 refine l_v (zmB rfl) (l_g1 rfl rfl (fun hG => v_fieldAddr (off := 1) (ft := 2) zk rfl) ?_)
 refine l_g1 rfl rfl (fun hG => v_load zk (gd hG rfl) (by first | exact HB1.pv 1 _ rfl | assumption)) ?_
 refine l_g1 rfl rfl (fun hG => v_lss (gd hG rfl) rfl) ?_
 refine l_v (v_or rfl rfl) ?_
 refine l_v (zmB rfl) (l_g1 rfl rfl (fun hG => v_fieldAddr (off := 1) (ft := 2) zk rfl) ?_)
 refine l_g1 rfl rfl (fun hG => v_load zk (gd hG rfl) (by first | exact HB1.pv 1 _ rfl | assumption)) ?_
 refine l_g1 rfl rfl (fun hG => v_gtr (gd hG rfl) rfl) ?_
 refine l_v (v_or rfl rfl) ?_
 refine l_v (zmB rfl) (l_g1 rfl rfl (fun hG => v_fieldAddr (off := 3) (ft := 33) zk rfl) ?_)
 refine l_g1 rfl rfl (fun hG => v_load zk (gd hG rfl) (by first | exact HB1.pv 3 _ rfl | assumption)) ?_
 refine l_g1 rfl rfl (fun hG => v_len (et := 5) zk (gd hG rfl)) ?_
 refine l_g1 rfl rfl (fun hG => v_gtr (gd hG rfl) rfl) ?_
 refine l_v (v_or rfl rfl) ?_
 replace E := E.trans e1.keep
 replace HS1 := HS1.ext e1
 replace HS2 := HS2.ext e1
 refine l_nil (n_then (c_cond rfl rfl (fun hc => ?_) (fun hc => ?_)))
 ·
  refine c_seq (wp_reg zd (l_v (v_assign rfl) (l_nil (n_then (c_ret (r_then (ret1v rfl zq (zvB rfl) ?_)))))))
  exact ⟨by rw [mayIk_no hc], E⟩
 refine c_skip (n_then (c_seq (wp_reg zd (l_v (v_fieldAddr (off := 2) (ft := 108) zk rfl) (l_v (v_load zk rfl (by first | exact HB1.pv 2 _ rfl | assumption)) ?_)))))
 refine l_v (v_eql rfl rfl) ?_
 refine l_v (zmB rfl) (l_g1 rfl rfl (fun hG => v_fieldAddr (off := 2) (ft := 108) zk rfl) ?_)
 refine l_g1 rfl rfl (fun hG => v_load zk (gd hG rfl) (by first | exact HB1.pv 2 _ rfl | assumption)) ?_
 refine l_g1 rfl rfl (fun hG => v_eql (gd hG rfl) rfl) ?_
 refine l_g1 rfl rfl (fun hG => v_move (t := .bool _) (gd hG rfl)) ?_
 refine l_g2 rfl rfl (fun hG => v_fieldAddr (off := 3) (ft := 33) zk rfl) ?_
 refine l_g2 rfl rfl (fun hG => v_load zk (gd hG rfl) (by first | exact HB1.pv 3 _ rfl | assumption)) ?_
 refine l_g2 rfl rfl (fun hG => v_len (et := 5) zk (gd hG rfl)) ?_
 refine l_g2 rfl rfl (fun hG => v_eql (gd hG rfl) rfl) ?_
 refine l_g1 rfl rfl (fun hG => v_and (gd hG rfl) (gda hG rfl)) ?_
 refine l_v (v_or rfl rfl) ?_
 refine l_v (zaB rfl) (l_nil (n_then (c_ret (ret1v rfl zq (zvB rfl) ?_))))
 exact ⟨by rw [mayIk_go hc], E⟩
theorem iMay_b {w : World} {F : Nat → Prop} {v : Value} {a : IkV} {b : Bool} (HG1 : AgV tIk w F v a) (hb : mayIk a = b) : CallsR Try.prog 91 #[v] w (fun o w' => o = .bool b ∧ Ext w w') := by subst hb; exact iMay_c HG1
theorem CompareKeys_c {w : World} {F G : Nat → Prop} {v u : Value} {x y : List UInt8} (HS1 : Bv w F v x) (HS2 : Bv w G u y) : CallsR Try.prog 94 #[v, u] w (fun r w' => r = .int .i64 (cmpB x y) ∧ Ext w w') := by
  obtain ⟨a, c, rfl⟩ := HS1.shape
  obtain ⟨b, d, rfl⟩ := HS2.shape
  refine enter 8 Try.func94 rfl rfl (by simp) ?_
  refine c_seq ?_
  have E := Keep.refl (K := NoK) w
  replace HS1 := HS1.all
  replace HS2 := HS2.all
  refine wp_reg zd (l_v (v_assign rfl) (l_nil (n_then (c_seq (wp_reg zd (l_v (zmS rfl) (l_v (zmS rfl) (l_to (to_f2 zk (zvS rfl) (zvS rfl) (CallsR.mono (Compare_c HS1 HS2) ?_))))))))))
  rintro _ w101 ⟨rfl, e101⟩
  have := e101.size
  refine l_v (zaI rfl) (l_nil (n_then (c_ret (ret1v rfl zq (zvI rfl) ?_))))
  replace E := E.trans e101.keep
  exact ⟨rfl, E⟩
theorem isNaN_c {w : World} {n : Int} : CallsR Try.prog 96 #[.int .i64 n] w (fun r w' => r = .bool false ∧ Ext w w') := by
  refine enter 6 Try.func96 rfl rfl (by simp) ?_
  refine c_seq ?_
  have E := Keep.refl (K := NoK) w
  refine wp_reg zd (l_v (v_assign rfl) (l_nil (n_then (c_seq (wp_reg zd (l_v (zmI rfl) (l_v (zmI rfl) (l_v (v_neq rfl rfl) ?_))))))))
  refine l_v (zaB rfl) (l_nil (n_then (c_ret (ret1v rfl zq (zvB rfl) ?_))))
  refine ⟨?_, E⟩
  simp
def cmpI (a b : Int) : Int := if a < b then -1 else if b < a then 1 else 0
theorem cmpCompare_c {w : World} {n m : Int} : CallsR Try.prog 95 #[.int .i64 n, .int .i64 m] w (fun r w' => r = .int .i64 (cmpI n m) ∧ Ext w w') := by
 refine enter 20 Try.func95 rfl rfl (by simp) ?_
 refine c_seq ?_
 have E := Keep.refl (K := NoK) w
 refine wp_reg zd (l_v (v_assign rfl) (l_nil (n_then (c_seq (wp_reg zd (l_v (zmI rfl) (l_to (to_f1 zk (zvI rfl) (CallsR.mono (isNaN_c) ?_)))))))))
 rintro _ w101 ⟨rfl, e101⟩
 have := e101.size
 refine l_v (zaB rfl) (l_nil (n_then (c_seq (wp_reg zd (l_v (zmI rfl) (l_to (to_f1 zk (zvI rfl) (CallsR.mono (isNaN_c) ?_))))))))
 rintro _ w102 ⟨rfl, e102⟩
 have := e102.size
 replace E := (E.trans e101.keep).trans e102.keep
 refine l_v (zaB rfl) (l_nil (n_then (c_seq (c_seq (wp_reg zd (l_v (zmB rfl) (l_nil (n_then (c_cond rfl rfl (fun h1 => ?_) (fun h1 => ?_))))))))))
 ·
  cases h1
 refine c_skip (n_then (c_seq (c_seq (wp_reg zd (l_v (zmB rfl) (l_nil (n_then (c_cond rfl rfl (fun h2 => ?_) (fun h2 => ?_)))))))))
 ·
  cases h2
 refine c_skip (n_then (c_seq (c_seq (wp_reg zd (l_v (zmI rfl) (l_v (zmI rfl) (l_v (v_lss rfl rfl) ?_)))))))
 refine l_nil (n_then (c_cond rfl rfl (fun h3 => ?_) (fun h3 => ?_)))
 ·
  refine c_seq (wp_reg zd (l_v (v_assign rfl) (l_nil (n_then (c_ret (r_then (ret1v rfl zq (zvI rfl) ?_)))))))
  exact ⟨by rw [cmpI, if_pos (dtrue h3)], E⟩
 refine c_skip (n_then (c_seq (c_seq (wp_reg zd (l_v (zmI rfl) (l_v (zmI rfl) (l_v (v_gtr rfl rfl) ?_)))))))
 refine l_nil (n_then (c_cond rfl rfl (fun h4 => ?_) (fun h4 => ?_)))
 ·
  refine c_seq (wp_reg zd (l_v (v_assign rfl) (l_nil (n_then (c_ret (r_then (ret1v rfl zq (zvI rfl) ?_)))))))
  exact ⟨by rw [cmpI, if_neg (dfalse h3), if_pos (dtrue h4)], E⟩
 refine c_skip (n_then (c_seq (wp_reg zd (l_v (v_assign rfl) (l_nil (n_then (c_ret (ret1v rfl zq (zvI rfl) ?_))))))))
 exact ⟨by rw [cmpI, if_neg (dfalse h3), if_neg (dfalse h4)], E⟩
def orL : List Int → Int
  | [] => 0
  | x :: l => if x = 0 then orL l else x
theorem Or_c {w : World} {F : Nat → Prop} {v : Value} {xs : List Int} (HS1 : SlV (tInt .i64) w F v xs) : CallsR Try.prog 93 #[v] w (fun r w' => r = .int .i64 (orL xs) ∧ Ext w w') := by
 obtain ⟨a, c, rfl⟩ := HS1.shape
 have hmx := HS1.len_max
 refine enter 18 Try.func93 rfl rfl (by simp) ?_
 refine c_seq ?_
 have E := Keep.refl (K := NoK) w
 replace HS1 := HS1.all
 refine wp_reg zd (l_v (v_assign rfl) (l_nil (n_then (c_seq (wp_reg zd (l_v (v_assign rfl) (l_nil (n_then (c_seq ?_)))))))))
 refine c_seq (wp_reg zd (l_v (zmS rfl) (l_v (v_len (et := 3) zk rfl) ?_)))
 refine l_v (v_move rfl) (l_nil (n_then (c_block (c_loop (τ := Nat) [2, 5, 8, 9, 10, 11, 12, 13, 14, 15, 16] (fun i => [(8, .int .i64 i)]) (fun i W => Ext w W ∧ Keep (NoK) w W ∧ i ≤ xs.length ∧ orL xs = orL (xs.drop i)) (fun i => xs.length - i) 0 (by exact ⟨rfl, trivial⟩) (by exact ⟨E, Keep.refl _, Nat.zero_le _, rfl⟩) ?_))))
 rintro i w101 j ⟨E, EL1, h1, h2⟩
 have := EL1.size
 refine c_seq (wp_reg zd (l_v (v_lss rfl rfl) ?_))
 replace HS1 := HS1.ext EL1
 refine l_nil (n_then (c_seq (c_cond rfl rfl (fun hlt => ?_) (fun hlt => ?_))))
 ·
  have hlt := dtrue hlt
  obtain ⟨x, hx, hdr⟩ := getE (l := xs) (i := i) zo
  obtain ⟨q, cs, hq, hF, _, HPq, hr⟩ := HS1.el hx
  subst hq
  obtain ⟨rfl, _⟩ := hr
  refine c_skip (n_then (c_seq (c_block (c_seq (wp_reg zd (l_v (v_indexAddr (et := 3) (sz := 1) (k := i) zk zk rfl rfl (by first | rfl | omega) zo) ?_))))))
  refine l_v (v_load zk rfl (by first | exact pv_1 HPq | assumption)) ?_
  refine l_v (zaI rfl) (l_nil (n_then (c_seq (wp_reg zd (l_v (zmI rfl) (l_v (zmI rfl) (l_v (v_neq rfl rfl) ?_)))))))
  refine l_nil (n_then (c_cond rfl rfl (fun hn => ?_) (fun hn => ?_)))
  ·
   refine c_seq (wp_reg zd (l_v (zmI rfl) (l_v (zaI rfl) (l_nil (n_then (c_ret (r_blk (r_then (r_then ?_)))))))))
   refine r_blk (r_then (ret1v rfl zq (zvI rfl) ?_))
   refine ⟨?_, E⟩
   rw [h2, hdr, orL, if_neg (by simpa using hn)]
  refine c_skip (n_blk (n_then (wp_reg zd (l_v (v_add rfl rfl (by first | exact wr_i64 zo zo | rfl)) ?_))))
  refine l_v (zmI rfl) (l_nil (n_then (⟨i + 1, _, rfl, by (repeat (first | exact Off.of_over _ _ _ | refine Off.upd ?_ zq _ | refine Off.overs ?_ zq _)), ⟨by first | rfl | exact congrArg (Value.int _) zo | (simp; done), trivial⟩, ⟨E, EL1, ?_⟩, ?_⟩)))
  ·
   refine ⟨by omega, ?_⟩
   rw [h2, hdr, orL, if_pos (by simpa using hn)]
  (dsimp only; omega)
 refine c_exit (x_then (x_then (x_hit (n_then (c_seq (wp_reg zd (l_v (zmI rfl) (l_v (zaI rfl) (l_nil ?_)))))))))
 refine n_then (c_ret (ret1v rfl zq (zvI rfl) ?_))
 refine ⟨?_, E⟩
 rw [h2, List.drop_eq_nil_of_le (by have := dfalse hlt; omega)]; rfl
theorem or_cmp (a b : IkV) : orL [cmpB a.1 b.1, cmpI b.2.1 a.2.1] = cmpIk a b := by
  simp only [orL, cmpI, cmpIk]
  by_cases h1 : b.2.1 < a.2.1 <;> by_cases h2 : a.2.1 < b.2.1 <;> simp [h1, h2]
theorem iCompare_c {w : World} {F G : Nat → Prop} {v u : Value} {a b : IkV} (HG1 : AgV tIk w F v a) (HG2 : AgV tIk w G u b) : CallsR Try.prog 92 #[v, u] w (fun o w' => o = .int .i64 (cmpIk a b) ∧ Ext w w') := by
 obtain ⟨a1, c1, a2, c2, rfl, HS1, HS2, hi1, hi2⟩ := HG1.ik
 obtain ⟨a3, c3, a4, c4, rfl, HS3, HS4, hi3, hi4⟩ := HG2.ik
 clear HG1 HG2
 have hc1 : (Lit.int .i64 (cmpB a.1 b.1)).wf = true := by unfold cmpB; split <;> (try split) <;> decide
 have hc2 : (Lit.int .i64 (cmpI b.2.1 a.2.1)).wf = true := by unfold cmpI; split <;> (try split) <;> decide
 refine enter 17 Try.func92 rfl rfl (by simp) ?_
 refine c_seq ?_
 have E := Keep.refl (K := NoK) w
 replace HS1 := HS1.all
 replace HS3 := HS3.all
 refine wp_reg zd (l_to (to_box (zvA rfl) ?_))
 rintro b1 w1 zb1 HB1 e1 z1
 have := e1.size
 try simp only [Value.cells] at HB1
 refine l_to (to_box (zvA rfl) ?_)
 rintro b2 w2 zb2 HB2 e2 z2
 have := e2.size
 try simp only [Value.cells] at HB2
 refine l_v (v_assign rfl) (l_nil (n_then (c_seq (wp_any zk ?_))))
 have e101 : Ext w2 { w2 with drawn := w2.drawn + 1 } := Keep.drawn _ _
 generalize hw101 : ({ w2 with drawn := w2.drawn + 1 } : World) = w101 at e101 ⊢
 clear hw101
 have := e101.size
 refine r_cut 9 rfl zd zd zd ?_
 refine wp_regdW (NoK) zd zd ?_
 refine rt_v (fun vals w hR hd => v_fieldAddr (off := 0) (ft := 33) zk rfl) ?_
 replace HB1 := (HB1.ext e2).ext e101
 replace HB2 := HB2.ext e101
 refine rt_v (fun vals w hR hd => v_load zk (hd 0 rfl) (by first | exact (HB2.ext hR).pv 0 _ rfl | exact (HB1.ext hR).pv 0 _ rfl | assumption)) ?_
 refine rt_v (fun vals w hR hd => v_fieldAddr (off := 0) (ft := 33) zk rfl) ?_
 refine rt_v (fun vals w hR hd => v_load zk (hd 2 rfl) (by first | exact (HB2.ext hR).pv 0 _ rfl | exact (HB1.ext hR).pv 0 _ rfl | assumption)) ?_
 replace HS1 := ((HS1.ext e1).ext e2).ext e101
 replace HS3 := ((HS3.ext e1).ext e2).ext e101
 refine rt_vf (fun vals w hR hd => to_f2 zk (hd 1 rfl) (hd 3 rfl) (CompareKeys_c (HS1.ext hR) (HS3.ext hR))) ?_
 refine rt_v (fun vals w hR hd => v_fieldAddr (off := 1) (ft := 2) zk rfl) ?_
 refine rt_v (fun vals w hR hd => v_load zk (hd 5 rfl) (by first | exact (HB2.ext hR).pv 1 _ rfl | exact (HB1.ext hR).pv 1 _ rfl | assumption)) ?_
 refine rt_v (fun vals w hR hd => v_fieldAddr (off := 1) (ft := 2) zk rfl) ?_
 refine rt_v (fun vals w hR hd => v_load zk (hd 7 rfl) (by first | exact (HB2.ext hR).pv 1 _ rfl | exact (HB1.ext hR).pv 1 _ rfl | assumption)) ?_
 refine rt_nil (fun w102 e102 => ?_)
 rintro _ rfl _ rfl _ rfl _ rfl _ rfl _ rfl _ rfl _ rfl _ rfl
 have := e102.size
 refine fin_nil (n_then (r_cut 1 rfl zd zd zd ?_))
 refine r_one zd rfl ?_
 refine l_to (to_f2 zk (zvI rfl) (zvI rfl) (CallsR.mono (cmpCompare_c) ?_))
 rintro _ w103 ⟨rfl, e103⟩
 have := e103.size
 refine l_nil (n_then (r_cut 1 rfl zd zd zd ?_))
 refine r_one zd rfl ?_
 refine l_to (to_sliceN (t := tInt .i64) (xs := [cmpB a.1 b.1, cmpI b.2.1 a.2.1]) (et := 3) (bytes := 8) (zl := [.int .i64 0, .int .i64 0]) zk zq zq (by unfold kZeros; kernel_rfl) rfl (cells := [_, _]) rfl rfl rfl ((reps2 (t := tInt .i64) (F := NoK) (c1 := [_]) (c2 := [_]) ⟨rfl, hc1⟩ ⟨rfl, hc2⟩)) ?_)
 rintro b10 w10 zb10 HO10 e10 z10
 have := e10.size
 have zo_HO10 := fun (b : Nat) h => HO10.own_lt (b := b) h
 refine l_nil (n_then (r_cut 1 rfl zd zd zd ?_))
 refine r_one zd rfl ?_
 refine l_to (to_f1 zk (zvS rfl) (CallsR.mono (Or_c HO10.view) ?_))
 rintro _ w104 ⟨rfl, e104⟩
 have := e104.size
 refine l_nil (n_then (r_one zd rfl ?_))
 refine l_v (zaI rfl) (l_nil (n_then (c_ret (ret1v rfl zq (zvI rfl) ?_))))
 replace E := ((((((E.trans e1.keep).trans e2.keep).trans e101.keep).trans e102.keep).trans e103.keep).trans e10.keep).trans e104.keep
 exact ⟨by rw [or_cmp], E⟩
theorem behind_c {w : World} {F G : Nat → Prop} {v u : Value} {l : List IkV} {e : IkV} (HS1 : SlV tIk w F v l) (HG2 : AgV tIk w G u e) : CallsR Try.prog 90 #[v, u] w (fun o w' => o = .bool (bhdI l e) ∧ Ext w w') := by
 obtain ⟨a, c, rfl⟩ := HS1.shape
 have hmx := HS1.len_max
 obtain ⟨cs2, rfl, hr2⟩ := HG2
 obtain ⟨a1, c1, a2, c2, rfl, _⟩ := tIk_cells hr2
 have HG2 : AgV tIk w G _ e := ⟨_, rfl, hr2⟩
 by_cases hm : mayIk e = true
 ·
  cases hg : l.getLast? with
  | none =>
   have hl : l = [] := by simpa using hg
   refine enter 23 Try.func90 rfl rfl (by simp) ?_
   refine c_seq ?_
   have E := Keep.refl (K := NoK) w
   replace HS1 := HS1.all
   replace HG2 := HG2.all
   refine wp_reg zd (l_to (to_box (zvA rfl) ?_))
   rintro b1 w1 zb1 HB1 e1 z1
   have := e1.size
   try simp only [Value.cells] at HB1
   refine l_v (v_assign rfl) (l_nil (n_then (c_seq (wp_regd (NoK) zk zd zd ?_))))
   refine rt_v (fun vals w hR hd => v_loadA zk rfl (by first | exact (HB1.ext hR).pv | assumption) rfl) ?_
   replace HG2 := HG2.ext e1
   refine rt_vf (fun vals w hR hd => to_f1 zk (hd 0 rfl) (iMay_b (HG2.ext hR) hm)) ?_
   refine rt_v (fun vals w hR hd => v_move (t := .bool _) (hd 1 rfl)) ?_
   refine rt_hv rfl (fun vals w hd => hd 2 rfl) (fun vals w hR hd => zmS rfl) ?_
   refine rt_hv rfl (fun vals w hd => hd 2 rfl) (fun vals w hR hd => v_len (et := 110) zk (hd 3 rfl)) ?_
   refine rt_hv rfl (fun vals w hd => hd 2 rfl) (fun vals w hR hd => OpVat.as (b := true) (v_eql (hd 4 rfl) rfl) (by subst hl; rfl)) ?_
   refine rt_hv rfl (fun vals w hd => hd 2 rfl) (fun vals w hR hd => v_move (t := .bool _) (hd 5 rfl)) ?_
   refine rt_skip (u := .bool true) rfl (fun vals w hd => hd 6 rfl) rfl ?_
   refine rt_skip (u := .bool true) rfl (fun vals w hd => hd 6 rfl) rfl ?_
   refine rt_skip (u := .bool true) rfl (fun vals w hd => hd 6 rfl) rfl ?_
   refine rt_skip (u := .bool true) rfl (fun vals w hd => hd 6 rfl) rfl ?_
   refine rt_skip (u := .bool true) rfl (fun vals w hd => hd 6 rfl) rfl ?_
   refine rt_skip (u := .bool true) rfl (fun vals w hd => hd 6 rfl) rfl ?_
   refine rt_skip (u := .bool true) rfl (fun vals w hd => hd 6 rfl) rfl ?_
   refine rt_skip (u := .bool true) rfl (fun vals w hd => hd 6 rfl) rfl ?_
   refine rt_skip (u := .bool true) rfl (fun vals w hd => hd 6 rfl) rfl ?_
   refine rt_hv rfl (fun vals w hd => hd 2 rfl) (fun vals w hR hd => v_orC (hd 6 rfl)) ?_
   refine rt_v (fun vals w hR hd => v_andT (hd 2 rfl) (hd 16 rfl)) ?_
   refine rt_v (fun vals w hR hd => v_assign (t := .bool _) (hd 17 rfl)) ?_
   refine rt_nil (fun w101 e101 => ?_)
   rintro _ rfl _ rfl _ rfl _ rfl _ rfl _ rfl _ rfl _ rfl _ rfl _ rfl _ rfl _ rfl _ rfl _ rfl _ rfl _ rfl _ rfl _ rfl _ rfl
   have := e101.size
   refine fin_nil (n_then (c_ret (ret1v rfl zq (zvB rfl) ?_)))
   replace E := (E.trans e1.keep).trans e101.keep
   refine ⟨?_, E⟩
   replace HS1 := (HS1.ext e1).ext e101
   replace HG2 := HG2.ext e101
   replace HB1 := HB1.ext e101
   rw [bhdI, hg, hm]; subst hl; rfl
  | some d =>
   have hlt : 0 < l.length := by cases l with | nil => cases hg | cons => simp
   have hx : l[l.length - 1]? = some d := by rw [← hg, List.getLast?_eq_getElem?]
   obtain ⟨q, cs, rfl, hF, _, HPq, hr⟩ := HS1.el hx
   obtain ⟨a3, c3, a4, c4, rfl, _⟩ := tIk_cells hr
   have HG3 : AgV tIk w F _ d := ⟨_, rfl, hr⟩
   refine enter 23 Try.func90 rfl rfl (by simp) ?_
   refine c_seq ?_
   have E := Keep.refl (K := NoK) w
   replace HS1 := HS1.all
   replace HG2 := HG2.all
   replace HG3 := HG3.all
   refine wp_reg zd (l_to (to_box (zvA rfl) ?_))
   rintro b1 w1 zb1 HB1 e1 z1
   have := e1.size
   try simp only [Value.cells] at HB1
   refine l_v (v_assign rfl) (l_nil (n_then ?_))
   replace E := E.trans e1.keep
   replace HS1 := HS1.ext e1
   replace HG2 := HG2.ext e1
   replace HG3 := HG3.ext e1
   replace HPq := HPq.ext e1
   by_cases hq : cmpIk d e < 0
   ·
    refine c_seq (wp_regd (NoK) zk zd zd ?_)
    refine rt_v (fun vals w hR hd => v_loadA zk rfl (by first | exact (HB1.ext hR).pv | exact (HPq.ext hR) | assumption) rfl) ?_
    refine rt_vf (fun vals w hR hd => to_f1 zk (hd 0 rfl) (iMay_b (HG2.ext hR) hm)) ?_
    refine rt_v (fun vals w hR hd => v_move (t := .bool _) (hd 1 rfl)) ?_
    refine rt_hv rfl (fun vals w hd => hd 2 rfl) (fun vals w hR hd => zmS rfl) ?_
    refine rt_hv rfl (fun vals w hd => hd 2 rfl) (fun vals w hR hd => v_len (et := 110) zk (hd 3 rfl)) ?_
    refine rt_hv rfl (fun vals w hd => hd 2 rfl) (fun vals w hR hd => OpVat.as (b := false) (v_eql (hd 4 rfl) rfl) (by rw [decide_eq_false_iff_not]; omega)) ?_
    refine rt_hv rfl (fun vals w hd => hd 2 rfl) (fun vals w hR hd => v_move (t := .bool _) (hd 5 rfl)) ?_
    refine rt_hv rfl (fun vals w hd => hd 6 rfl) (fun vals w hR hd => zmS rfl) ?_
    refine rt_hv rfl (fun vals w hd => hd 6 rfl) (fun vals w hR hd => zmS rfl) ?_
    refine rt_hv rfl (fun vals w hd => hd 6 rfl) (fun vals w hR hd => v_len (et := 110) zk (hd 8 rfl)) ?_
    refine rt_hv rfl (fun vals w hd => hd 6 rfl) (fun vals w hR hd => v_sub (hd 9 rfl) rfl (by first | exact wr_i64 zo zo | rfl)) ?_
    refine rt_hv rfl (fun vals w hd => hd 6 rfl) (fun vals w hR hd => v_indexAddr (et := 110) (sz := 4) (k := l.length - 1) zk zk (hd 7 rfl) (hd 10 rfl) (by first | rfl | omega) zo) ?_
    refine rt_hv rfl (fun vals w hd => hd 6 rfl) (fun vals w hR hd => v_loadA zk (hd 11 rfl) (by first | exact (HB1.ext hR).pv | exact (HPq.ext hR) | assumption) rfl) ?_
    refine rt_hv rfl (fun vals w hd => hd 6 rfl) (fun vals w hR hd => v_loadA zk rfl (by first | exact (HB1.ext hR).pv | exact (HPq.ext hR) | assumption) rfl) ?_
    refine rt_hvf rfl (fun vals w hd => hd 6 rfl) (fun vals w hR hd => to_f2 zk (hd 12 rfl) (hd 13 rfl) (iCompare_c (HG3.ext hR) (HG2.ext hR))) ?_
    refine rt_hv rfl (fun vals w hd => hd 6 rfl) (fun vals w hR hd => OpVat.as (b := true) (v_lss (hd 14 rfl) rfl) (decide_eq_true hq)) ?_
    refine rt_hv rfl (fun vals w hd => hd 2 rfl) (fun vals w hR hd => v_orT (hd 6 rfl) (hd 15 rfl)) ?_
    refine rt_v (fun vals w hR hd => v_andT (hd 2 rfl) (hd 16 rfl)) ?_
    refine rt_v (fun vals w hR hd => v_assign (t := .bool _) (hd 17 rfl)) ?_
    refine rt_nil (fun w101 e101 => ?_)
    rintro _ rfl _ rfl _ rfl _ rfl _ rfl _ rfl _ rfl _ rfl _ rfl _ rfl _ rfl _ rfl _ rfl _ rfl _ rfl _ rfl _ rfl _ rfl _ rfl
    have := e101.size
    refine fin_nil (n_then (c_ret (ret1v rfl zq (zvB rfl) ?_)))
    replace E := E.trans e101.keep
    refine ⟨?_, E⟩
    rw [bhdI, hg, hm]
    simp only [Bool.true_and]
    rw [cmpIk_lt.1 hq]
   refine c_seq (wp_regd (NoK) zk zd zd ?_)
   refine rt_v (fun vals w hR hd => v_loadA zk rfl (by first | exact (HB1.ext hR).pv | exact (HPq.ext hR) | assumption) rfl) ?_
   refine rt_vf (fun vals w hR hd => to_f1 zk (hd 0 rfl) (iMay_b (HG2.ext hR) hm)) ?_
   refine rt_v (fun vals w hR hd => v_move (t := .bool _) (hd 1 rfl)) ?_
   refine rt_hv rfl (fun vals w hd => hd 2 rfl) (fun vals w hR hd => zmS rfl) ?_
   refine rt_hv rfl (fun vals w hd => hd 2 rfl) (fun vals w hR hd => v_len (et := 110) zk (hd 3 rfl)) ?_
   refine rt_hv rfl (fun vals w hd => hd 2 rfl) (fun vals w hR hd => OpVat.as (b := false) (v_eql (hd 4 rfl) rfl) (by rw [decide_eq_false_iff_not]; omega)) ?_
   refine rt_hv rfl (fun vals w hd => hd 2 rfl) (fun vals w hR hd => v_move (t := .bool _) (hd 5 rfl)) ?_
   refine rt_hv rfl (fun vals w hd => hd 6 rfl) (fun vals w hR hd => zmS rfl) ?_
   refine rt_hv rfl (fun vals w hd => hd 6 rfl) (fun vals w hR hd => zmS rfl) ?_
   refine rt_hv rfl (fun vals w hd => hd 6 rfl) (fun vals w hR hd => v_len (et := 110) zk (hd 8 rfl)) ?_
   refine rt_hv rfl (fun vals w hd => hd 6 rfl) (fun vals w hR hd => v_sub (hd 9 rfl) rfl (by first | exact wr_i64 zo zo | rfl)) ?_
   refine rt_hv rfl (fun vals w hd => hd 6 rfl) (fun vals w hR hd => v_indexAddr (et := 110) (sz := 4) (k := l.length - 1) zk zk (hd 7 rfl) (hd 10 rfl) (by first | rfl | omega) zo) ?_
   refine rt_hv rfl (fun vals w hd => hd 6 rfl) (fun vals w hR hd => v_loadA zk (hd 11 rfl) (by first | exact (HB1.ext hR).pv | exact (HPq.ext hR) | assumption) rfl) ?_
   refine rt_hv rfl (fun vals w hd => hd 6 rfl) (fun vals w hR hd => v_loadA zk rfl (by first | exact (HB1.ext hR).pv | exact (HPq.ext hR) | assumption) rfl) ?_
   refine rt_hvf rfl (fun vals w hd => hd 6 rfl) (fun vals w hR hd => to_f2 zk (hd 12 rfl) (hd 13 rfl) (iCompare_c (HG3.ext hR) (HG2.ext hR))) ?_
   refine rt_hv rfl (fun vals w hd => hd 6 rfl) (fun vals w hR hd => OpVat.as (b := false) (v_lss (hd 14 rfl) rfl) (decide_eq_false hq)) ?_
   refine rt_hv rfl (fun vals w hd => hd 2 rfl) (fun vals w hR hd => v_orT (hd 6 rfl) (hd 15 rfl)) ?_
   refine rt_v (fun vals w hR hd => v_andT (hd 2 rfl) (hd 16 rfl)) ?_
   refine rt_v (fun vals w hR hd => v_assign (t := .bool _) (hd 17 rfl)) ?_
   refine rt_nil (fun w102 e102 => ?_)
   rintro _ rfl _ rfl _ rfl _ rfl _ rfl _ rfl _ rfl _ rfl _ rfl _ rfl _ rfl _ rfl _ rfl _ rfl _ rfl _ rfl _ rfl _ rfl _ rfl
   have := e102.size
   refine fin_nil (n_then (c_ret (ret1v rfl zq (zvB rfl) ?_)))
   replace E := E.trans e102.keep
   refine ⟨?_, E⟩
   rw [bhdI, hg, hm]
   simp only [Bool.true_and]
   rw [cmpIk_ge.1 zo]
 refine enter 23 Try.func90 rfl rfl (by simp) ?_
 refine c_seq ?_
 have E := Keep.refl (K := NoK) w
 replace HS1 := HS1.all
 replace HG2 := HG2.all
 refine wp_reg zd (l_to (to_box (zvA rfl) ?_))
 rintro b1 w1 zb1 HB1 e1 z1
 have := e1.size
 try simp only [Value.cells] at HB1
 refine l_v (v_assign rfl) (l_nil (n_then (c_seq (wp_regd (NoK) zk zd zd ?_))))
 refine rt_v (fun vals w hR hd => v_loadA zk rfl (by first | exact (HB1.ext hR).pv | assumption) rfl) ?_
 replace HG2 := HG2.ext e1
 refine rt_vf (fun vals w hR hd => to_f1 zk (hd 0 rfl) (iMay_b (HG2.ext hR) (Bool.eq_false_iff.2 hm))) ?_
 refine rt_v (fun vals w hR hd => v_move (t := .bool _) (hd 1 rfl)) ?_
 refine rt_skip (u := .bool false) rfl (fun vals w hd => hd 2 rfl) rfl ?_
 refine rt_skip (u := .bool false) rfl (fun vals w hd => hd 2 rfl) rfl ?_
 refine rt_skip (u := .bool false) rfl (fun vals w hd => hd 2 rfl) rfl ?_
 refine rt_skip (u := .bool false) rfl (fun vals w hd => hd 2 rfl) rfl ?_
 refine rt_skip (u := undef) rfl (fun vals w hd => hd 6 rfl) rfl ?_
 refine rt_skip (u := undef) rfl (fun vals w hd => hd 6 rfl) rfl ?_
 refine rt_skip (u := undef) rfl (fun vals w hd => hd 6 rfl) rfl ?_
 refine rt_skip (u := undef) rfl (fun vals w hd => hd 6 rfl) rfl ?_
 refine rt_skip (u := undef) rfl (fun vals w hd => hd 6 rfl) rfl ?_
 refine rt_skip (u := undef) rfl (fun vals w hd => hd 6 rfl) rfl ?_
 refine rt_skip (u := undef) rfl (fun vals w hd => hd 6 rfl) rfl ?_
 refine rt_skip (u := undef) rfl (fun vals w hd => hd 6 rfl) rfl ?_
 refine rt_skip (u := undef) rfl (fun vals w hd => hd 6 rfl) rfl ?_
 refine rt_skip (u := .bool false) rfl (fun vals w hd => hd 2 rfl) rfl ?_
 refine rt_v (fun vals w hR hd => v_andC (hd 2 rfl)) ?_
 refine rt_v (fun vals w hR hd => v_assign (t := .bool _) (hd 17 rfl)) ?_
 refine rt_nil (fun w101 e101 => ?_)
 rintro _ rfl _ rfl _ rfl _ rfl _ rfl _ rfl _ rfl _ rfl _ rfl _ rfl _ rfl _ rfl _ rfl _ rfl _ rfl _ rfl _ rfl _ rfl _ rfl
 have := e101.size
 refine fin_nil (n_then (c_ret (ret1v rfl zq (zvB rfl) ?_)))
 replace E := (E.trans e1.keep).trans e101.keep
 refine ⟨?_, E⟩
 rw [bhdI, Bool.eq_false_iff.2 hm]; rfl
theorem ik_eq {x x' y y' : List UInt8} {n n' k k' : Int} : decide ((x, n, k, y) = ((x', n', k', y') : IkV)) = (decide (x = x') && decide (n = n') && decide (k = k') && decide (y = y')) := by
  rw [Bool.eq_iff_iff]; simp [and_assoc]
theorem iSame_c {w : World} {F G : Nat → Prop} {v u : Value} {a b : IkV} (HG1 : AgV tIk w F v a) (HG2 : AgV tIk w G u b) : CallsR Try.prog 75 #[v, u] w (fun o w' => o = .bool (decide (a = b)) ∧ Ext w w') := by
 obtain ⟨a1, c1, a2, c2, rfl, HS1, HS2, hi1, hi2⟩ := HG1.ik
 obtain ⟨a3, c3, a4, c4, rfl, HS3, HS4, hi3, hi4⟩ := HG2.ik
 obtain ⟨x, n, k, y⟩ := a
 obtain ⟨x', n', k', y'⟩ := b
 clear HG1 HG2
 refine enter 31 Try.func75 rfl rfl (by simp) ?_
 refine c_seq ?_
 have E := Keep.refl (K := NoK) w
 replace HS1 := HS1.all
 replace HS2 := HS2.all
 replace HS3 := HS3.all
 replace HS4 := HS4.all
 refine wp_reg zd (l_to (to_box (zvA rfl) ?_))
 rintro b1 w1 zb1 HB1 e1 z1
 have := e1.size
 try simp only [Value.cells] at HB1
 refine l_to (to_box (zvA rfl) ?_)
 rintro b2 w2 zb2 HB2 e2 z2
 have := e2.size
 try simp only [Value.cells] at HB2
 replace HB1 := HB1.ext e2
 refine l_v (v_assign rfl) (l_nil (n_then (c_seq (wp_reg zd (l_v (v_fieldAddr (off := 0) (ft := 33) zk rfl) (l_v (v_load zk rfl (by first | exact HB2.pv 0 _ rfl | exact HB1.pv 0 _ rfl | assumption)) ?_))))))
 refine l_v (v_fieldAddr (off := 0) (ft := 33) zk rfl) (l_v (v_load zk rfl (by first | exact HB2.pv 0 _ rfl | exact HB1.pv 0 _ rfl | assumption)) ?_)
 replace HS1 := (HS1.ext e1).ext e2
 replace HS3 := (HS3.ext e1).ext e2
 refine l_to (to_f2 zk (zvS rfl) (zvS rfl) (CallsR.mono (Equal_c HS1 HS3) ?_))
 rintro _ w101 ⟨rfl, e101⟩
 have := e101.size
 refine l_v (zmB rfl) (l_g1 rfl rfl (fun hG => v_fieldAddr (off := 1) (ft := 2) zk rfl) ?_)
 replace HB1 := HB1.ext e101
 replace HB2 := HB2.ext e101
 refine l_g1 rfl rfl (fun hG => v_load zk (gd hG rfl) (by first | exact HB2.pv 1 _ rfl | exact HB1.pv 1 _ rfl | assumption)) ?_
 refine l_g1 rfl rfl (fun hG => v_fieldAddr (off := 1) (ft := 2) zk rfl) ?_
 refine l_g1 rfl rfl (fun hG => v_load zk (gd hG rfl) (by first | exact HB2.pv 1 _ rfl | exact HB1.pv 1 _ rfl | assumption)) ?_
 refine l_g1 rfl rfl (fun hG => v_eql (gd hG rfl) (gd hG rfl)) ?_
 refine l_v (v_and rfl rfl) ?_
 refine l_v (zmB rfl) (l_g1 rfl rfl (fun hG => v_fieldAddr (off := 2) (ft := 108) zk rfl) ?_)
 refine l_g1 rfl rfl (fun hG => v_load zk (gd hG rfl) (by first | exact HB2.pv 2 _ rfl | exact HB1.pv 2 _ rfl | assumption)) ?_
 refine l_g1 rfl rfl (fun hG => v_fieldAddr (off := 2) (ft := 108) zk rfl) ?_
 refine l_g1 rfl rfl (fun hG => v_load zk (gd hG rfl) (by first | exact HB2.pv 2 _ rfl | exact HB1.pv 2 _ rfl | assumption)) ?_
 refine l_g1 rfl rfl (fun hG => v_eql (gd hG rfl) (gd hG rfl)) ?_
 refine l_v (v_and rfl rfl) ?_
 refine l_v (zmB rfl) (l_g1 rfl rfl (fun hG => v_fieldAddr (off := 3) (ft := 33) zk rfl) ?_)
 refine l_g1 rfl rfl (fun hG => v_load zk (gd hG rfl) (by first | exact HB2.pv 3 _ rfl | exact HB1.pv 3 _ rfl | assumption)) ?_
 refine l_g1 rfl rfl (fun hG => v_fieldAddr (off := 3) (ft := 33) zk rfl) ?_
 refine l_g1 rfl rfl (fun hG => v_load zk (gd hG rfl) (by first | exact HB2.pv 3 _ rfl | exact HB1.pv 3 _ rfl | assumption)) ?_
 replace HS2 := ((HS2.ext e1).ext e2).ext e101
 replace HS4 := ((HS4.ext e1).ext e2).ext e101
 refine l_g1f rfl rfl (fun hG => to_f2 zk (gd hG rfl) (gd hG rfl) (Equal_c HS2 HS4)) ?_
 rintro w102 e102
 have := e102.size
 refine l_v (v_and rfl rfl) ?_
 refine l_v (zaB rfl) (l_nil (n_then (c_ret (ret1v rfl zq (zvB rfl) ?_))))
 replace E := (((E.trans e1.keep).trans e2.keep).trans e101.keep).trans e102.keep
 refine ⟨?_, E⟩
 rw [ik_eq]
end Go.Proofs.Yteehplloacefmaa

namespace Go.Proofs.Yteehplloacefmaa
open Go.Vc
set_option linter.unusedVariables false
set_option linter.unusedSimpArgs false
set_option maxRecDepth 100000

theorem behind_b {w : World} {F G : Nat → Prop} {v u : Value} {l : List IkV} {e : IkV} {b : Bool} (HS1 : SlV tIk w F v l) (HG2 : AgV tIk w G u e) (hb : bhdI l e = b) : CallsR Try.prog 90 #[v, u] w (fun o w' => o = .bool b ∧ Ext w w') := by subst hb; exact behind_c HS1 HG2
theorem rising_c {w : World} {v : Value} : CallsR Try.prog 84 #[v] w (fun o w' => ∃ b, b = w.heap.size ∧ o = .func (.func 89) #[] #[.pointer (some ⟨b, 0, none⟩)] ∧ Blk w' b v.cells.toList 40 ∧ w'.heap.size = b + 1 ∧ Ext w w') := by
  refine enter 4 Try.func84 rfl rfl (by simp) ?_
  refine c_seq (wp_reg zd (l_to (to_box rfl ?_)))
  rintro b1 w1 zb1 hb1 e1 z1
  have := e1.size
  refine l_v (v_assign rfl) (l_nil (n_then (c_seq (wp_reg zd (l_v (v_makeFunc (by simp [ev]; rfl) (by simp [ev]; rfl)) ?_)))))
  refine l_v (v_assign rfl) (l_nil (n_then (c_ret (ret1 rfl zq ?_))))
  exact ⟨b1, zb1, rfl, hb1, z1, e1⟩
/-- going over entries, as far as they rise -/
theorem rising_stops {w0 : World} {F K : Nat → Prop} {a : Option Addr} {c b : Nat} {xs : List IkV} {css : Nat → List Value} (HS0 : SlV tIk w0 F (.slice a xs.length c) xs) (HB0 : Blk w0 b [.slice a xs.length c] 40)
    (hcss : ∀ i x, xs[i]? = some x → ∃ q, a = some q ∧ F q.block ∧ q.block < w0.heap.size ∧ Pv w0 (q.add (i * tIk.sz)) (css i) ∧ tIk.rep w0 F (css i) x) (hb : ¬ K b) (hF : ∀ i, F i → ¬ K i) (hFs : ∀ i, F i → i < w0.heap.size) :
    SeqStopsK Fence.wide 1 Try.prog 89 #[.pointer (some ⟨b, 0, none⟩)] (fun x : Fin (risK xs) => ([.agg (css x.val).toArray] : List Value).toArray) (Keep K) (fun ys => ys = List.finRange (risK xs)) (fun pre => pre <+: List.finRange (risK xs)) (risK xs) w0 := by
 refine seq_mk (encs := fun x : Fin (risK xs) => [.agg (css x.val).toArray]) fun l J Jx w hx hJ hJx hY h0 => ?_
 refine CallsR.mono (R := fun _ W' => J (List.finRange (risK xs)) W' ∨ ∃ pre, pre <+: List.finRange (risK xs) ∧ Jx pre W') ?_ fun _ _ h => h
 show CallsR _ _ (#[.func (.yield l) #[] #[], .pointer (some ⟨b, 0, none⟩)]) w _
 have HS1 := HS0.ext hx
 have HB1 := HB0.ext hx
 have hmx := HS1.len_max
 have hrk := risK_le xs
 have hzx := hx.size
 have hF0 : ∀ i, F i → ¬ K i := hF
 have zb0 := HB0.lt
 have hcl : xs.length ≤ c := by obtain ⟨_, _, hv, hcl, _⟩ := HS0; cases hv; exact hcl
 refine enter 25 Try.func89 rfl rfl (by simp) ?_
 refine c_seq ?_
 have E := Keep.refl (K := K) w
 refine wp_reg zd (l_v (v_load zk rfl (by first | exact HB1.cell rfl | assumption)) ?_)
 refine l_v (v_len (et := 110) zk rfl) ?_
 refine l_v (v_move rfl) (l_nil (n_then (c_block (c_loop (τ := Nat) [3, 4, 7, 8, 9, 10, 11, 12, 13, 14, 15, 16, 17, 18, 19, 20, 21, 22, 23, 24] (fun i => [(7, .int .i64 i)]) (fun i W => Keep (K) w W ∧ Keep (K) w W ∧ i ≤ risK xs ∧ J ((List.finRange (risK xs)).take i) W) (fun i => xs.length - i) 0 (by exact ⟨rfl, trivial⟩) (by exact ⟨E, Keep.refl _, Nat.zero_le _, by rw [List.take_zero]; exact h0⟩) ?_))))
 rintro i w101 j ⟨E, EL1, h1, hj⟩
 have := EL1.size
 refine c_seq ?_
 have hzE := E.size
 have EL9 := Keep.refl (K := NoK) w101
 refine wp_reg zd (l_v (v_lss rfl rfl) ?_)
 replace HS1 := HS1.keep EL1 (by intro i _ hi he; have he0 := he; (try dsimp only [NoK, AllB] at hi he); (try simp only [Value.ownBlock, Option.some.injEq] at he); first | exact hi.elim | exact he.elim | omega | (rcases hi with hi | hi <;> omega) | (rcases he with he | he <;> omega) | (first | exact hb he | exact hF0 _ hi he | exact hF0 _ hFq he | (have := hFs _ hi; omega)))
 replace HB1 := HB1.keep EL1 (by intro h; have he0 := h; (try dsimp only at h); (try simp only [Value.ownBlock, Option.some.injEq] at h); first | omega | (have he := he0; first | exact hb he | exact hF0 _ hi he | exact hF0 _ hFq he | (have := hFs _ hi; omega)))
 refine l_nil (n_then (c_seq (c_cond rfl rfl (fun hlt => ?_) (fun hlt => ?_))))
 ·
  have hlt : i < xs.length := by have := dtrue hlt; omega
  obtain ⟨x, hx1, hdr⟩ := getE hlt
  obtain ⟨q, rfl, hFq, hql, HPq0, hr0⟩ := hcss i x hx1
  obtain ⟨a1, c1, a2, c2, hcs, _⟩ := tIk_cells hr0
  have HPq := (HPq0.ext hx).keep E (by rw [add_block]; exact hF _ hFq)
  have hr := tIk.keep (tIk.keep hr0 hx (fun _ _ _ h => h)) E (fun _ _ hf => hF _ hf)
  rw [hcs] at HPq hr
  have HG2 : AgV tIk _ F _ x := ⟨_, rfl, hr⟩
  have HSt := HS1.pre (h := i) zo
  refine c_skip (n_then (c_seq (c_block (c_seq (wp_reg zd (l_v (zmI rfl) (l_v (v_indexAddr (et := 110) (sz := 4) (k := i) zk zk rfl rfl (by first | rfl | omega) zo) ?_)))))))
  refine l_v (v_loadA zk rfl (by first | exact HPq | exact HB1.pv | assumption) rfl) ?_
  refine l_to (to_alloc (z := (.agg #[.slice none 0 0, .int .i64 0, .int .i64 0, .slice none 0 0])) (by unfold kZero; kernel_rfl) ?_)
  rintro b4 w4 zb4 HB4 e4 z4
  have := e4.size
  try simp only [Value.cells] at HB4
  have hbd := bhd_beh hx1
  refine l_v (zaI rfl) (l_to (to_storeA (n := 4) rfl rfl (zvA rfl) zk rfl dj6 HB4 dj5 ?_))
  rintro w102 HX102 k102 z102
  have := k102.size
  replace HB4 := HX102
  clear HX102
  try simp only [zS, Nat.zero_add, Nat.reduceAdd, List.drop_nil] at HB4
  refine l_nil (n_then ?_)
  replace E := (E.trans e4.keep).step k102 (by intro i hi he; have he0 := he; (try dsimp only [NoK] at hi he ⊢); (try simp only [Value.ownBlock, Option.some.injEq] at he); first | exact he.elim | omega | exact he | (first | exact hb he | exact hF0 _ hi he | exact hF0 _ hFq he | (have := hFs _ hi; omega)))
  replace HS1 := (HS1.ext e4).keep k102 (by intro i _ hi he; have he0 := he; (try dsimp only [NoK, AllB] at hi he); (try simp only [Value.ownBlock, Option.some.injEq] at he); first | exact hi.elim | exact he.elim | omega | (rcases hi with hi | hi <;> omega) | (rcases he with he | he <;> omega) | (first | exact hb he | exact hF0 _ hi he | exact hF0 _ hFq he | (have := hFs _ hi; omega)))
  replace HB1 := (HB1.ext e4).keep k102 (by intro h; have he0 := h; (try dsimp only at h); (try simp only [Value.ownBlock, Option.some.injEq] at h); first | omega | (have he := he0; first | exact hb he | exact hF0 _ hi he | exact hF0 _ hFq he | (have := hFs _ hi; omega)))
  replace EL1 := (EL1.trans e4.keep).step k102 (by intro i hi he; have he0 := he; (try dsimp only [NoK] at hi he ⊢); (try simp only [Value.ownBlock, Option.some.injEq] at he); first | exact he.elim | omega | exact he | (first | exact hb he | exact hF0 _ hi he | exact hF0 _ hFq he | (have := hFs _ hi; omega)))
  replace EL9 := (EL9.trans e4.keep).step k102 (by intro i hi he; have he0 := he; (try dsimp only [NoK] at hi he ⊢); (try simp only [Value.ownBlock, Option.some.injEq] at he); first | exact he.elim | omega | exact he | (first | exact hb he | exact hF0 _ hi he | exact hF0 _ hFq he | (have := hFs _ hi; omega)))
  replace HPq := (HPq.ext e4).keep k102 (by intro h; have he0 := h; (try dsimp only at h); (try simp only [Value.ownBlock, Option.some.injEq] at h); (try simp only [add_block] at h); (try simp only [add_block] at he0); first | omega | (have he := he0; first | exact hb he | exact hF0 _ hi he | exact hF0 _ hFq he | (have := hFs _ hi; omega)))
  replace HG2 := (HG2.ext e4).keep k102 (by intro i _ hi he; have he0 := he; (try dsimp only [NoK, AllB] at hi he); (try simp only [Value.ownBlock, Option.some.injEq] at he); first | exact hi.elim | exact he.elim | omega | (rcases hi with hi | hi <;> omega) | (rcases he with he | he <;> omega) | (first | exact hb he | exact hF0 _ hi he | exact hF0 _ hFq he | (have := hFs _ hi; omega)))
  replace HSt := (HSt.ext e4).keep k102 (by intro i _ hi he; have he0 := he; (try dsimp only [NoK, AllB] at hi he); (try simp only [Value.ownBlock, Option.some.injEq] at he); first | exact hi.elim | exact he.elim | omega | (rcases hi with hi | hi <;> omega) | (rcases he with he | he <;> omega) | (first | exact hb he | exact hF0 _ hi he | exact hF0 _ hFq he | (have := hFs _ hi; omega)))
  by_cases hik : i < risK xs
  ·
   refine c_seq ?_
   have hY2 := hY ((List.finRange (risK xs)).take i) ⟨i, hik⟩
   simp only [hcs] at hY2
   refine wp_any zk ?_
   have e103 : Ext w102 { w102 with drawn := w102.drawn + 1 } := Keep.drawn _ _
   generalize hw103 : ({ w102 with drawn := w102.drawn + 1 } : World) = w103 at e103 ⊢
   clear hw103
   have := e103.size
   refine r_cut 4 rfl zd zd zd ?_
   refine wp_regdW (NoK) zd zd ?_
   replace HB1 := HB1.ext e103
   replace HPq := HPq.ext e103
   replace HB4 := HB4.ext e103
   refine rt_v (fun vals w hR hd => v_load zk rfl (by first | exact (HB4.ext hR).cell rfl | exact pv_1 (HPq.ext hR) | exact (HB1.ext hR).cell rfl | assumption)) ?_
   refine rt_v (fun vals w hR hd => zmI rfl) ?_
   refine rt_v (fun vals w hR hd => v_slicePre (et := 110) (sz := 4) (h := i) zk zk (hd 0 rfl) (hd 1 rfl) (by first | rfl | omega) zo) ?_
   refine rt_v (fun vals w hR hd => v_loadA zk rfl (by first | exact (HB4.ext hR).pv | exact (HPq.ext hR) | exact (HB1.ext hR).pv | assumption) rfl) ?_
   refine rt_nil (fun w104 e104 => ?_)
   rintro _ rfl _ rfl _ rfl _ rfl
   have := e104.size
   refine fin_nil (n_then (r_cut 1 rfl zd zd zd ?_))
   refine r_one zd rfl ?_
   replace HG2 := (HG2.ext e103).ext e104
   replace HSt := (HSt.ext e103).ext e104
   refine l_to (to_f2 zk (zvS rfl) (zvA rfl) (CallsR.mono (behind_b (b := true) HSt HG2 (hbd.trans (risK_lt hik))) ?_))
   rintro _ w105 ⟨rfl, e105⟩
   have := e105.size
   refine l_nil (n_then (r_cutG 4 rfl zd zd zd ?_))
   refine wp_regdW (NoK) zd zd ?_
   refine rt_v (fun vals w hR hd => v_not rfl) ?_
   refine rt_v (fun vals w hR hd => v_move (t := .bool _) (hd 0 rfl)) ?_
   refine rt_hv rfl (fun vals w hd => hd 1 rfl) (fun vals w hR hd => zmF rfl) ?_
   replace HB1 := (HB1.ext e104).ext e105
   replace HPq := (HPq.ext e104).ext e105
   replace HB4 := (HB4.ext e104).ext e105
   refine rt_hv rfl (fun vals w hd => hd 1 rfl) (fun vals w hR hd => v_loadA zk rfl (by first | exact (HB4.ext hR).pv | exact (HPq.ext hR) | exact (HB1.ext hR).pv | assumption) rfl) ?_
   refine rt_nil (fun w106 e106 => ?_)
   rintro _ rfl _ rfl _ rfl _ rfl
   have := e106.size
   refine fin_nil (n_then (⟨invG_of zd (by rfl), ?_⟩))
   refine r_cut 1 rfl zd zd zd ?_
   refine r_one zd rfl ?_
   replace EL9 := (((EL9.trans e103.keep).trans e104.keep).trans e105.keep).trans e106.keep
   refine l_to (to_yield1 rfl (zvA rfl) (YieldAt.mono (hY2 _ (hJ _ _ _ EL9 hj) (by rw [List.length_take, List.length_finRange]; omega)) ?_))
   rintro en w9 ⟨v, rfl, hv⟩
   refine ⟨v, rfl, ?_⟩
   obtain ⟨bb, rfl, hb1, hb2⟩ := yb hv
   refine l_nil (n_then (r_cut 1 rfl zd zd zd ?_))
   refine r_one zd rfl ?_
   refine l_v (v_not rfl) ?_
   refine l_nil (n_then (r_one zd rfl ?_))
   refine l_v (v_orT rfl rfl) ?_
   replace E := (((E.trans e103.keep).trans e104.keep).trans e105.keep).trans e106.keep
   replace HS1 := (((HS1.ext e103).ext e104).ext e105).ext e106
   replace EL1 := (((EL1.trans e103.keep).trans e104.keep).trans e105.keep).trans e106.keep
   replace HG2 := (HG2.ext e105).ext e106
   replace HSt := (HSt.ext e105).ext e106
   replace HB1 := HB1.ext e106
   replace HPq := HPq.ext e106
   replace HB4 := HB4.ext e106
   refine l_nil (n_then (c_cond rfl rfl (fun hcc => ?_) (fun hcc => ?_)))
   ·
    refine c_ret (r_blk (r_then (r_then (r_blk (ret0 rfl ?_)))))
    obtain rfl : bb = false := by cases bb <;> simp_all
    exact .inr ⟨_, by rw [← finRange_take hik]; exact List.take_prefix _ _, hb2 rfl⟩
   obtain rfl : bb = true := by cases bb <;> simp_all
   obtain ⟨hj4, k4⟩ := hb1 rfl
   have := k4.size
   refine c_skip (n_blk (n_then (wp_reg zd (l_v (v_add rfl rfl (by first | exact wr_i64 zo zo | rfl)) ?_))))
   replace E := E.step k4 (by intro i hi he; have he0 := he; (try dsimp only [NoK] at hi he ⊢); (try simp only [Value.ownBlock, Option.some.injEq] at he); first | exact he.elim | omega | exact he | (first | exact hb he | exact hF0 _ hi he | exact hF0 _ hFq he | (have := hFs _ hi; omega)))
   replace HS1 := HS1.keep k4 (by intro i _ hi he; have he0 := he; (try dsimp only [NoK, AllB] at hi he); (try simp only [Value.ownBlock, Option.some.injEq] at he); first | exact hi.elim | exact he.elim | omega | (rcases hi with hi | hi <;> omega) | (rcases he with he | he <;> omega) | (first | exact hb he | exact hF0 _ hi he | exact hF0 _ hFq he | (have := hFs _ hi; omega)))
   replace HB1 := HB1.keep k4 (by intro h; have he0 := h; (try dsimp only at h); (try simp only [Value.ownBlock, Option.some.injEq] at h); first | omega | (have he := he0; first | exact hb he | exact hF0 _ hi he | exact hF0 _ hFq he | (have := hFs _ hi; omega)))
   replace EL1 := EL1.step k4 (by intro i hi he; have he0 := he; (try dsimp only [NoK] at hi he ⊢); (try simp only [Value.ownBlock, Option.some.injEq] at he); first | exact he.elim | omega | exact he | (first | exact hb he | exact hF0 _ hi he | exact hF0 _ hFq he | (have := hFs _ hi; omega)))
   refine l_v (zmI rfl) (l_nil (n_then (⟨i + 1, _, rfl, by (repeat (first | exact Off.of_over _ _ _ | refine Off.upd ?_ zq _ | refine Off.overs ?_ zq _)), ⟨by first | rfl | exact congrArg (Value.int _) zo | (simp; done), trivial⟩, ⟨E, EL1, ?_⟩, ?_⟩)))
   ·
    exact ⟨by omega, by rw [finRange_take hik]; exact hj4⟩
   (dsimp only; omega)
  refine c_seq (wp_any zk ?_)
  have e107 : Ext w102 { w102 with drawn := w102.drawn + 1 } := Keep.drawn _ _
  generalize hw107 : ({ w102 with drawn := w102.drawn + 1 } : World) = w107 at e107 ⊢
  clear hw107
  have := e107.size
  refine r_cut 4 rfl zd zd zd ?_
  refine wp_regdW (NoK) zd zd ?_
  replace HB1 := HB1.ext e107
  replace HPq := HPq.ext e107
  replace HB4 := HB4.ext e107
  refine rt_v (fun vals w hR hd => v_load zk rfl (by first | exact (HB4.ext hR).cell rfl | exact pv_1 (HPq.ext hR) | exact (HB1.ext hR).cell rfl | assumption)) ?_
  refine rt_v (fun vals w hR hd => zmI rfl) ?_
  refine rt_v (fun vals w hR hd => v_slicePre (et := 110) (sz := 4) (h := i) zk zk (hd 0 rfl) (hd 1 rfl) (by first | rfl | omega) zo) ?_
  refine rt_v (fun vals w hR hd => v_loadA zk rfl (by first | exact (HB4.ext hR).pv | exact (HPq.ext hR) | exact (HB1.ext hR).pv | assumption) rfl) ?_
  refine rt_nil (fun w108 e108 => ?_)
  rintro _ rfl _ rfl _ rfl _ rfl
  have := e108.size
  refine fin_nil (n_then (r_cut 1 rfl zd zd zd ?_))
  refine r_one zd rfl ?_
  replace HG2 := (HG2.ext e107).ext e108
  replace HSt := (HSt.ext e107).ext e108
  refine l_to (to_f2 zk (zvS rfl) (zvA rfl) (CallsR.mono (behind_b (b := false) HSt HG2 (by have hi : i = risK xs := zo; rw [hbd, hi]; exact risK_at zo)) ?_))
  rintro _ w109 ⟨rfl, e109⟩
  have := e109.size
  refine l_nil (n_then (wp_regdW (NoK) zd zd ?_))
  refine rt_v (fun vals w hR hd => v_not rfl) ?_
  refine rt_v (fun vals w hR hd => v_move (t := .bool _) (hd 0 rfl)) ?_
  refine rt_skip (u := .bool true) rfl (fun vals w hd => hd 1 rfl) rfl ?_
  refine rt_skip (u := .bool true) rfl (fun vals w hd => hd 1 rfl) rfl ?_
  refine rt_skip (u := .bool true) rfl (fun vals w hd => hd 1 rfl) rfl ?_
  refine rt_skip (u := .bool true) rfl (fun vals w hd => hd 1 rfl) rfl ?_
  refine rt_v (fun vals w hR hd => v_orC (hd 1 rfl)) ?_
  refine rt_nil (fun w110 e110 => ?_)
  rintro _ rfl _ rfl _ rfl _ rfl _ rfl _ rfl _ rfl
  have := e110.size
  replace E := (((E.trans e107.keep).trans e108.keep).trans e109.keep).trans e110.keep
  replace HS1 := (((HS1.ext e107).ext e108).ext e109).ext e110
  replace EL1 := (((EL1.trans e107.keep).trans e108.keep).trans e109.keep).trans e110.keep
  replace EL9 := (((EL9.trans e107.keep).trans e108.keep).trans e109.keep).trans e110.keep
  replace HB1 := ((HB1.ext e108).ext e109).ext e110
  replace HPq := ((HPq.ext e108).ext e109).ext e110
  replace HB4 := ((HB4.ext e108).ext e109).ext e110
  replace HG2 := (HG2.ext e109).ext e110
  replace HSt := (HSt.ext e109).ext e110
  refine fin_nil (n_then (c_cond rfl rfl (fun hcc => ?_) (fun hcc => ?_)))
  ·
   refine c_ret (r_blk (r_then (r_then (r_blk (ret0 rfl ?_)))))
   have hi : i = risK xs := by omega
   rw [finRange_all zo] at hj
   exact .inl (hJ _ _ _ EL9 hj)
  cases hcc
 refine c_exit (x_then (x_then (x_hit (end0 rfl ?_))))
 have hi : i = risK xs := by have := dfalse hlt; omega
 rw [finRange_all zo] at hj
 exact .inl hj
end Go.Proofs.Yteehplloacefmaa

namespace Go.Proofs.Yteehplloacefmaa
open Go.Vc
set_option linter.unusedVariables false
set_option linter.unusedSimpArgs false
set_option maxRecDepth 100000

theorem Rising_c {w : World} {F : Nat → Prop} {v : Value} {xs : List IkV} (HS1 : SlV tIk w F v xs) : CallsR Try.prog 70 #[v] w (fun o w' => o = .bool (risE xs) ∧ Ext w w') := by
 obtain ⟨a, c, rfl⟩ := HS1.shape
 have hmx := HS1.len_max
 have hrk := risK_le xs
 refine enterM 13 Try.func70 rfl rfl (by simp) ?_
 refine c_seq ?_
 have E := Keep.refl (K := NoK) w
 replace HS1 := HS1.all
 refine wp_reg zd (l_v (v_assign rfl) (l_nil (n_then (c_seq (wp_reg zd (l_to (to_alloc (z := (.int .i64 0)) (by unfold kZero; kernel_rfl) ?_)))))))
 rintro b3 w3 zb3 HB3 e3 z3
 have := e3.size
 try simp only [Value.cells] at HB3
 refine l_to (to_store rfl rfl (zvI rfl) rfl zk HB3 dj5 ?_)
 rintro w101 HX101 k101 z101
 have := k101.size
 replace HB3 := HX101
 clear HX101
 try simp only [zS, Nat.zero_add, Nat.reduceAdd, List.drop_nil] at HB3
 refine l_nil (n_then (c_seq (c_seq (wp_reg zd (l_v (zmS rfl) (l_to (to_f1 zk (zvS rfl) (CallsR.mono (rising_c) ?_))))))))
 replace HS1 := (HS1.ext e3).keep k101 dj1
 rintro _ w4 ⟨b4, hb4, rfl, HB4, z4, e4⟩
 have := e4.size
 refine l_nil (n_then (c_block ?_))
 simp only [Value.cells] at HB4
 replace HS1 := HS1.ext e4
 obtain ⟨css, hcss⟩ := HS1.pick
 replace E := ((E.trans e3.keep).step k101 dj3).trans e4.keep
 replace HB3 := HB3.ext e4
 refine c_rangeK (N := 13) rfl (show _ = (Value.func _ _ _) from rfl) zk zq E (fun x : Fin (risK xs) => [.agg (css x.val).toArray]) (fun _ => rfl) (fun i => i = b3) (fun i h => by have h := h; (try dsimp only at h); omega) (rising_stops (K := fun i => i = b3 ∨ w4.heap.size ≤ i) HS1 HB4 hcss zo (fun i h => by omega) (fun i h => by omega)) (fun pre W => Blk W b3 [.int .i64 (pre.length : Int)] 3) (fun c pre W => False) (fun s W W' t h => h.turn t) (fun c s W W' t h => h) (HB3) (fun x e1 W => Holds [(3, .pointer (some ⟨b3, 0, none⟩))] e1) (fun x e1 W W' t h => h) ?_ ?_ ?_ ?_
 ·
  rintro l pre x w102 E EK HB5
  have := EK.size
  have := E.size
  have EL1 := Keep.refl (K := NoK) w102
  refine c_skip (n_then ?_)
  replace HS1 := HS1.keep EK dj1
  replace HB4 := HB4.keep EK dj4
  exact ⟨_, rfl, EL1, HB5, ⟨rfl, trivial⟩⟩
 ·
  rintro l pre x e1 w103 E EK HB5 hh hlen
  have := EK.size
  have := E.size
  replace HS1 := HS1.keep EK dj1
  obtain ⟨jj, rfl⟩ : ∃ j, e1 = updL _ j := ⟨_, hh.upd⟩
  have EL1 := Keep.refl (K := fun i => i = b3) w103
  replace HB4 := HB4.keep EK dj4
  refine c_block (wp_reg zd (l_v (v_load zk rfl (by first | exact HB5.cell rfl | exact HB4.cell rfl | assumption)) ?_))
  refine l_v (v_add rfl rfl (by first | exact wr_i64 zo zo | rfl)) ?_
  refine l_to (to_store rfl rfl (zvI rfl) rfl zk HB5 dj5 ?_)
  rintro w104 HX104 k104 z104
  have := k104.size
  replace HB5 := HX104
  clear HX104
  try simp only [zS, Nat.zero_add, Nat.reduceAdd, List.drop_nil] at HB5
  replace EL1 := EL1.step k104 dj3
  refine l_nil (n_blk (⟨EL1, ?_⟩))
  rw [show (pre.length : Int) + 1 = ((pre ++ [x]).length : Int) by simp] at HB5
  replace HS1 := HS1.keep k104 dj1
  replace HB4 := HB4.keep k104 dj4
  replace E := E.step k104 dj3
  exact HB5
 ·
  rintro D w105 hD E EK HB5 HD
  have := EK.size
  have := E.size
  replace HB4 := HB4.keep EK dj4
  refine n_blk (n_then (c_seq (wp_reg zd (l_v (v_load zk rfl (by first | exact HB5.cell rfl | exact HB4.cell rfl | assumption)) ?_))))
  refine l_v (zmS rfl) (l_v (v_len (et := 110) zk rfl) ?_)
  refine l_v (v_eql rfl rfl) ?_
  refine l_v (zaB rfl) (l_nil (n_then (c_ret (retM1v HD rfl zq (zvB rfl) ?_))))
  have E := keep_put E (by omega : w.heap.size ≤ D) (.deferred none)
  refine ⟨?_, E⟩
  rw [List.length_finRange, ← risK_all]
  congr 1; rw [Bool.eq_iff_iff]; simp; omega
 rintro D _ pre W hD E EK hpre h HD; exact h.elim
theorem iSame_d {w : World} {F G : Nat → Prop} {v u : Value} {a b : IkV} (HG1 : AgV tIk w F v a) (HG2 : AgV tIk w G u b) : CallsR Try.prog 75 (#[v, u] ++ #[]) w (fun o w' => o = .bool (decide (a = b)) ∧ Ext w w') := iSame_c HG1 HG2
theorem EqualFuncI_c {w : World} {F G : Nat → Prop} {v u : Value} {rs ss : List IkV} (HSr : SlV tIk w F v rs) (HSs : SlV tIk w G u ss) : CallsR Try.prog 74 #[v, u, .func (.func 75) #[] #[]] w (fun o w' => o = .bool (decide (rs = ss)) ∧ Ext w w') := by
 obtain ⟨a, c, rfl⟩ := HSr.shape
 obtain ⟨a2, c2, rfl⟩ := HSs.shape
 have hmx := HSr.len_max
 have hmx2 := HSs.len_max
 refine enter 32 Try.func74 rfl rfl (by simp) ?_
 refine c_seq ?_
 have E := Keep.refl (K := NoK) w
 replace HSr := HSr.all
 replace HSs := HSs.all
 refine wp_reg zd (l_v (v_assign rfl) (l_nil (n_then (c_seq (c_seq (wp_reg zd (l_v (zmS rfl) (l_v (v_len (et := 110) zk rfl) ?_))))))))
 refine l_v (zmS rfl) (l_v (v_len (et := 110) zk rfl) ?_)
 refine l_v (v_neq rfl rfl) ?_
 refine l_nil (n_then (c_cond rfl rfl (fun hc => ?_) (fun hc => ?_)))
 ·
  refine c_seq (wp_reg zd (l_v (v_assign rfl) (l_nil (n_then (c_ret (r_then (ret1v rfl zq (zvB rfl) ?_)))))))
  refine ⟨?_, E⟩
  rw [decide_eq_false]
  intro h; subst h; simp at hc
 have hlen : rs.length = ss.length := by simp at hc; omega
 refine c_skip (n_then (c_seq (c_seq (wp_reg zd (l_v (zmS rfl) (l_v (v_len (et := 110) zk rfl) ?_))))))
 refine l_v (v_move rfl) (l_nil (n_then (c_block (c_loop (τ := Nat) [6, 7, 8, 9, 17, 18, 19, 20, 21, 22, 23, 24, 25, 26, 27, 28, 29, 30, 31] (fun i => [(17, .int .i64 i)]) (fun i W => Ext w W ∧ Keep (NoK) w W ∧ i ≤ rs.length ∧ rs.take i = ss.take i) (fun i => rs.length - i) 0 (by exact ⟨rfl, trivial⟩) (by exact ⟨E, Keep.refl _, Nat.zero_le _, rfl⟩) ?_))))
 rintro i w101 j ⟨E, EL1, h1, h2⟩
 have := EL1.size
 refine c_seq (wp_reg zd (l_v (v_lss rfl rfl) ?_))
 replace HSr := HSr.ext EL1
 replace HSs := HSs.ext EL1
 refine l_nil (n_then (c_seq (c_cond rfl rfl (fun hlt => ?_) (fun hlt => ?_))))
 ·
  have hlt := dtrue hlt
  obtain ⟨r, hx, hdr⟩ := getE (l := rs) (i := i) zo
  obtain ⟨s, hy, hds⟩ := getE (l := ss) (i := i) zo
  obtain ⟨q1, cs1, rfl, hq1, _, HP1, hr1⟩ := HSr.el hx
  obtain ⟨q2, cs2, rfl, hq2, _, HP2, hr2⟩ := HSs.el hy
  have HG5 : AgV tIk _ _ _ r := ⟨cs1, rfl, hr1⟩
  have HG6 : AgV tIk _ _ _ s := ⟨cs2, rfl, hr2⟩
  obtain ⟨b1, d1, b2, d2, rfl, _⟩ := tIk_cells hr1
  obtain ⟨b3, d3, b4, d4, rfl, _⟩ := tIk_cells hr2
  refine c_skip (n_then (c_seq (c_block (c_seq (wp_reg zd (l_v (zmI rfl) (l_v (v_indexAddr (et := 110) (sz := 4) (k := i) zk zk rfl rfl (by first | rfl | omega) zo) ?_)))))))
  refine l_v (v_loadA zk rfl (by first | exact HP2 | exact HP1 | assumption) rfl) ?_
  refine l_to (to_alloc (z := (.agg #[.slice none 0 0, .int .i64 0, .int .i64 0, .slice none 0 0])) (by unfold kZero; kernel_rfl) ?_)
  rintro b8 w8 zb8 HB8 e8 z8
  have := e8.size
  try simp only [Value.cells] at HB8
  refine l_v (zaI rfl) (l_to (to_storeA (n := 4) rfl rfl (zvA rfl) zk rfl dj6 HB8 dj5 ?_))
  rintro w102 HX102 k102 z102
  have := k102.size
  replace HB8 := HX102
  clear HX102
  try simp only [zS, Nat.zero_add, Nat.reduceAdd, List.drop_nil] at HB8
  refine l_nil (n_then (c_seq (wp_reg zd (l_v (zmS rfl) (l_v (zmI rfl) (l_v (v_indexAddr (et := 110) (sz := 4) (k := i) zk zk rfl rfl (by first | rfl | omega) zo) ?_))))))
  replace HP1 := (HP1.ext e8).keep k102 (by intro h; (try dsimp only at h); (try simp only [add_block] at h); first | omega)
  replace HP2 := (HP2.ext e8).keep k102 (by intro h; (try dsimp only at h); (try simp only [add_block] at h); first | omega)
  refine l_v (v_loadA zk rfl (by first | exact HB8.pv | exact HP2 | exact HP1 | assumption) rfl) ?_
  refine l_to (to_alloc (z := (.agg #[.slice none 0 0, .int .i64 0, .int .i64 0, .slice none 0 0])) (by unfold kZero; kernel_rfl) ?_)
  rintro b9 w9 zb9 HB9 e9 z9
  have := e9.size
  try simp only [Value.cells] at HB9
  refine l_to (to_storeA (n := 4) rfl rfl (zvA rfl) zk rfl dj6 HB9 dj5 ?_)
  rintro w103 HX103 k103 z103
  have := k103.size
  replace HB9 := HX103
  clear HX103
  try simp only [zS, Nat.zero_add, Nat.reduceAdd, List.drop_nil] at HB9
  replace HP1 := (HP1.ext e9).keep k103 (by intro h; (try dsimp only at h); (try simp only [add_block] at h); first | omega)
  replace HP2 := (HP2.ext e9).keep k103 (by intro h; (try dsimp only at h); (try simp only [add_block] at h); first | omega)
  replace HB8 := (HB8.ext e9).keep k103 dj4
  refine l_nil (n_then (c_seq (wp_reg zd (l_v (zmF rfl) (l_v (v_loadA zk rfl (by first | exact HB9.pv | exact HB8.pv | exact HP2 | exact HP1 | assumption) rfl) ?_)))))
  refine l_v (v_loadA zk rfl (by first | exact HB9.pv | exact HB8.pv | exact HP2 | exact HP1 | assumption) rfl) ?_
  replace HG5 := (((HG5.ext e8).keep k102 dj1).ext e9).keep k103 dj1
  replace HG6 := (((HG6.ext e8).keep k102 dj1).ext e9).keep k103 dj1
  refine l_to (to_call2 zk rfl (zvA rfl) (zvA rfl) (CallsR.mono (iSame_d HG5 HG6) ?_))
  replace HSr := (((HSr.ext e8).keep k102 dj1).ext e9).keep k103 dj1
  replace HSs := (((HSs.ext e8).keep k102 dj1).ext e9).keep k103 dj1
  rintro _ w10 ⟨rfl, e10⟩
  have := e10.size
  refine l_v (v_not rfl) ?_
  replace E := ((((E.trans e8.keep).step k102 dj3).trans e9.keep).step k103 dj3).trans e10.keep
  replace EL1 := ((((EL1.trans e8.keep).step k102 dj3).trans e9.keep).step k103 dj3).trans e10.keep
  replace HSr := HSr.ext e10
  replace HSs := HSs.ext e10
  replace HP1 := HP1.ext e10
  replace HP2 := HP2.ext e10
  replace HG5 := HG5.ext e10
  replace HG6 := HG6.ext e10
  replace HB8 := HB8.ext e10
  replace HB9 := HB9.ext e10
  refine l_nil (n_then (c_cond rfl rfl (fun h38 => ?_) (fun h38 => ?_)))
  ·
   refine c_seq (wp_reg zd (l_v (v_assign rfl) (l_nil (n_then (c_ret (r_blk (r_then (r_then (r_blk ?_)))))))))
   refine r_then (ret1v rfl zq (zvB rfl) ?_)
   refine ⟨?_, E⟩
   rw [decide_eq_false]
   rintro h; cases h
   rw [hx] at hy; cases hy
   simp at h38
  refine c_skip (n_blk (n_then (wp_reg zd (l_v (v_add rfl rfl (by first | exact wr_i64 zo zo | rfl)) ?_))))
  refine l_v (zmI rfl) (l_nil (n_then (⟨i + 1, _, rfl, by (repeat (first | exact Off.of_over _ _ _ | refine Off.upd ?_ zq _ | refine Off.overs ?_ zq _)), ⟨by first | rfl | exact congrArg (Value.int _) zo | (simp; done), trivial⟩, ⟨E, EL1, ?_⟩, ?_⟩)))
  ·
   refine ⟨by omega, ?_⟩
   have hs : r = s := by simpa using h38
   rw [List.take_add_one, List.take_add_one, hx, hy, h2, hs]
  (dsimp only; omega)
 have hlt := dfalse hlt
 refine c_exit (x_then (x_then (x_hit (n_then (c_seq (wp_reg zd (l_v (v_assign rfl) (l_nil (n_then ?_)))))))))
 refine c_ret (ret1v rfl zq (zvB rfl) ?_)
 refine ⟨?_, E⟩
 rw [List.take_of_length_le zo, List.take_of_length_le zo] at h2
 rw [decide_eq_true h2]
end Go.Proofs.Yteehplloacefmaa
