/- A part of the proof: steps and lemmas for the walks through the given program. -/
import Derived.Test.YteehplloacefmaaM8
import Derived.Test.YteehplloacefmaaMPm
namespace Go.Proofs.Yteehplloacefmaa
open Go.Vc
set_option linter.unusedVariables false
set_option linter.unusedSimpArgs false
set_option maxRecDepth 100000

theorem ltd_cons {c d : UInt8} {x y : List UInt8} : decide (c :: x < d :: y) = if c.toNat = d.toNat then decide (x < y) else decide (c.toNat < d.toNat) := by
  by_cases h : c.toNat = d.toNat
  · obtain rfl : c = d := UInt8.toNat_inj.1 h
    rw [if_pos rfl]; exact decide_eq_decide.2 (by simp [List.cons_lt_cons_iff])
  · rw [if_neg h]; refine decide_eq_decide.2 ⟨fun h2 => ?_, fun h2 => List.cons_lt_cons_iff.2 (.inl h2)⟩
    rcases List.cons_lt_cons_iff.1 h2 with h3 | ⟨h3, _⟩
    · exact h3
    · exact absurd (congrArg UInt8.toNat h3) h
theorem ltd_nil {x y : List UInt8} (h : x = [] ∨ y = []) : decide (x < y) = decide (x.length < y.length) := by
  cases x <;> cases y <;> simp_all
theorem rLess_c {w : World} {F G : Nat → Prop} {v u : Value} {x y : List UInt8} (HS1 : Bv w F v x) (HS2 : Bv w G u y) : CallsR Try.prog 68 #[v, u] w (fun o w' => o = .bool (decide (x < y)) ∧ Ext w w') := by
 obtain ⟨a, c, rfl⟩ := HS1.shape
 obtain ⟨b, d, rfl⟩ := HS2.shape
 have hm1 := HS1.len_max
 have hm2 := HS2.len_max
 refine enter 41 Try.func68 rfl rfl (by simp) ?_
 refine c_seq ?_
 have E := Keep.refl (K := NoK) w
 replace HS1 := HS1.all
 replace HS2 := HS2.all
 refine wp_reg zd (l_v (v_assign rfl) (l_nil (n_then (c_seq (c_seq (wp_reg zd (l_v (v_assign rfl) (l_nil (n_then ?_)))))))))
 refine c_block (c_loop (τ := Nat) [4, 5, 6, 7, 8, 9, 10, 11, 12, 13, 14, 15, 16, 17, 18, 19, 20, 21, 22, 23, 24, 25, 26, 27, 28, 29, 30, 31, 32, 33, 34, 35] (fun i => [(5, .int .i64 i)]) (fun i W => Ext w W ∧ Keep (NoK) w W ∧ i ≤ x.length ∧ i ≤ y.length ∧ decide (x < y) = decide (x.drop i < y.drop i)) (fun i => x.length - i) 0 (by exact ⟨rfl, trivial⟩) (by exact ⟨E, Keep.refl _, Nat.zero_le _, Nat.zero_le _, rfl⟩) ?_)
 rintro i w101 j ⟨E, EL1, h1, h2, h3⟩
 have := EL1.size
 refine c_seq (c_seq (wp_reg zd (l_v (zmI rfl) (l_v (zmS rfl) (l_v (v_len (et := 5) zk rfl) ?_)))))
 refine l_v (v_lss rfl rfl) ?_
 refine l_v (zmB rfl) (l_g1 rfl rfl (fun hG => zmI rfl) (l_g1 rfl rfl (fun hG => zmS rfl) (l_g1 rfl rfl (fun hG => v_len (et := 5) zk (gd hG rfl)) ?_)))
 refine l_g1 rfl rfl (fun hG => v_lss (gd hG rfl) (gd hG rfl)) ?_
 refine l_v (v_and rfl rfl) ?_
 replace HS1 := HS1.ext EL1
 replace HS2 := HS2.ext EL1
 refine l_nil (n_then (c_cond rfl rfl (fun hlt => ?_) (fun hlt => ?_)))
 ·
  have hlt2 : i < x.length ∧ i < y.length := by simpa only [Bool.and_eq_true, decide_eq_true_eq, Int.ofNat_lt] using hlt
  obtain ⟨r, hx, hdr⟩ := getE (l := x) (i := i) zo
  obtain ⟨s, hy, hds⟩ := getE (l := y) (i := i) zo
  obtain ⟨q1, cs1, rfl, hF1, _, HP1, hr1⟩ := HS1.el hx
  obtain ⟨q2, cs2, rfl, hF2, _, HP2, hr2⟩ := HS2.el hy
  obtain rfl := hr1
  obtain rfl := hr2
  rw [hdr, hds, ltd_cons] at h3
  refine c_skip (n_then (c_seq (c_block (c_seq (wp_regd (NoK) zk zd zd ?_)))))
  refine rt_v (fun vals w hR hd => zmS rfl) ?_
  refine rt_v (fun vals w hR hd => zmI rfl) ?_
  refine rt_v (fun vals w hR hd => v_indexAddr (et := 5) (sz := 1) (k := i) zk zk (hd 0 rfl) (hd 1 rfl) (by first | rfl | omega) zo) ?_
  refine rt_v (fun vals w hR hd => v_load zk (hd 2 rfl) (by first | exact pv_1 (HP2.ext hR) | exact pv_1 (HP1.ext hR) | assumption)) ?_
  refine rt_v (fun vals w hR hd => zmS rfl) ?_
  refine rt_v (fun vals w hR hd => zmI rfl) ?_
  refine rt_v (fun vals w hR hd => v_indexAddr (et := 5) (sz := 1) (k := i) zk zk (hd 4 rfl) (hd 5 rfl) (by first | rfl | omega) zo) ?_
  refine rt_v (fun vals w hR hd => v_load zk (hd 6 rfl) (by first | exact pv_1 (HP2.ext hR) | exact pv_1 (HP1.ext hR) | assumption)) ?_
  refine rt_v (fun vals w hR hd => v_neq (hd 3 rfl) (hd 7 rfl)) ?_
  refine rt_nil (fun w102 e102 => ?_)
  rintro _ rfl _ rfl _ rfl _ rfl _ rfl _ rfl _ rfl _ rfl _ rfl
  have := e102.size
  replace E := E.trans e102.keep
  replace HS1 := HS1.ext e102
  replace HS2 := HS2.ext e102
  replace EL1 := EL1.trans e102.keep
  replace HP1 := HP1.ext e102
  replace HP2 := HP2.ext e102
  refine fin_nil (n_then (c_cond rfl rfl (fun hc => ?_) (fun hc => ?_)))
  ·
   have hc : ¬ r.toNat = s.toNat := by intro h; rw [h] at hc; simp at hc
   refine c_seq (wp_regd (NoK) zk zd zd ?_)
   refine rt_v (fun vals w hR hd => zmS rfl) ?_
   refine rt_v (fun vals w hR hd => zmI rfl) ?_
   refine rt_v (fun vals w hR hd => v_indexAddr (et := 5) (sz := 1) (k := i) zk zk (hd 0 rfl) (hd 1 rfl) (by first | rfl | omega) zo) ?_
   refine rt_v (fun vals w hR hd => v_load zk (hd 2 rfl) (by first | exact pv_1 (HP2.ext hR) | exact pv_1 (HP1.ext hR) | assumption)) ?_
   refine rt_v (fun vals w hR hd => zmS rfl) ?_
   refine rt_v (fun vals w hR hd => zmI rfl) ?_
   refine rt_v (fun vals w hR hd => v_indexAddr (et := 5) (sz := 1) (k := i) zk zk (hd 4 rfl) (hd 5 rfl) (by first | rfl | omega) zo) ?_
   refine rt_v (fun vals w hR hd => v_load zk (hd 6 rfl) (by first | exact pv_1 (HP2.ext hR) | exact pv_1 (HP1.ext hR) | assumption)) ?_
   refine rt_v (fun vals w hR hd => v_lss (hd 3 rfl) (hd 7 rfl)) ?_
   refine rt_v (fun vals w hR hd => v_assign (t := .bool _) (hd 8 rfl)) ?_
   refine rt_nil (fun w103 e103 => ?_)
   rintro _ rfl _ rfl _ rfl _ rfl _ rfl _ rfl _ rfl _ rfl _ rfl _ rfl
   have := e103.size
   refine fin_nil (n_then (c_ret (r_blk (r_then (r_then (r_blk (r_then (ret1v rfl zq (zvB rfl) ?_))))))))
   replace E := E.trans e103.keep
   exact ⟨by rw [h3, if_neg hc]; congr 1; exact decide_eq_decide.2 zo, E⟩
  have hc : r.toNat = s.toNat := by simp at hc; omega
  refine c_skip (n_blk (n_then (wp_reg zd (l_v (zmI rfl) (l_v (v_add rfl rfl (by first | exact wr_i64 zo zo | rfl)) ?_)))))
  refine l_v (zaI rfl) (l_nil (n_then (⟨i + 1, _, rfl, by (repeat (first | exact Off.of_over _ _ _ | refine Off.upd ?_ zq _ | refine Off.overs ?_ zq _)), ⟨by first | rfl | exact congrArg (Value.int _) zo | (simp; done), trivial⟩, ⟨E, EL1, ?_⟩, ?_⟩)))
  ·
   exact ⟨by omega, by omega, by rw [h3, if_pos hc]⟩
  (dsimp only; omega)
 have hend : ¬ (i < x.length ∧ i < y.length) := by
  intro h; have : (decide ((i : Int) < x.length) && decide ((i : Int) < y.length)) = true := by simp; omega
  rw [this] at hlt; cases hlt
 have hz : x.drop i = [] ∨ y.drop i = [] := by
  rcases Nat.lt_or_ge i x.length with h | h
  ·
   exact .inr (List.drop_eq_nil_of_le zo)
  exact .inl (List.drop_eq_nil_of_le zo)
 rw [ltd_nil hz, List.length_drop, List.length_drop] at h3
 refine c_exit (x_then (x_then (x_hit (n_then (c_seq (wp_reg zd (l_v (zmS rfl) (l_v (v_len (et := 5) zk rfl) ?_))))))))
 refine l_v (zmS rfl) (l_v (v_len (et := 5) zk rfl) ?_)
 refine l_v (v_lss rfl rfl) ?_
 refine l_v (zaB rfl) (l_nil (n_then (c_ret (ret1v rfl zq (zvB rfl) ?_))))
 exact ⟨by rw [h3]; congr 1; exact decide_eq_decide.2 zo, E⟩
theorem rBegins_c {w : World} {F G : Nat → Prop} {v kv : Value} {e : Int} {rs : List RgV} {k : List UInt8} (HG1 : AgV tMp w F v (e, rs)) (HS2 : Bv w G kv k) : CallsR Try.prog 37 #[v, kv] w (fun o w' => o = .int .i64 (optI (begI rs k)) ∧ Ext w w') := by
 obtain ⟨a, c, rfl, HSr, he⟩ := HG1.mp
 obtain ⟨a3, c3, rfl⟩ := HS2.shape
 simp only at HSr he
 have hmx := HSr.len_max
 refine enter 22 Try.func37 rfl rfl (by simp) ?_
 refine c_seq ?_
 have E := Keep.refl (K := NoK) w
 replace HSr := HSr.all
 replace HS2 := HS2.all
 refine wp_reg zd (l_to (to_box (zvA rfl) ?_))
 rintro b2 w2 zb2 HB2 e2 z2
 have := e2.size
 try simp only [Value.cells] at HB2
 refine l_v (v_assign rfl) (l_nil (n_then (c_seq (c_seq (wp_reg zd (l_v (v_assign rfl) (l_nil (n_then (c_block ?_)))))))))
 replace E := E.trans e2.keep
 refine c_loop (τ := Nat) [4, 5, 6, 7, 8, 9, 10, 11, 12, 13, 14, 15, 16, 17, 18, 19, 20, 21] (fun i => [(5, .int .i64 i)]) (fun i W => Ext w W ∧ Keep (NoK) w2 W ∧ i ≤ rs.length ∧ idxM (begB k) rs 0 = idxM (begB k) (rs.drop i) i) (fun i => rs.length - i) 0 (by exact ⟨rfl, trivial⟩) (by exact ⟨E, Keep.refl _, Nat.zero_le _, by rw [List.drop_zero]⟩) ?_
 rintro i w101 j ⟨E, EL1, h1, h2⟩
 have := EL1.size
 replace HB2 := HB2.ext EL1
 refine c_seq (c_seq (wp_reg zd (l_v (zmI rfl) (l_v (v_fieldAddr (off := 1) (ft := 22) zk rfl) (l_v (v_load zk rfl (by first | exact HB2.pv 1 _ rfl | assumption)) ?_)))))
 refine l_v (v_len (et := 63) zk rfl) ?_
 refine l_v (v_lss rfl rfl) ?_
 replace HSr := (HSr.ext e2).ext EL1
 replace HS2 := (HS2.ext e2).ext EL1
 refine l_nil (n_then (c_cond rfl rfl (fun hlt => ?_) (fun hlt => ?_)))
 ·
  have hlt := dtrue hlt
  obtain ⟨r, hx, hdr⟩ := getE (l := rs) (i := i) zo
  obtain ⟨q, cs, rfl, hF, _, HPq, hr⟩ := HSr.el hx
  obtain ⟨b5, d5, b6, d6, rfl, HSf, _⟩ := tRg_cells hr
  refine c_skip (n_then (c_seq (c_block (c_seq (wp_reg zd (l_v (v_fieldAddr (off := 1) (ft := 22) zk rfl) (l_v (v_load zk rfl (by first | exact HPq 1 _ rfl | exact pv_1 HPq | exact HB2.pv 1 _ rfl | assumption)) ?_)))))))
  refine l_v (zmI rfl) (l_v (v_indexAddr (et := 63) (sz := 4) (k := i) zk zk rfl rfl (by first | rfl | omega) zo) ?_)
  refine l_v (v_fieldAddr (off := 0) (ft := 33) zk rfl) (l_v (v_load zk rfl (by first | exact HPq 0 _ rfl | exact HB2.pv 0 _ rfl | assumption)) ?_)
  refine l_v (zmS rfl) (l_to (to_f2 zk (zvS rfl) (zvS rfl) (CallsR.mono (SameKey_c HSf HS2) ?_)))
  rintro _ w102 ⟨rfl, e102⟩
  have := e102.size
  replace E := E.trans e102.keep
  replace HSr := HSr.ext e102
  replace HS2 := HS2.ext e102
  replace HB2 := HB2.ext e102
  replace EL1 := EL1.trans e102.keep
  replace HPq := HPq.ext e102
  replace HSf := HSf.ext e102
  refine l_nil (n_then (c_cond rfl rfl (fun hc => ?_) (fun hc => ?_)))
  ·
   refine c_seq (wp_reg zd (l_v (zmI rfl) (l_v (zaI rfl) (l_nil (n_then (c_ret (r_blk (r_then (r_then ?_)))))))))
   refine r_blk (r_then (ret1v rfl zq (zvI rfl) ?_))
   refine ⟨?_, E⟩
   rw [← idxM_begI, h2, hdr, idxM, if_pos (show begB k r = true from hc)]
  refine c_skip (n_blk (n_then (wp_reg zd (l_v (zmI rfl) (l_v (v_add rfl rfl (by first | exact wr_i64 zo zo | rfl)) ?_)))))
  refine l_v (zaI rfl) (l_nil (n_then (⟨i + 1, _, rfl, by (repeat (first | exact Off.of_over _ _ _ | refine Off.upd ?_ zq _ | refine Off.overs ?_ zq _)), ⟨by first | rfl | exact congrArg (Value.int _) zo | (simp; done), trivial⟩, ⟨E, EL1, ?_⟩, ?_⟩)))
  ·
   refine ⟨by omega, ?_⟩
   rw [h2, hdr, idxM, if_neg (by rw [show begB k r = false from hc]; simp)]
  (dsimp only; omega)
 refine c_exit (x_then (x_then (x_hit (n_then (c_seq (wp_reg zd (l_v (v_assign rfl) (l_nil (n_then ?_)))))))))
 refine c_ret (ret1v rfl zq (zvI rfl) ?_)
 refine ⟨?_, E⟩
 rw [← idxM_begI, h2, List.drop_eq_nil_of_le (by have := dfalse hlt; omega)]; rfl
theorem rMayMove_c {w : World} {F : Nat → Prop} {v : Value} {a : MvV} (HG1 : AgV tMv w F v a) : CallsR Try.prog 38 #[v] w (fun o w' => o = .bool (mayMv a) ∧ Ext w w') := by
 obtain ⟨n, f, t, e, og, ng⟩ := a
 obtain ⟨a1, c1, a2, c2, rfl, HS1, HS2, hi1, hi2, hi3⟩ := HG1.mv
 simp only [] at HS1 HS2 hi1 hi2 hi3 ⊢
 have hm1 := HS1.len_max
 have hm2 := HS2.len_max
 refine enter 62 Try.func38 rfl rfl (by simp) ?_
 refine c_seq ?_
 have E := Keep.refl (K := NoK) w
 replace HS1 := HS1.all
 replace HS2 := HS2.all
 refine wp_reg zd (l_to (to_box (zvA rfl) ?_))
 rintro b101 w101 zb101 HB101 e101 z101
 have := e101.size
 try simp only [Value.cells] at HB101
 refine l_v (v_assign rfl) (l_nil (n_then (c_seq (c_seq (wp_reg zd (l_v (v_fieldAddr (off := 0) (ft := 2) zk rfl) (l_v (v_load zk rfl (by first | exact HB101.pv 0 _ rfl | assumption)) ?_)))))))
 refine l_v (v_lss rfl rfl) ?_
 refine l_v (zmB rfl) (l_g1 rfl rfl (fun hG => v_fieldAddr (off := 0) (ft := 2) zk rfl) ?_)
 refine l_g1 rfl rfl (fun hG => v_load zk (gd hG rfl) (by first | exact HB101.pv 0 _ rfl | assumption)) ?_
 refine l_g1 rfl rfl (fun hG => v_gtr (gd hG rfl) rfl) ?_
 refine l_v (v_or rfl rfl) ?_
 refine l_v (zmB rfl) (l_g1 rfl rfl (fun hG => v_fieldAddr (off := 1) (ft := 33) zk rfl) ?_)
 refine l_g1 rfl rfl (fun hG => v_load zk (gd hG rfl) (by first | exact HB101.pv 1 _ rfl | assumption)) ?_
 refine l_g1 rfl rfl (fun hG => v_len (et := 5) zk (gd hG rfl)) ?_
 refine l_g1 rfl rfl (fun hG => v_gtr (gd hG rfl) rfl) ?_
 refine l_v (v_or rfl rfl) ?_
 refine l_v (zmB rfl) (l_g1 rfl rfl (fun hG => v_fieldAddr (off := 4) (ft := 3) zk rfl) ?_)
 refine l_g1 rfl rfl (fun hG => v_load zk (gd hG rfl) (by first | exact HB101.pv 4 _ rfl | assumption)) ?_
 refine l_g1 rfl rfl (fun hG => v_lss (gd hG rfl) rfl) ?_
 refine l_v (v_or rfl rfl) ?_
 refine l_v (zmB rfl) (l_g1 rfl rfl (fun hG => v_fieldAddr (off := 4) (ft := 3) zk rfl) ?_)
 refine l_g1 rfl rfl (fun hG => v_load zk (gd hG rfl) (by first | exact HB101.pv 4 _ rfl | assumption)) ?_
 refine l_g1 rfl rfl (fun hG => v_gtr (gd hG rfl) rfl) ?_
 refine l_v (v_or rfl rfl) ?_
 refine l_v (zmB rfl) (l_g1 rfl rfl (fun hG => v_fieldAddr (off := 5) (ft := 3) zk rfl) ?_)
 refine l_g1 rfl rfl (fun hG => v_load zk (gd hG rfl) (by first | exact HB101.pv 5 _ rfl | assumption)) ?_
 refine l_g1 rfl rfl (fun hG => v_lss (gd hG rfl) rfl) ?_
 refine l_v (v_or rfl rfl) ?_
 refine l_v (zmB rfl) (l_g1 rfl rfl (fun hG => v_fieldAddr (off := 5) (ft := 3) zk rfl) ?_)
 refine l_g1 rfl rfl (fun hG => v_load zk (gd hG rfl) (by first | exact HB101.pv 5 _ rfl | assumption)) ?_
 refine l_g1 rfl rfl (fun hG => v_gtr (gd hG rfl) rfl) ?_
 refine l_v (v_or rfl rfl) ?_
 refine l_v (zmB rfl) (l_g1 rfl rfl (fun hG => v_fieldAddr (off := 4) (ft := 3) zk rfl) ?_)
 refine l_g1 rfl rfl (fun hG => v_load zk (gd hG rfl) (by first | exact HB101.pv 4 _ rfl | assumption)) ?_
 refine l_g1 rfl rfl (fun hG => v_fieldAddr (off := 5) (ft := 3) zk rfl) ?_
 refine l_g1 rfl rfl (fun hG => v_load zk (gd hG rfl) (by first | exact HB101.pv 5 _ rfl | assumption)) ?_
 refine l_g1 rfl rfl (fun hG => v_eql (gd hG rfl) (gd hG rfl)) ?_
 refine l_v (v_or rfl rfl) ?_
 replace E := E.trans e101.keep
 replace HS1 := HS1.ext e101
 replace HS2 := HS2.ext e101
 refine l_nil (n_then (c_cond rfl rfl (fun hc => ?_) (fun hc => ?_)))
 ·
  refine c_seq (wp_reg zd (l_v (v_assign rfl) (l_nil (n_then (c_ret (r_then (ret1v rfl zq (zvB rfl) ?_)))))))
  refine ⟨?_, E⟩
  congr 1; symm; rw [Bool.eq_false_iff]; intro h
  obtain ⟨g1, g2, g3, g4, g5, g6, g7, g8⟩ := mayMv_b h
  have g9 : ¬ og = ng := by intro h9; subst h9; simp [mayMv] at h
  simp only [Bool.or_eq_true, decide_eq_true_eq] at hc
  omega
 have hg : 1 ≤ n ∧ n ≤ 2147483647 ∧ f.length ≤ 24 ∧ 1 ≤ og ∧ og ≤ 4 ∧ 1 ≤ ng ∧ ng ≤ 4 ∧ ¬ og = ng := by
  simp only [Bool.or_eq_false_iff, decide_eq_false_iff_not] at hc
  omega
 obtain ⟨g1, g2, g3, g4, g5, g6, g7, g8⟩ := hg
 have hm : mayMv (n, f, t, e, og, ng) = (if e then keyB t && decide (f < t) else t.isEmpty) := by
  have e4 : grpB og = true := by simp [grpB]; omega
  have e5 : grpB ng = true := by simp [grpB]; omega
  simp only [mayMv, nmB, decide_eq_true g1, decide_eq_true g2, decide_eq_true g3, e4, e5, decide_eq_false g8, Bool.not_false, Bool.and_self, Bool.true_and]
 refine c_skip (n_then (c_seq (c_seq (wp_reg zd (l_v (v_fieldAddr (off := 3) (ft := 4) zk rfl) (l_v (v_load zk rfl (by first | exact HB101.pv 3 _ rfl | assumption)) ?_))))))
 refine l_v (v_not rfl) ?_
 refine l_nil (n_then (c_cond rfl rfl (fun he => ?_) (fun he => ?_)))
 ·
  refine c_seq (wp_reg zd (l_v (v_fieldAddr (off := 2) (ft := 33) zk rfl) (l_v (v_load zk rfl (by first | exact HB101.pv 2 _ rfl | assumption)) ?_)))
  refine l_v (v_len (et := 5) zk rfl) ?_
  refine l_v (v_eql rfl rfl) ?_
  refine l_v (zaB rfl) (l_nil (n_then (c_ret (r_then (ret1v rfl zq (zvB rfl) ?_)))))
  refine ⟨?_, E⟩
  obtain rfl : e = false := by simpa using he
  rw [hm]; congr 1
  simp only [Bool.false_eq_true, if_false]
  rw [← isE_len]
 refine c_skip (n_then (c_seq (wp_reg zd (l_v (v_fieldAddr (off := 2) (ft := 33) zk rfl) (l_v (v_load zk rfl (by first | exact HB101.pv 2 _ rfl | assumption)) ?_)))))
 refine l_v (v_len (et := 5) zk rfl) ?_
 refine l_v (v_leq rfl rfl) ?_
 refine l_v (zmB rfl) (l_g1 rfl rfl (fun hG => v_fieldAddr (off := 1) (ft := 33) zk rfl) ?_)
 refine l_g1 rfl rfl (fun hG => v_load zk (gd hG rfl) (by first | exact HB101.pv 1 _ rfl | assumption)) ?_
 refine l_g1 rfl rfl (fun hG => v_fieldAddr (off := 2) (ft := 33) zk rfl) ?_
 refine l_g1 rfl rfl (fun hG => v_load zk (gd hG rfl) (by first | exact HB101.pv 2 _ rfl | assumption)) ?_
 refine l_g1f rfl rfl (fun hG => to_f2 zk (gd hG rfl) (gd hG rfl) (rLess_c HS1 HS2)) ?_
 rintro w102 e102
 have := e102.size
 refine l_v (v_and rfl rfl) ?_
 refine l_v (zaB rfl) (l_nil (n_then (c_ret (ret1v rfl zq (zvB rfl) ?_))))
 replace E := E.trans e102.keep
 refine ⟨?_, E⟩
 obtain rfl : e = true := by simpa using he
 rw [hm]; congr 1
 simp only [if_true, keyB]
 rw [Bool.eq_iff_iff]
 simp only [Bool.and_eq_true, decide_eq_true_eq]
 replace HS1 := HS1.ext e102
 replace HS2 := HS2.ext e102
 replace HB101 := HB101.ext e102
 constructor
 ·
  intro h
  have h1 : t.length ≤ 24 ∧ f < t := ⟨by have := h.1; omega, h.2⟩
  refine ⟨⟨?_, h1.1⟩, h1.2⟩
  cases t with
  | nil => exact absurd h1.2 (lb_nil _)
  | cons a b => simp
 rintro ⟨⟨h1, h2⟩, h3⟩
 exact ⟨by omega, h3⟩
theorem rMayMap_c {w : World} {F : Nat → Prop} {v : Value} {e : Int} {rs : List RgV} (HG1 : AgV tMp w F v (e, rs)) : CallsR Try.prog 36 #[v] w (fun o w' => o = .bool (mayM (e, rs)) ∧ Ext w w') := by
 obtain ⟨a, c, rfl, HSr, he⟩ := HG1.mp
 simp only at HSr he
 have hmx := HSr.len_max
 refine enter 105 Try.func36 rfl rfl (by simp) ?_
 refine c_seq ?_
 have E := Keep.refl (K := NoK) w
 replace HSr := HSr.all
 refine wp_reg zd (l_to (to_box (zvA rfl) ?_))
 rintro b1 w1 zb1 HB1 e1 z1
 have := e1.size
 try simp only [Value.cells] at HB1
 refine l_v (v_assign rfl) (l_nil (n_then (c_seq (c_seq (wp_reg zd (l_v (v_fieldAddr (off := 0) (ft := 2) zk rfl) (l_v (v_load zk rfl (by first | exact HB1.pv 0 _ rfl | assumption)) ?_)))))))
 refine l_v (v_lss rfl rfl) ?_
 refine l_v (zmB rfl) (l_g1 rfl rfl (fun hG => v_fieldAddr (off := 0) (ft := 2) zk rfl) ?_)
 refine l_g1 rfl rfl (fun hG => v_load zk (gd hG rfl) (by first | exact HB1.pv 0 _ rfl | assumption)) ?_
 refine l_g1 rfl rfl (fun hG => v_gtr (gd hG rfl) rfl) ?_
 refine l_v (v_or rfl rfl) ?_
 refine l_v (zmB rfl) (l_g1 rfl rfl (fun hG => v_fieldAddr (off := 1) (ft := 22) zk rfl) ?_)
 refine l_g1 rfl rfl (fun hG => v_load zk (gd hG rfl) (by first | exact HB1.pv 1 _ rfl | assumption)) ?_
 refine l_g1 rfl rfl (fun hG => v_len (et := 63) zk (gd hG rfl)) ?_
 refine l_g1 rfl rfl (fun hG => v_lss (gd hG rfl) rfl) ?_
 refine l_v (v_or rfl rfl) ?_
 refine l_v (zmB rfl) (l_g1 rfl rfl (fun hG => v_fieldAddr (off := 1) (ft := 22) zk rfl) ?_)
 refine l_g1 rfl rfl (fun hG => v_load zk (gd hG rfl) (by first | exact HB1.pv 1 _ rfl | assumption)) ?_
 refine l_g1 rfl rfl (fun hG => v_len (et := 63) zk (gd hG rfl)) ?_
 refine l_g1 rfl rfl (fun hG => v_gtr (gd hG rfl) rfl) ?_
 refine l_v (v_or rfl rfl) ?_
 replace E := E.trans e1.keep
 replace HSr := HSr.ext e1
 refine l_nil (n_then (c_cond rfl rfl (fun hc => ?_) (fun hc => ?_)))
 ·
  refine c_seq (wp_reg zd (l_v (v_assign rfl) (l_nil (n_then (c_ret (r_then (ret1v rfl zq (zvB rfl) ?_)))))))
  refine ⟨?_, E⟩
  congr 1; symm; rw [Bool.eq_false_iff]; intro h
  obtain ⟨g1, g2, g3, g4, _⟩ := mayM_iff.1 h
  simp only [Bool.or_eq_true, decide_eq_true_eq] at hc
  omega
 have hg : 1 ≤ e ∧ e ≤ 2147483647 ∧ 1 ≤ rs.length ∧ rs.length ≤ 16 := by
  simp only [Bool.or_eq_false_iff, decide_eq_false_iff_not] at hc
  omega
 refine c_skip (n_then (c_seq (c_seq (wp_reg zd (l_v (v_assign rfl) (l_nil (n_then (c_block (c_loop (τ := Nat) [2, 3, 4, 25, 26, 27, 28, 29, 30, 31, 32, 33, 34, 35, 36, 37, 38, 39, 40, 41, 42, 43, 44, 45, 46, 47, 48, 49, 50, 51, 52, 53, 54, 55, 56, 57, 58, 59, 60, 61, 62, 63, 64, 65, 66, 67, 68, 69, 70, 71, 72, 73, 74, 75, 76, 77, 78, 79, 80, 81, 82, 83, 84, 85, 86, 87, 88, 89, 90, 91, 92, 93, 94, 95, 96, 97, 98, 99, 100, 101, 102, 103, 104] (fun i => [(3, .int .i64 i)]) (fun i W => Ext w W ∧ Keep (NoK) w1 W ∧ i ≤ rs.length ∧ ∀ j, j < i → ∀ r, rs[j]? = some r → RgOk rs.length j r rs[j + 1]?) (fun i => rs.length - i) 0 (by exact ⟨rfl, trivial⟩) (by exact ⟨E, Keep.refl _, Nat.zero_le _, fun j hj => by omega⟩) ?_)))))))))
 rintro i w101 j ⟨E, EL1, h1, h2⟩
 have := EL1.size
 replace HB1 := HB1.ext EL1
 refine c_seq (c_seq (wp_reg zd (l_v (zmI rfl) (l_v (v_fieldAddr (off := 1) (ft := 22) zk rfl) (l_v (v_load zk rfl (by first | exact HB1.pv 1 _ rfl | assumption)) ?_)))))
 refine l_v (v_len (et := 63) zk rfl) ?_
 refine l_v (v_lss rfl rfl) ?_
 replace HSr := HSr.ext EL1
 refine l_nil (n_then (c_cond rfl rfl (fun hlt => ?_) (fun hlt => ?_)))
 ·
  have hlt := dtrue hlt
  obtain ⟨x, hx, hdr⟩ := getE (l := rs) (i := i) zo
  obtain ⟨q, cs, hq, hF, _, HPq, hr⟩ := HSr.el hx
  subst hq
  obtain ⟨b5, d5, b6, d6, rfl, HSf, HSt, hgx⟩ := tRg_cells hr
  refine c_skip (n_then (c_seq (c_block (c_seq (wp_reg zd (l_v (v_fieldAddr (off := 1) (ft := 22) zk rfl) (l_v (v_load zk rfl (by first | exact HPq 1 _ rfl | exact pv_1 HPq | exact HB1.pv 1 _ rfl | assumption)) ?_)))))))
  refine l_v (zmI rfl) (l_v (v_indexAddr (et := 63) (sz := 4) (k := i) zk zk rfl rfl (by first | rfl | omega) zo) ?_)
  refine l_v (v_loadA zk rfl (by first | exact HPq | exact HB1.pv | assumption) rfl) ?_
  refine l_to (to_alloc (z := (.agg #[.slice none 0 0, .slice none 0 0, .bool false, .int .i64 0])) (by unfold kZero; kernel_rfl) ?_)
  rintro b4 w4 zb4 HB4 e4 z4
  have := e4.size
  try simp only [Value.cells] at HB4
  refine l_to (to_storeA (n := 4) rfl rfl (zvA rfl) zk rfl dj6 HB4 dj5 ?_)
  rintro w102 HX102 k102 z102
  have := k102.size
  replace HB4 := HX102
  clear HX102
  try simp only [zS, Nat.zero_add, Nat.reduceAdd, List.drop_nil] at HB4
  replace HB1 := (HB1.ext e4).keep k102 dj4
  replace HPq := (HPq.ext e4).keep k102 (by intro h; (try dsimp only at h); (try simp only [add_block] at h); first | omega)
  refine l_nil (n_then (c_seq (c_seq (wp_reg zd (l_v (v_fieldAddr (off := 3) (ft := 3) zk rfl) (l_v (v_load zk rfl (by first | exact HB4.pv 3 _ rfl | exact HPq 3 _ rfl | exact pv_1 HPq | exact HB1.pv 3 _ rfl | assumption)) ?_))))))
  refine l_v (v_lss rfl rfl) ?_
  refine l_v (zmB rfl) (l_g1 rfl rfl (fun hG => v_fieldAddr (off := 3) (ft := 3) zk rfl) ?_)
  refine l_g1 rfl rfl (fun hG => v_load zk (gd hG rfl) (by first | exact HB4.pv 3 _ rfl | exact HPq 3 _ rfl | exact pv_1 HPq | exact HB1.pv 3 _ rfl | assumption)) ?_
  refine l_g1 rfl rfl (fun hG => v_gtr (gd hG rfl) rfl) ?_
  refine l_v (v_or rfl rfl) ?_
  refine l_v (zmB rfl) (l_g1 rfl rfl (fun hG => v_fieldAddr (off := 0) (ft := 33) zk rfl) ?_)
  refine l_g1 rfl rfl (fun hG => v_load zk (gd hG rfl) (by first | exact HB4.pv 0 _ rfl | exact HPq 0 _ rfl | exact HB1.pv 0 _ rfl | assumption)) ?_
  refine l_g1 rfl rfl (fun hG => v_len (et := 5) zk (gd hG rfl)) ?_
  refine l_g1 rfl rfl (fun hG => v_eql (gd hG rfl) rfl) ?_
  refine l_g1 rfl rfl (fun hG => zmI rfl) (l_g1 rfl rfl (fun hG => v_eql (gd hG rfl) rfl) ?_)
  refine l_g1 rfl rfl (fun hG => v_bneq zk (gd hG rfl) (gd hG rfl)) ?_
  refine l_v (v_or rfl rfl) ?_
  refine l_v (zmB rfl) (l_g1 rfl rfl (fun hG => v_fieldAddr (off := 0) (ft := 33) zk rfl) ?_)
  refine l_g1 rfl rfl (fun hG => v_load zk (gd hG rfl) (by first | exact HB4.pv 0 _ rfl | exact HPq 0 _ rfl | exact HB1.pv 0 _ rfl | assumption)) ?_
  refine l_g1 rfl rfl (fun hG => v_len (et := 5) zk (gd hG rfl)) ?_
  refine l_g1 rfl rfl (fun hG => v_gtr (gd hG rfl) rfl) ?_
  refine l_v (v_or rfl rfl) ?_
  refine l_v (zmB rfl) (l_g1 rfl rfl (fun hG => v_fieldAddr (off := 2) (ft := 4) zk rfl) ?_)
  refine l_g1 rfl rfl (fun hG => v_load zk (gd hG rfl) (by first | exact HB4.pv 2 _ rfl | exact HPq 2 _ rfl | exact pv_1 HPq | exact HB1.pv 2 _ rfl | assumption)) ?_
  refine l_g1 rfl rfl (fun hG => zmI rfl) (l_g1 rfl rfl (fun hG => v_add (gd hG rfl) rfl (by first | exact wr_i64 zo zo | rfl)) ?_)
  refine l_g1 rfl rfl (fun hG => v_fieldAddr (off := 1) (ft := 22) zk rfl) ?_
  refine l_g1 rfl rfl (fun hG => v_load zk (gd hG rfl) (by first | exact HB4.pv 1 _ rfl | exact HPq 1 _ rfl | exact pv_1 HPq | exact HB1.pv 1 _ rfl | assumption)) ?_
  refine l_g1 rfl rfl (fun hG => v_len (et := 63) zk (gd hG rfl)) ?_
  refine l_g1 rfl rfl (fun hG => v_lss (gd hG rfl) (gd hG rfl)) ?_
  refine l_g1 rfl rfl (fun hG => v_bneq zk (gd hG rfl) (gd hG rfl)) ?_
  refine l_v (v_or rfl rfl) ?_
  refine l_v (zmB rfl) (l_g1 rfl rfl (fun hG => v_fieldAddr (off := 2) (ft := 4) zk rfl) ?_)
  refine l_g1 rfl rfl (fun hG => v_load zk (gd hG rfl) (by first | exact HB4.pv 2 _ rfl | exact HPq 2 _ rfl | exact pv_1 HPq | exact HB1.pv 2 _ rfl | assumption)) ?_
  refine l_g1 rfl rfl (fun hG => v_not (gd hG rfl)) ?_
  refine l_g1 rfl rfl (fun hG => v_move (t := .bool _) (gd hG rfl)) ?_
  refine l_g2 rfl rfl (fun hG => v_fieldAddr (off := 1) (ft := 33) zk rfl) ?_
  refine l_g2 rfl rfl (fun hG => v_load zk (gd hG rfl) (by first | exact HB4.pv 1 _ rfl | exact HPq 1 _ rfl | exact pv_1 HPq | exact HB1.pv 1 _ rfl | assumption)) ?_
  refine l_g2 rfl rfl (fun hG => v_len (et := 5) zk (gd hG rfl)) ?_
  refine l_g2 rfl rfl (fun hG => v_gtr (gd hG rfl) rfl) ?_
  refine l_g1 rfl rfl (fun hG => v_and (gd hG rfl) (gda hG rfl)) ?_
  refine l_v (v_or rfl rfl) ?_
  replace E := (E.trans e4.keep).step k102 dj3
  replace HSr := (HSr.ext e4).keep k102 dj1
  replace EL1 := (EL1.trans e4.keep).step k102 dj3
  replace HSf := (HSf.ext e4).keep k102 dj1
  replace HSt := (HSt.ext e4).keep k102 dj1
  refine l_nil (n_then (c_cond rfl rfl (fun h81 => ?_) (fun h81 => ?_)))
  ·
   refine c_seq (wp_reg zd (l_v (v_assign rfl) (l_nil (n_then (c_ret (r_then (r_blk (r_then (r_then ?_)))))))))
   refine r_blk (r_then (ret1v rfl zq (zvB rfl) ?_))
   refine ⟨?_, E⟩
   congr 1; symm; rw [Bool.eq_false_iff]; intro h
   have hk := (mayM_iff.1 h).2.2.2.2 i x hx
   obtain ⟨k1, k2⟩ := grpB_range hk.g
   have k3 : (x.1.length : Int) = 0 ↔ (i : Int) = 0 := by rw [show ((i : Int) = 0 ↔ i = 0) from by omega, ← hk.f]; cases x.1 <;> simp; omega
   have k4 := hk.l
   have k5 : x.2.2.1 = decide ((i : Int) + 1 < rs.length) := by rw [hk.e]; exact decide_eq_decide.2 zo
   have k6 := hk.z
   have k7 : decide ((x.1.length : Int) = 0) = decide ((i : Int) = 0) := decide_eq_decide.2 k3
   rw [k7, k5] at h81
   revert k6; rw [k5]; intro k6
   by_cases hn : (i : Int) + 1 < rs.length
   ·
    simp [hn] at h81; omega
   have := k6 (by simpa using hn)
   rw [this] at h81; simp [hn] at h81; omega
  have hk1 : grpB x.2.2.2 = true ∧ (x.1 = [] ↔ i = 0) ∧ x.1.length ≤ 24 ∧ x.2.2.1 = decide (i + 1 < rs.length) ∧ (x.2.2.1 = false → x.2.1 = []) := by
   simp only [Bool.or_eq_false_iff, decide_eq_false_iff_not] at h81
   obtain ⟨⟨⟨⟨⟨j1, j2⟩, j3⟩, j4⟩, j5⟩, j6⟩ := h81
   have e3' : decide ((x.1.length : Int) = 0) = decide ((i : Int) = 0) := by simpa using j3
   have e3 := decide_eq_decide.1 e3'
   have e5 : x.2.2.1 = decide ((i : Int) + 1 < rs.length) := by simpa using j5
   refine ⟨by simp [grpB]; omega, ?_, by omega, by rw [e5]; exact decide_eq_decide.2 zo, fun h9 => ?_⟩
   ·
    rw [← List.length_eq_zero_iff]; omega
   rw [h9] at j6
   have : ¬ 0 < (x.2.1.length : Int) := by simpa using j6
   exact List.eq_nil_of_length_eq_zero zo
  obtain ⟨k1, k2, k3, k4, k5⟩ := hk1
  by_cases hi1 : i + 1 < rs.length
  ·
   refine c_skip (n_then (c_seq ?_))
   obtain ⟨s, hs, _⟩ := getE (l := rs) (i := i + 1) hi1
   obtain ⟨q2, cs2, hq2, hF2, _, HPs, hrs⟩ := HSr.el hs
   cases hq2
   obtain ⟨b7, d7, b8, d8, rfl, HSsf, _⟩ := tRg_cells hrs
   have hend : x.2.2.1 = true := by rw [k4]; simpa using hi1
   refine wp_regd (NoK) zk zd zd ?_
   refine rt_v (fun vals w hR hd => v_fieldAddr (off := 2) (ft := 4) zk rfl) ?_
   refine rt_v (fun vals w hR hd => v_load zk (hd 0 rfl) (by first | exact (HPs.ext hR) 2 _ rfl | exact pv_1 (HPs.ext hR) | exact (HB4.ext hR).pv 2 _ rfl | exact (HPq.ext hR) 2 _ rfl | exact pv_1 (HPq.ext hR) | exact (HB1.ext hR).pv 2 _ rfl | assumption)) ?_
   refine rt_v (fun vals w hR hd => v_move (t := .bool _) (hd 1 rfl)) ?_
   refine rt_g1 rfl (fun vals w hd => hd 2 rfl) (fun vals w hR hd hG => v_fieldAddr (off := 0) (ft := 33) zk rfl) ?_
   refine rt_g1 rfl (fun vals w hd => hd 2 rfl) (fun vals w hR hd hG => v_load zk (gd hG (hd 3 rfl)) (by first | exact (HPs.ext hR) 0 _ rfl | exact (HB4.ext hR).pv 0 _ rfl | exact (HPq.ext hR) 0 _ rfl | exact (HB1.ext hR).pv 0 _ rfl | assumption)) ?_
   refine rt_g1 rfl (fun vals w hd => hd 2 rfl) (fun vals w hR hd hG => v_fieldAddr (off := 1) (ft := 33) zk rfl) ?_
   refine rt_g1 rfl (fun vals w hd => hd 2 rfl) (fun vals w hR hd hG => v_load zk (gd hG (hd 5 rfl)) (by first | exact (HPs.ext hR) 1 _ rfl | exact pv_1 (HPs.ext hR) | exact (HB4.ext hR).pv 1 _ rfl | exact (HPq.ext hR) 1 _ rfl | exact pv_1 (HPq.ext hR) | exact (HB1.ext hR).pv 1 _ rfl | assumption)) ?_
   refine rt_g1f rfl (fun vals w hd => hd 2 rfl) (fun vals w hR hd hG => to_f2 zk (gd hG (hd 4 rfl)) (gd hG (hd 6 rfl)) (rLess_c (HSf.ext hR) (HSt.ext hR))) ?_
   refine rt_g1 rfl (fun vals w hd => hd 2 rfl) (fun vals w hR hd hG => v_not (gd hG (hd 7 rfl))) ?_
   refine rt_g1 rfl (fun vals w hd => hd 2 rfl) (fun vals w hR hd hG => v_move (t := .bool _) (gd hG (hd 8 rfl))) ?_
   refine rt_g2 rfl (fun vals w hd => hd 9 rfl) (fun vals w hR hd hG => v_fieldAddr (off := 1) (ft := 33) zk rfl) ?_
   refine rt_g2 rfl (fun vals w hd => hd 9 rfl) (fun vals w hR hd hG => v_load zk (gd hG (hd 10 rfl)) (by first | exact (HPs.ext hR) 1 _ rfl | exact pv_1 (HPs.ext hR) | exact (HB4.ext hR).pv 1 _ rfl | exact (HPq.ext hR) 1 _ rfl | exact pv_1 (HPq.ext hR) | exact (HB1.ext hR).pv 1 _ rfl | assumption)) ?_
   refine rt_g2 rfl (fun vals w hd => hd 9 rfl) (fun vals w hR hd hG => v_fieldAddr (off := 1) (ft := 22) zk rfl) ?_
   refine rt_g2 rfl (fun vals w hd => hd 9 rfl) (fun vals w hR hd hG => v_load zk (gd hG (hd 12 rfl)) (by first | exact (HPs.ext hR) 1 _ rfl | exact pv_1 (HPs.ext hR) | exact (HB4.ext hR).pv 1 _ rfl | exact (HPq.ext hR) 1 _ rfl | exact pv_1 (HPq.ext hR) | exact (HB1.ext hR).pv 1 _ rfl | assumption)) ?_
   refine rt_g2 rfl (fun vals w hd => hd 9 rfl) (fun vals w hR hd hG => zmI rfl) ?_
   refine rt_g2 rfl (fun vals w hd => hd 9 rfl) (fun vals w hR hd hG => v_add (gd hG (hd 14 rfl)) rfl (by first | exact wr_i64 zo zo | rfl)) ?_
   refine rt_g2 rfl (fun vals w hd => hd 9 rfl) (fun vals w hR hd hG => v_indexAddr (et := 63) (sz := 4) (k := i + 1) zk zk (gd hG (hd 13 rfl)) (gd hG (hd 15 rfl)) (by first | rfl | omega) (hi1)) ?_
   refine rt_g2 rfl (fun vals w hd => hd 9 rfl) (fun vals w hR hd hG => v_fieldAddr (off := 0) (ft := 33) zk (gd hG (hd 16 rfl))) ?_
   refine rt_g2 rfl (fun vals w hd => hd 9 rfl) (fun vals w hR hd hG => v_load zk (gd hG (hd 17 rfl)) (by first | exact (HPs.ext hR) 0 _ rfl | exact (HB4.ext hR).pv 0 _ rfl | exact (HPq.ext hR) 0 _ rfl | exact (HB1.ext hR).pv 0 _ rfl | assumption)) ?_
   refine rt_g2f rfl (fun vals w hd => hd 9 rfl) (fun vals w hR hd hG => to_f2 zk (gd hG (hd 11 rfl)) (gd hG (hd 18 rfl)) (SameKey_c (HSt.ext hR) (HSsf.ext hR))) ?_
   refine rt_g2 rfl (fun vals w hd => hd 9 rfl) (fun vals w hR hd hG => v_not (gd hG (hd 19 rfl))) ?_
   refine rt_g1 rfl (fun vals w hd => hd 2 rfl) (fun vals w hR hd hG => v_or (gd hG (hd 9 rfl)) (gda hG (hd 20 rfl))) ?_
   refine rt_v (fun vals w hR hd => v_and (hd 2 rfl) (hd 21 rfl)) ?_
   refine rt_nil (fun w103 e103 => ?_)
   rintro _ rfl _ rfl _ rfl _ rfl _ rfl _ rfl _ rfl _ rfl _ rfl _ rfl _ rfl _ rfl _ rfl _ rfl _ rfl _ rfl _ rfl _ rfl _ rfl _ rfl _ rfl _ rfl _ rfl
   have := e103.size
   replace E := E.trans e103.keep
   replace HSr := HSr.ext e103
   replace HB1 := HB1.ext e103
   replace EL1 := EL1.trans e103.keep
   replace HPq := HPq.ext e103
   replace HSf := HSf.ext e103
   replace HSt := HSt.ext e103
   replace HB4 := HB4.ext e103
   replace HPs := HPs.ext e103
   replace HSsf := HSsf.ext e103
   refine fin_nil (n_then (c_cond rfl rfl (fun h104 => ?_) (fun h104 => ?_)))
   ·
    refine c_seq (wp_reg zd (l_v (v_assign rfl) (l_nil (n_then (c_ret (r_blk (r_then (r_then (r_blk ?_)))))))))
    refine r_then (ret1v rfl zq (zvB rfl) ?_)
    refine ⟨?_, E⟩
    congr 1; symm; rw [Bool.eq_false_iff]; intro h
    have hk := (mayM_iff.1 h).2.2.2.2 i x hx
    have p1 := (hk.t hend).1
    have p2 := (hk.t hend).2 s hs
    rw [hend] at h104
    simp only [Bool.true_and, Bool.or_eq_true, Bool.not_eq_true', decide_eq_false_iff_not] at h104
    rcases h104 with h | h
    ·
     exact h p1
    exact h p2
   refine c_skip (n_blk (n_then (wp_reg zd (l_v (zmI rfl) (l_v (v_add rfl rfl (by first | exact wr_i64 zo zo | rfl)) ?_)))))
   refine l_v (zaI rfl) (l_nil (n_then (⟨i + 1, _, rfl, by (repeat (first | exact Off.of_over _ _ _ | refine Off.upd ?_ zq _ | refine Off.overs ?_ zq _)), ⟨by first | rfl | exact congrArg (Value.int _) zo | (simp; done), trivial⟩, ⟨E, EL1, ?_⟩, ?_⟩)))
   ·
    refine ⟨by omega, fun j hj r hr => ?_⟩
    rcases Nat.lt_or_ge j i with hji | hji
    ·
     exact h2 j hji r hr
    obtain rfl : j = i := by omega
    obtain rfl : x = r := by rw [hx] at hr; exact Option.some.inj hr
    rw [hend] at h104
    simp only [Bool.true_and, Bool.or_eq_false_iff, Bool.not_eq_false', decide_eq_true_eq] at h104
    exact ⟨k1, k2, k3, k4, fun _ => ⟨h104.1, fun y hy => by rw [hs] at hy; cases hy; exact h104.2⟩, k5⟩
   (dsimp only; omega)
  refine c_skip (n_then (c_seq ?_))
  have hend : x.2.2.1 = false := by rw [k4]; simpa using hi1
  rw [hend] at HB4
  refine wp_regd (NoK) zk zd zd ?_
  refine rt_v (fun vals w hR hd => v_fieldAddr (off := 2) (ft := 4) zk rfl) ?_
  refine rt_v (fun vals w hR hd => v_load zk (hd 0 rfl) (by first | exact (HB4.ext hR).pv 2 _ rfl | exact (HPq.ext hR) 2 _ rfl | exact pv_1 (HPq.ext hR) | exact (HB1.ext hR).pv 2 _ rfl | assumption)) ?_
  refine rt_v (fun vals w hR hd => v_move (t := .bool _) (hd 1 rfl)) ?_
  refine rt_skip (u := .bool false) rfl (fun vals w hd => hd 2 rfl) rfl ?_
  refine rt_skip (u := .bool false) rfl (fun vals w hd => hd 2 rfl) rfl ?_
  refine rt_skip (u := .bool false) rfl (fun vals w hd => hd 2 rfl) rfl ?_
  refine rt_skip (u := .bool false) rfl (fun vals w hd => hd 2 rfl) rfl ?_
  refine rt_skip (u := .bool false) rfl (fun vals w hd => hd 2 rfl) rfl ?_
  refine rt_skip (u := .bool false) rfl (fun vals w hd => hd 2 rfl) rfl ?_
  refine rt_skip (u := .bool false) rfl (fun vals w hd => hd 2 rfl) rfl ?_
  refine rt_skip (u := undef) rfl (fun vals w hd => hd 9 rfl) rfl ?_
  refine rt_skip (u := undef) rfl (fun vals w hd => hd 9 rfl) rfl ?_
  refine rt_skip (u := undef) rfl (fun vals w hd => hd 9 rfl) rfl ?_
  refine rt_skip (u := undef) rfl (fun vals w hd => hd 9 rfl) rfl ?_
  refine rt_skip (u := undef) rfl (fun vals w hd => hd 9 rfl) rfl ?_
  refine rt_skip (u := undef) rfl (fun vals w hd => hd 9 rfl) rfl ?_
  refine rt_skip (u := undef) rfl (fun vals w hd => hd 9 rfl) rfl ?_
  refine rt_skip (u := undef) rfl (fun vals w hd => hd 9 rfl) rfl ?_
  refine rt_skip (u := undef) rfl (fun vals w hd => hd 9 rfl) rfl ?_
  refine rt_skip (u := undef) rfl (fun vals w hd => hd 9 rfl) rfl ?_
  refine rt_skip (u := undef) rfl (fun vals w hd => hd 9 rfl) rfl ?_
  refine rt_skip (u := .bool false) rfl (fun vals w hd => hd 2 rfl) rfl ?_
  refine rt_v (fun vals w hR hd => v_andC (hd 2 rfl)) ?_
  refine rt_nil (fun w104 e104 => ?_)
  rintro _ rfl _ rfl _ rfl _ rfl _ rfl _ rfl _ rfl _ rfl _ rfl _ rfl _ rfl _ rfl _ rfl _ rfl _ rfl _ rfl _ rfl _ rfl _ rfl _ rfl _ rfl _ rfl _ rfl
  have := e104.size
  replace E := E.trans e104.keep
  replace HSr := HSr.ext e104
  replace HB1 := HB1.ext e104
  replace EL1 := EL1.trans e104.keep
  replace HPq := HPq.ext e104
  replace HSf := HSf.ext e104
  replace HSt := HSt.ext e104
  replace HB4 := HB4.ext e104
  refine fin_nil (n_then (c_cond rfl rfl (fun h104 => ?_) (fun h104 => ?_)))
  ·
   cases h104
  refine c_skip (n_blk (n_then (wp_reg zd (l_v (zmI rfl) (l_v (v_add rfl rfl (by first | exact wr_i64 zo zo | rfl)) ?_)))))
  refine l_v (zaI rfl) (l_nil (n_then (⟨i + 1, _, rfl, by (repeat (first | exact Off.of_over _ _ _ | refine Off.upd ?_ zq _ | refine Off.overs ?_ zq _)), ⟨by first | rfl | exact congrArg (Value.int _) zo | (simp; done), trivial⟩, ⟨E, EL1, ?_⟩, ?_⟩)))
  ·
   refine ⟨by omega, fun j hj r hr => ?_⟩
   rcases Nat.lt_or_ge j i with hji | hji
   ·
    exact h2 j hji r hr
   obtain rfl : j = i := by omega
   obtain rfl : x = r := by rw [hx] at hr; exact Option.some.inj hr
   exact ⟨k1, k2, k3, k4, (fun h => by rw [hend] at h; cases h), k5⟩
  (dsimp only; omega)
 refine c_exit (x_then (x_then (x_hit (n_then (c_seq (wp_reg zd (l_v (v_assign rfl) (l_nil (n_then ?_)))))))))
 refine c_ret (ret1v rfl zq (zvB rfl) ?_)
 refine ⟨?_, E⟩
 rw [mayM_iff.2 ⟨hg.1, hg.2.1, hg.2.2.1, hg.2.2.2, fun j r hr => h2 j (by have := dfalse hlt; have := (List.getElem?_eq_some_iff.1 hr).1; omega) r hr⟩]
end Go.Proofs.Yteehplloacefmaa
