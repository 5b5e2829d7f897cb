/- A part of the proof: steps and lemmas for the walks through the given program. -/
import Derived.Test.YtifnkmflmgnfjaaGr
import Derived.Test.YtifnkmflmgnfjaaCa
import Derived.Test.YtifnkmflmgnfjaaJk
import Derived.Test.YtifnkmflmgnfjaaJa
import Derived.Test.YtifnkmflmgnfjaaGd
import Derived.Test.YtifnkmflmgnfjaaCy
namespace Go.Proofs.Ytifnkmflmgnfjaa
open Go.Vc
set_option linter.unusedVariables false
set_option linter.unusedSimpArgs false
set_option maxRecDepth 100000

theorem behM_eq {m : MapV} {i : Nat} {p q : PrV} (hx : m[i]? = some p) (hy : m[i - 1]? = some q) : behM m i = (okP p && (decide (i = 0) || decide (q.1 < p.1))) := by
  unfold behM
  rw [hx]
  cases i with
  | zero => simp
  | succ j =>
    have hy : m[j]? = some q := hy
    simp [hy]
theorem bad_beh {i : Nat} {p q : PrV} : ((((decide ((p.1.length : Int) < 1) || decide ((24 : Int) < p.1.length)) || decide ((40 : Int) < p.2.length))) || (decide ((0 : Int) < i) && !decide (q.1 < p.1))) = !(okP p && (decide (i = 0) || decide (q.1 < p.1))) := by
  unfold okP
  rw [Bool.eq_iff_iff]
  generalize p.1.length = a
  generalize p.2.length = b
  simp only [Bool.or_eq_true, Bool.and_eq_true, decide_eq_true_eq, Bool.not_eq_true', Bool.and_eq_false_iff, Bool.or_eq_false_iff, decide_eq_false_iff_not]
  by_cases h : q.1 < p.1
  · simp only [h, not_true_eq_false, not_false_eq_true, and_true, and_false, or_true, or_false]; omega
  · simp only [h, not_true_eq_false, not_false_eq_true, and_true, and_false, or_true, or_false]; omega
theorem cmp_ge (x y : List UInt8) : decide (0 ≤ cmpB x y) = !decide (x < y) := by
  by_cases h : x < y
  · rw [decide_eq_true h, decide_eq_false (fun h2 => cmpB_ge.1 h2 h)]; rfl
  · rw [decide_eq_false h, decide_eq_true (cmpB_ge.2 h)]; rfl
theorem MayMap_c {w : World} {F : Nat → Prop} {v : Value} {m : MapV} (HS1 : SlV tPr w F v m) : CallsR Try.prog 11 #[v] w (fun o w' => o = .bool (mayMp m) ∧ Ext w w') := by
 obtain ⟨a, c, rfl⟩ := HS1.shape
 have hmx := HS1.len_max
 refine enter 45 Try.func11 rfl rfl (by simp) ?_
 refine c_seq ?_
 have E := Keep.refl (K := NoK) w
 replace HS1 := HS1.all
 refine wp_reg zd (l_v (v_assign rfl) (l_nil (n_then (c_seq (c_seq (wp_reg zd (l_v (zmS rfl) (l_v (v_len (et := 50) zk rfl) ?_))))))))
 refine l_v (v_move rfl) (l_nil (n_then (c_block (c_loop (τ := Nat) [2, 3, 4, 7, 8, 9, 10, 11, 12, 13, 14, 15, 16, 17, 18, 19, 20, 21, 22, 23, 24, 25, 26, 27, 28, 29, 30, 31, 32, 33, 34, 35, 36, 37, 38, 39, 40, 41, 42, 43, 44] (fun i => [(7, .int .i64 i)]) (fun i W => Ext w W ∧ Keep (NoK) w W ∧ i ≤ m.length ∧ ∀ k, k < i → behM m k = true) (fun i => m.length - i) 0 (by exact ⟨rfl, trivial⟩) (by exact ⟨E, Keep.refl _, Nat.zero_le _, fun k hk => by omega⟩) ?_))))
 rintro i w101 j ⟨E, EL1, h1, h2⟩
 have := EL1.size
 refine c_seq (wp_reg zd (l_v (v_lss rfl rfl) ?_))
 replace HS1 := HS1.ext EL1
 refine l_nil (n_then (c_seq (c_cond rfl rfl (fun hlt => ?_) (fun hlt => ?_))))
 ·
  have hlt := dtrue hlt
  obtain ⟨p, hx, _⟩ := getE (l := m) (i := i) zo
  obtain ⟨p', hy, _⟩ := getE (l := m) (i := i - 1) zo
  obtain ⟨q, cs, hqq, hF, _, HPq, hr⟩ := HS1.el hx
  subst hqq
  obtain ⟨a1, c1, a2, c2, rfl, HSk, HSv⟩ := tPr_cells hr
  obtain ⟨q', cs', hq', hF', _, HPp, hr'⟩ := HS1.el hy
  cases hq'
  obtain ⟨a3, c3, a4, c4, rfl, HSj, HSu⟩ := tPr_cells hr'
  have hwr : 0 < i → IntKind.i64.wrap ((i : Int) - 1) = ((i - 1 : Nat) : Int) := fun h => by rw [wr_i64 zo zo]; omega
  refine c_skip (n_then (c_seq (c_block (c_seq (wp_reg zd (l_v (zmI rfl) (l_v (v_indexAddr (et := 50) (sz := 2) (k := i) zk zk rfl rfl (by first | rfl | omega) zo) ?_)))))))
  refine l_v (v_loadA zk rfl (by first | exact HPp | exact HPq | assumption) rfl) ?_
  refine l_to (to_alloc (z := (.agg #[.slice none 0 0, .slice none 0 0])) (by unfold kZero; kernel_rfl) ?_)
  rintro b4 w4 zb4 HB4 e4 z4
  have := e4.size
  try simp only [Value.cells] at HB4
  refine l_v (zaI rfl) (l_to (to_storeA (n := 2) rfl rfl (zvA rfl) zk rfl dj6 HB4 dj5 ?_))
  rintro w102 HX102 k102 z102
  have := k102.size
  replace HB4 := HX102
  clear HX102
  try simp only [zS, Nat.zero_add, Nat.reduceAdd, List.drop_nil] at HB4
  refine l_nil (n_then (c_seq (wp_regd (NoK) zk zd zd ?_)))
  refine rt_v (fun vals w hR hd => v_fieldAddr (off := 0) (ft := 26) zk rfl) ?_
  replace HPq := (HPq.ext e4).keep k102 (by intro h; (try dsimp only at h); (try simp only [add_block] at h); first | omega)
  replace HPp := (HPp.ext e4).keep k102 (by intro h; (try dsimp only at h); (try simp only [add_block] at h); first | omega)
  refine rt_v (fun vals w hR hd => v_load zk (hd 0 rfl) (by first | exact (HB4.ext hR).pv 0 _ rfl | exact (HPp.ext hR) 0 _ rfl | exact (HPq.ext hR) 0 _ rfl | assumption)) ?_
  refine rt_v (fun vals w hR hd => v_len (et := 5) zk (hd 1 rfl)) ?_
  refine rt_v (fun vals w hR hd => v_lss (hd 2 rfl) rfl) ?_
  refine rt_v (fun vals w hR hd => v_move (t := .bool _) (hd 3 rfl)) ?_
  refine rt_g1 rfl (fun vals w hd => hd 4 rfl) (fun vals w hR hd hG => v_fieldAddr (off := 0) (ft := 26) zk rfl) ?_
  refine rt_g1 rfl (fun vals w hd => hd 4 rfl) (fun vals w hR hd hG => v_load zk (gd hG (hd 5 rfl)) (by first | exact (HB4.ext hR).pv 0 _ rfl | exact (HPp.ext hR) 0 _ rfl | exact (HPq.ext hR) 0 _ rfl | assumption)) ?_
  refine rt_g1 rfl (fun vals w hd => hd 4 rfl) (fun vals w hR hd hG => v_len (et := 5) zk (gd hG (hd 6 rfl))) ?_
  refine rt_g1 rfl (fun vals w hd => hd 4 rfl) (fun vals w hR hd hG => v_gtr (gd hG (hd 7 rfl)) rfl) ?_
  refine rt_v (fun vals w hR hd => v_or (hd 4 rfl) (hd 8 rfl)) ?_
  refine rt_v (fun vals w hR hd => v_move (t := .bool _) (hd 9 rfl)) ?_
  refine rt_g1 rfl (fun vals w hd => hd 10 rfl) (fun vals w hR hd hG => v_fieldAddr (off := 1) (ft := 26) zk rfl) ?_
  refine rt_g1 rfl (fun vals w hd => hd 10 rfl) (fun vals w hR hd hG => v_load zk (gd hG (hd 11 rfl)) (by first | exact (HB4.ext hR).pv 1 _ rfl | exact (HPp.ext hR) 1 _ rfl | exact pv_1 (HPp.ext hR) | exact (HPq.ext hR) 1 _ rfl | exact pv_1 (HPq.ext hR) | assumption)) ?_
  refine rt_g1 rfl (fun vals w hd => hd 10 rfl) (fun vals w hR hd hG => v_len (et := 5) zk (gd hG (hd 12 rfl))) ?_
  refine rt_g1 rfl (fun vals w hd => hd 10 rfl) (fun vals w hR hd hG => v_gtr (gd hG (hd 13 rfl)) rfl) ?_
  refine rt_v (fun vals w hR hd => v_or (hd 10 rfl) (hd 14 rfl)) ?_
  refine rt_v (fun vals w hR hd => v_move (t := .bool _) (hd 15 rfl)) ?_
  refine rt_g1 rfl (fun vals w hd => hd 16 rfl) (fun vals w hR hd hG => zmI rfl) ?_
  refine rt_g1 rfl (fun vals w hd => hd 16 rfl) (fun vals w hR hd hG => v_gtr (gd hG (hd 17 rfl)) rfl) ?_
  refine rt_g1 rfl (fun vals w hd => hd 16 rfl) (fun vals w hR hd hG => v_move (t := .bool _) (gd hG (hd 18 rfl))) ?_
  refine rt_g2 rfl (fun vals w hd => hd 19 rfl) (fun vals w hR hd hG => zmS rfl) ?_
  refine rt_g2 rfl (fun vals w hd => hd 19 rfl) (fun vals w hR hd hG => zmI rfl) ?_
  refine rt_g2 rfl (fun vals w hd => hd 19 rfl) (fun vals w hR hd hG => v_sub (gd hG (hd 21 rfl)) rfl (by first | exact wr_i64 zo zo | rfl)) ?_
  refine rt_g2 rfl (fun vals w hd => hd 19 rfl) (fun vals w hR hd hG => v_indexAddr (et := 50) (sz := 2) (k := i - 1) zk zk (gd hG (hd 20 rfl)) (gd hG (hd 22 rfl)) (by (have h := hG; simp at h; first|exact hwr zo|omega|(have := hwr zo; exact this))) zo) ?_
  refine rt_g2 rfl (fun vals w hd => hd 19 rfl) (fun vals w hR hd hG => v_fieldAddr (off := 0) (ft := 26) zk (gd hG (hd 23 rfl))) ?_
  refine rt_g2 rfl (fun vals w hd => hd 19 rfl) (fun vals w hR hd hG => v_load zk (gd hG (hd 24 rfl)) (by first | exact (HB4.ext hR).pv 0 _ rfl | exact (HPp.ext hR) 0 _ rfl | exact (HPq.ext hR) 0 _ rfl | assumption)) ?_
  refine rt_g2 rfl (fun vals w hd => hd 19 rfl) (fun vals w hR hd hG => v_fieldAddr (off := 0) (ft := 26) zk rfl) ?_
  refine rt_g2 rfl (fun vals w hd => hd 19 rfl) (fun vals w hR hd hG => v_load zk (gd hG (hd 26 rfl)) (by first | exact (HB4.ext hR).pv 0 _ rfl | exact (HPp.ext hR) 0 _ rfl | exact (HPq.ext hR) 0 _ rfl | assumption)) ?_
  replace HSk := (HSk.ext e4).keep k102 dj1
  replace HSj := (HSj.ext e4).keep k102 dj1
  refine rt_g2f rfl (fun vals w hd => hd 19 rfl) (fun vals w hR hd hG => to_f2 zk (gd hG (hd 25 rfl)) (gd hG (hd 27 rfl)) (Compare_c (HSj.ext hR) (HSk.ext hR))) ?_
  refine rt_g2 rfl (fun vals w hd => hd 19 rfl) (fun vals w hR hd hG => v_geq (gd hG (hd 28 rfl)) rfl) ?_
  refine rt_g1 rfl (fun vals w hd => hd 16 rfl) (fun vals w hR hd hG => v_and (gd hG (hd 19 rfl)) (gda hG (hd 29 rfl))) ?_
  refine rt_v (fun vals w hR hd => v_or (hd 16 rfl) (hd 30 rfl)) ?_
  refine rt_nil (fun w103 e103 => ?_)
  replace HS1 := (HS1.ext e4).keep k102 dj1
  rintro _ rfl _ rfl _ rfl _ rfl _ rfl _ rfl _ rfl _ rfl _ rfl _ rfl _ rfl _ rfl _ rfl _ rfl _ rfl _ rfl _ rfl _ rfl _ rfl _ rfl _ rfl _ rfl _ rfl _ rfl _ rfl _ rfl _ rfl _ rfl _ rfl _ rfl _ rfl _ rfl
  have := e103.size
  replace E := ((E.trans e4.keep).step k102 dj3).trans e103.keep
  replace EL1 := ((EL1.trans e4.keep).step k102 dj3).trans e103.keep
  replace HS1 := HS1.ext e103
  replace HPq := HPq.ext e103
  replace HSk := HSk.ext e103
  replace HPp := HPp.ext e103
  replace HSj := HSj.ext e103
  replace HB4 := HB4.ext e103
  refine fin_nil (n_then (c_cond rfl rfl (fun h43 => ?_) (fun h43 => ?_)))
  ·
   refine c_seq (wp_reg zd (l_v (v_assign rfl) (l_nil (n_then (c_ret (r_blk (r_then (r_then (r_blk ?_)))))))))
   refine r_then (ret1v rfl zq (zvB rfl) ?_)
   refine ⟨?_, E⟩
   rw [cmp_ge, bad_beh, ← behM_eq hx hy] at h43
   rw [mayMp_no zo (i := i) (by simpa using h43)]
  refine c_skip (n_blk (n_then (wp_reg zd (l_v (v_add rfl rfl (by first | exact wr_i64 zo zo | rfl)) ?_))))
  refine l_v (zmI rfl) (l_nil (n_then (⟨i + 1, _, rfl, by (repeat (first | exact Off.of_over _ _ _ | refine Off.upd ?_ zq _ | refine Off.overs ?_ zq _)), ⟨by first | rfl | exact congrArg (Value.int _) zo | (simp; done), trivial⟩, ⟨E, EL1, ?_⟩, ?_⟩)))
  ·
   refine ⟨by omega, fun k hk => ?_⟩
   rw [cmp_ge, bad_beh, ← behM_eq hx hy] at h43
   rcases Nat.lt_or_ge k i with h | h
   ·
    exact h2 k h
   obtain rfl : k = i := by omega
   simpa using h43
  (dsimp only; omega)
 refine c_exit (x_then (x_then (x_hit (n_then (c_seq (wp_reg zd (l_v (v_assign rfl) (l_nil (n_then ?_)))))))))
 refine c_ret (ret1v rfl zq (zvB rfl) ?_)
 refine ⟨?_, E⟩
 congr 1; symm; exact mayMp_iff.2 fun k hk => h2 k (by have := dfalse hlt; omega)
theorem refMayMap_c {w : World} {F : Nat → Prop} {v : Value} {m : MapV} (HS1 : SlV tPr w F v m) : CallsR Try.prog 12 #[v] w (fun o w' => o = .bool (mayMp m) ∧ Ext w w') := by
 obtain ⟨a, c, rfl⟩ := HS1.shape
 have hmx := HS1.len_max
 refine enter 55 Try.func12 rfl rfl (by simp) ?_
 refine c_seq ?_
 have E := Keep.refl (K := NoK) w
 replace HS1 := HS1.all
 refine wp_reg zd (l_v (v_assign rfl) (l_nil (n_then (c_seq (c_seq (wp_reg zd (l_v (v_assign rfl) (l_nil (n_then ?_)))))))))
 refine c_block (c_loop (τ := Nat) [2, 3, 4, 5, 6, 7, 8, 9, 10, 11, 12, 13, 14, 15, 16, 17, 18, 19, 20, 21, 22, 23, 24, 25, 26, 27, 28, 29, 30, 31, 32, 33, 34, 35, 36, 37, 38, 39, 40, 41, 42, 43, 44, 45, 46, 47, 48, 49, 50, 51, 52, 53, 54] (fun i => [(3, .int .i64 i)]) (fun i W => Ext w W ∧ Keep (NoK) w W ∧ i ≤ m.length ∧ ∀ k, k < i → behM m k = true) (fun i => m.length - i) 0 (by exact ⟨rfl, trivial⟩) (by exact ⟨E, Keep.refl _, Nat.zero_le _, fun k hk => by omega⟩) ?_)
 rintro i w101 j ⟨E, EL1, h1, h2⟩
 have := EL1.size
 refine c_seq (c_seq (wp_reg zd (l_v (zmI rfl) (l_v (zmS rfl) (l_v (v_len (et := 50) zk rfl) ?_)))))
 refine l_v (v_lss rfl rfl) ?_
 replace HS1 := HS1.ext EL1
 refine l_nil (n_then (c_cond rfl rfl (fun hlt => ?_) (fun hlt => ?_)))
 ·
  have hlt := dtrue hlt
  obtain ⟨p, hx, _⟩ := getE (l := m) (i := i) zo
  obtain ⟨p', hy, _⟩ := getE (l := m) (i := i - 1) zo
  obtain ⟨q, cs, hqq, hF, _, HPq, hr⟩ := HS1.el hx
  subst hqq
  obtain ⟨a1, c1, a2, c2, rfl, HSk, HSv⟩ := tPr_cells hr
  obtain ⟨q', cs', hq', hF', _, HPp, hr'⟩ := HS1.el hy
  cases hq'
  obtain ⟨a3, c3, a4, c4, rfl, HSj, HSu⟩ := tPr_cells hr'
  have hwr : 0 < i → IntKind.i64.wrap ((i : Int) - 1) = ((i - 1 : Nat) : Int) := fun h => by rw [wr_i64 zo zo]; omega
  refine c_skip (n_then (c_seq (c_block (c_seq (wp_regd (NoK) zk zd zd ?_)))))
  refine rt_v (fun vals w hR hd => zmS rfl) ?_
  refine rt_v (fun vals w hR hd => zmI rfl) ?_
  refine rt_v (fun vals w hR hd => v_indexAddr (et := 50) (sz := 2) (k := i) zk zk (hd 0 rfl) (hd 1 rfl) (by first | rfl | omega) zo) ?_
  refine rt_v (fun vals w hR hd => v_fieldAddr (off := 0) (ft := 26) zk (hd 2 rfl)) ?_
  refine rt_v (fun vals w hR hd => v_load zk (hd 3 rfl) (by first | exact (HPp.ext hR) 0 _ rfl | exact (HPq.ext hR) 0 _ rfl | assumption)) ?_
  refine rt_v (fun vals w hR hd => v_len (et := 5) zk (hd 4 rfl)) ?_
  refine rt_v (fun vals w hR hd => v_lss (hd 5 rfl) rfl) ?_
  refine rt_v (fun vals w hR hd => v_move (t := .bool _) (hd 6 rfl)) ?_
  refine rt_g1 rfl (fun vals w hd => hd 7 rfl) (fun vals w hR hd hG => zmS rfl) ?_
  refine rt_g1 rfl (fun vals w hd => hd 7 rfl) (fun vals w hR hd hG => zmI rfl) ?_
  refine rt_g1 rfl (fun vals w hd => hd 7 rfl) (fun vals w hR hd hG => v_indexAddr (et := 50) (sz := 2) (k := i) zk zk (gd hG (hd 8 rfl)) (gd hG (hd 9 rfl)) (by first | rfl | omega) zo) ?_
  refine rt_g1 rfl (fun vals w hd => hd 7 rfl) (fun vals w hR hd hG => v_fieldAddr (off := 0) (ft := 26) zk (gd hG (hd 10 rfl))) ?_
  refine rt_g1 rfl (fun vals w hd => hd 7 rfl) (fun vals w hR hd hG => v_load zk (gd hG (hd 11 rfl)) (by first | exact (HPp.ext hR) 0 _ rfl | exact (HPq.ext hR) 0 _ rfl | assumption)) ?_
  refine rt_g1 rfl (fun vals w hd => hd 7 rfl) (fun vals w hR hd hG => v_len (et := 5) zk (gd hG (hd 12 rfl))) ?_
  refine rt_g1 rfl (fun vals w hd => hd 7 rfl) (fun vals w hR hd hG => v_gtr (gd hG (hd 13 rfl)) rfl) ?_
  refine rt_v (fun vals w hR hd => v_or (hd 7 rfl) (hd 14 rfl)) ?_
  refine rt_v (fun vals w hR hd => v_move (t := .bool _) (hd 15 rfl)) ?_
  refine rt_g1 rfl (fun vals w hd => hd 16 rfl) (fun vals w hR hd hG => zmS rfl) ?_
  refine rt_g1 rfl (fun vals w hd => hd 16 rfl) (fun vals w hR hd hG => zmI rfl) ?_
  refine rt_g1 rfl (fun vals w hd => hd 16 rfl) (fun vals w hR hd hG => v_indexAddr (et := 50) (sz := 2) (k := i) zk zk (gd hG (hd 17 rfl)) (gd hG (hd 18 rfl)) (by first | rfl | omega) zo) ?_
  refine rt_g1 rfl (fun vals w hd => hd 16 rfl) (fun vals w hR hd hG => v_fieldAddr (off := 1) (ft := 26) zk (gd hG (hd 19 rfl))) ?_
  refine rt_g1 rfl (fun vals w hd => hd 16 rfl) (fun vals w hR hd hG => v_load zk (gd hG (hd 20 rfl)) (by first | exact (HPp.ext hR) 1 _ rfl | exact pv_1 (HPp.ext hR) | exact (HPq.ext hR) 1 _ rfl | exact pv_1 (HPq.ext hR) | assumption)) ?_
  refine rt_g1 rfl (fun vals w hd => hd 16 rfl) (fun vals w hR hd hG => v_len (et := 5) zk (gd hG (hd 21 rfl))) ?_
  refine rt_g1 rfl (fun vals w hd => hd 16 rfl) (fun vals w hR hd hG => v_gtr (gd hG (hd 22 rfl)) rfl) ?_
  refine rt_v (fun vals w hR hd => v_or (hd 16 rfl) (hd 23 rfl)) ?_
  refine rt_v (fun vals w hR hd => v_move (t := .bool _) (hd 24 rfl)) ?_
  refine rt_g1 rfl (fun vals w hd => hd 25 rfl) (fun vals w hR hd hG => zmI rfl) ?_
  refine rt_g1 rfl (fun vals w hd => hd 25 rfl) (fun vals w hR hd hG => v_gtr (gd hG (hd 26 rfl)) rfl) ?_
  refine rt_g1 rfl (fun vals w hd => hd 25 rfl) (fun vals w hR hd hG => v_move (t := .bool _) (gd hG (hd 27 rfl))) ?_
  refine rt_g2 rfl (fun vals w hd => hd 28 rfl) (fun vals w hR hd hG => zmS rfl) ?_
  refine rt_g2 rfl (fun vals w hd => hd 28 rfl) (fun vals w hR hd hG => zmI rfl) ?_
  refine rt_g2 rfl (fun vals w hd => hd 28 rfl) (fun vals w hR hd hG => v_sub (gd hG (hd 30 rfl)) rfl (by first | exact wr_i64 zo zo | rfl)) ?_
  refine rt_g2 rfl (fun vals w hd => hd 28 rfl) (fun vals w hR hd hG => v_indexAddr (et := 50) (sz := 2) (k := i - 1) zk zk (gd hG (hd 29 rfl)) (gd hG (hd 31 rfl)) (by (have h := hG; simp at h; first|exact hwr zo|omega|(have := hwr zo; exact this))) zo) ?_
  refine rt_g2 rfl (fun vals w hd => hd 28 rfl) (fun vals w hR hd hG => v_fieldAddr (off := 0) (ft := 26) zk (gd hG (hd 32 rfl))) ?_
  refine rt_g2 rfl (fun vals w hd => hd 28 rfl) (fun vals w hR hd hG => v_load zk (gd hG (hd 33 rfl)) (by first | exact (HPp.ext hR) 0 _ rfl | exact (HPq.ext hR) 0 _ rfl | assumption)) ?_
  refine rt_g2 rfl (fun vals w hd => hd 28 rfl) (fun vals w hR hd hG => v_b2s (et := 5) zk zk zk (gd hG (hd 34 rfl)) (by first | exact (HSj.ext hR) | exact (HSk.ext hR) | exact (HS1.ext hR) | assumption)) ?_
  refine rt_g2 rfl (fun vals w hd => hd 28 rfl) (fun vals w hR hd hG => zmS rfl) ?_
  refine rt_g2 rfl (fun vals w hd => hd 28 rfl) (fun vals w hR hd hG => zmI rfl) ?_
  refine rt_g2 rfl (fun vals w hd => hd 28 rfl) (fun vals w hR hd hG => v_indexAddr (et := 50) (sz := 2) (k := i) zk zk (gd hG (hd 36 rfl)) (gd hG (hd 37 rfl)) (by first | rfl | omega) zo) ?_
  refine rt_g2 rfl (fun vals w hd => hd 28 rfl) (fun vals w hR hd hG => v_fieldAddr (off := 0) (ft := 26) zk (gd hG (hd 38 rfl))) ?_
  refine rt_g2 rfl (fun vals w hd => hd 28 rfl) (fun vals w hR hd hG => v_load zk (gd hG (hd 39 rfl)) (by first | exact (HPp.ext hR) 0 _ rfl | exact (HPq.ext hR) 0 _ rfl | assumption)) ?_
  refine rt_g2 rfl (fun vals w hd => hd 28 rfl) (fun vals w hR hd hG => v_b2s (et := 5) zk zk zk (gd hG (hd 40 rfl)) (by first | exact (HSj.ext hR) | exact (HSk.ext hR) | exact (HS1.ext hR) | assumption)) ?_
  refine rt_g2 rfl (fun vals w hd => hd 28 rfl) (fun vals w hR hd hG => v_sge (gd hG (hd 35 rfl)) (gd hG (hd 41 rfl))) ?_
  refine rt_g1 rfl (fun vals w hd => hd 25 rfl) (fun vals w hR hd hG => v_and (gd hG (hd 28 rfl)) (gda hG (hd 42 rfl))) ?_
  refine rt_v (fun vals w hR hd => v_or (hd 25 rfl) (hd 43 rfl)) ?_
  refine rt_nil (fun w102 e102 => ?_)
  rintro _ rfl _ rfl _ rfl _ rfl _ rfl _ rfl _ rfl _ rfl _ rfl _ rfl _ rfl _ rfl _ rfl _ rfl _ rfl _ rfl _ rfl _ rfl _ rfl _ rfl _ rfl _ rfl _ rfl _ rfl _ rfl _ rfl _ rfl _ rfl _ rfl _ rfl _ rfl _ rfl _ rfl _ rfl _ rfl _ rfl _ rfl _ rfl _ rfl _ rfl _ rfl _ rfl _ rfl _ rfl _ rfl
  have := e102.size
  replace E := E.trans e102.keep
  replace HS1 := HS1.ext e102
  replace EL1 := EL1.trans e102.keep
  replace HPq := HPq.ext e102
  replace HSk := HSk.ext e102
  replace HPp := HPp.ext e102
  replace HSj := HSj.ext e102
  refine fin_nil (n_then (c_cond rfl rfl (fun h54 => ?_) (fun h54 => ?_)))
  ·
   refine c_seq (wp_reg zd (l_v (v_assign rfl) (l_nil (n_then (c_ret (r_blk (r_then (r_then (r_blk ?_)))))))))
   refine r_then (ret1v rfl zq (zvB rfl) ?_)
   refine ⟨?_, E⟩
   have h54 : ((((decide ((p.1.length : Int) < 1) || decide ((24 : Int) < p.1.length)) || decide ((40 : Int) < p.2.length))) || (decide ((0 : Int) < i) && !decide (p'.1 < p.1))) = true := h54
   rw [bad_beh, ← behM_eq hx hy] at h54
   rw [mayMp_no zo (i := i) (by simpa using h54)]
  refine c_skip (n_blk (n_then (wp_reg zd (l_v (zmI rfl) (l_v (v_add rfl rfl (by first | exact wr_i64 zo zo | rfl)) ?_)))))
  refine l_v (zaI rfl) (l_nil (n_then (⟨i + 1, _, rfl, by (repeat (first | exact Off.of_over _ _ _ | refine Off.upd ?_ zq _ | refine Off.overs ?_ zq _)), ⟨by first | rfl | exact congrArg (Value.int _) zo | (simp; done), trivial⟩, ⟨E, EL1, ?_⟩, ?_⟩)))
  ·
   refine ⟨by omega, fun k hk => ?_⟩
   have h54 : ((((decide ((p.1.length : Int) < 1) || decide ((24 : Int) < p.1.length)) || decide ((40 : Int) < p.2.length))) || (decide ((0 : Int) < i) && !decide (p'.1 < p.1))) = false := h54
   rw [bad_beh, ← behM_eq hx hy] at h54
   rcases Nat.lt_or_ge k i with h | h
   ·
    exact h2 k h
   obtain rfl : k = i := by omega
   simpa using h54
  (dsimp only; omega)
 refine c_exit (x_then (x_then (x_hit (n_then (c_seq (wp_reg zd (l_v (v_assign rfl) (l_nil (n_then ?_)))))))))
 refine c_ret (ret1v rfl zq (zvB rfl) ?_)
 refine ⟨?_, E⟩
 congr 1; symm; exact mayMp_iff.2 fun k hk => h2 k (by have := dfalse hlt; omega)
end Go.Proofs.Ytifnkmflmgnfjaa

namespace Go.Proofs.Ytifnkmflmgnfjaa
open Go.Vc
set_option linter.unusedVariables false
set_option linter.unusedSimpArgs false
set_option maxRecDepth 100000

theorem findf_d {w : World} {F G : Nat → Prop} {v u : Value} {p : PrV} {k : List UInt8} (HG1 : AgV tPr w F v p) (HS2 : Bv w G u k) : CallsR Try.prog 80 (#[v, u] ++ #[]) w (fun o w' => o = .int .i64 (cmpB p.1 k) ∧ Ext w w') := by
  obtain ⟨cs, rfl, hr⟩ := HG1
  obtain ⟨a1, c1, a2, c2, rfl, HS1, HS3⟩ := tPr_cells hr
  obtain ⟨a3, c3, rfl⟩ := HS2.shape
  show CallsR _ _ #[_, _] _ _
  refine enter 9 Try.func80 rfl rfl (by simp) ?_
  refine c_seq ?_
  have E := Keep.refl (K := NoK) w
  replace HS1 := HS1.all
  replace HS2 := HS2.all
  refine wp_reg zd (l_to (to_box (zvA rfl) ?_))
  rintro b1 w1 zb1 HB1 e1 z1
  have := e1.size
  try simp only [Value.cells] at HB1
  refine l_v (v_assign rfl) (l_nil (n_then (c_seq (wp_reg zd (l_v (v_fieldAddr (off := 0) (ft := 26) zk rfl) (l_v (v_load zk rfl (by first | exact HB1.pv 0 _ rfl | assumption)) ?_))))))
  replace HS1 := HS1.ext e1
  replace HS2 := HS2.ext e1
  refine l_v (zmS rfl) (l_to (to_f2 zk (zvS rfl) (zvS rfl) (CallsR.mono (Compare_c HS1 HS2) ?_)))
  rintro _ w101 ⟨rfl, e101⟩
  have := e101.size
  refine l_v (zaI rfl) (l_nil (n_then (c_ret (ret1v rfl zq (zvI rfl) ?_))))
  replace E := (E.trans e1.keep).trans e101.keep
  exact ⟨rfl, E⟩
theorem fdiv_pow (a k : Nat) : Int.fdiv (a : Int) (2 ^ k) = ((a / 2 ^ k : Nat) : Int) := by
  rw [Int.fdiv_eq_ediv_of_nonneg _ (by exact_mod_cast Nat.zero_le _)]
  push_cast; rfl
theorem BSearch_c {w : World} {F G : Nat → Prop} {v u : Value} {m : MapV} {k : List UInt8} (HSm : SlV tPr w F v m) (HSk : Bv w G u k) (hm : mayMp m = true) (hn : m.length ≤ 1000000) : CallsR Try.prog 79 #[v, u, .func (.func 80) #[] #[]] w (fun o w' => o = .tuple #[.int .i64 (posM m k), .bool (hasM m k)] ∧ Ext w w') := by
 obtain ⟨a, c, rfl⟩ := HSm.shape
 obtain ⟨a2, c2, rfl⟩ := HSk.shape
 have hmx := HSm.len_max
 have hmm := HSm.max
 simp only [maxLen] at hmm
 refine enter 49 Try.func79 rfl rfl (by simp) ?_
 refine c_seq ?_
 have E := Keep.refl (K := NoK) w
 replace HSm := HSm.all
 replace HSk := HSk.all
 refine wp_reg zd (l_v (v_assign rfl) (l_v (v_assign rfl) (l_nil (n_then (c_seq (wp_reg zd (l_v (zmS rfl) (l_v (v_len (et := 50) zk rfl) ?_))))))))
 refine l_v (zaI rfl) (l_nil (n_then (c_seq (wp_reg zd (l_v (zmI rfl) (l_v (v_assign rfl) (l_v (zaI rfl) (l_nil (n_then ?_)))))))))
 refine c_seq (c_block (c_loop (τ := Nat × Nat) [9, 10, 11, 15, 16, 17, 18, 19, 20, 21, 22, 23, 24, 25, 26, 27, 28, 29, 30, 31, 32, 33, 34] (fun (i, y) => [(9, .int .i64 i), (10, .int .i64 y)]) (fun (i, y) W => Ext w W ∧ Keep (NoK) w W ∧ i ≤ y ∧ y ≤ m.length ∧ (∀ t p, t < i → m[t]? = some p → p.1 < k) ∧ (∀ t p, y ≤ t → m[t]? = some p → ¬ p.1 < k)) (fun (i, y) => y - i) (0, m.length) (by exact ⟨rfl, rfl, trivial⟩) (by exact ⟨E, Keep.refl _, Nat.zero_le _, Nat.le_refl _, fun t p ht => by omega, fun t p ht hp => by have := (List.getElem?_eq_some_iff.1 hp).1; omega⟩) ?_))
 rintro ⟨i, y⟩ w101 j ⟨E, EL1, h1, h2, h3, h4⟩
 have := EL1.size
 refine c_seq (c_seq (wp_reg zd (l_v (zmI rfl) (l_v (zmI rfl) (l_v (v_lss rfl rfl) ?_)))))
 replace HSm := HSm.ext EL1
 replace HSk := HSk.ext EL1
 refine l_nil (n_then (c_cond rfl rfl (fun hlt => ?_) (fun hlt => ?_)))
 ·
  have hlt := dtrue hlt
  obtain ⟨h, hh⟩ : ∃ h, h = (i + y) / 2 := ⟨_, rfl⟩
  have hhl : i ≤ h ∧ h < y := by omega
  obtain ⟨p, hx, _⟩ := getE (l := m) (i := h) zo
  obtain ⟨q, cs, hqq, hF, _, HPq, hr⟩ := HSm.el hx
  subst hqq
  have HG5 : AgV tPr _ _ _ p := ⟨cs, rfl, hr⟩
  obtain ⟨a3, c3, a4, c4, rfl, _⟩ := tPr_cells hr
  refine c_skip (n_then (c_block (c_seq (wp_reg zd (l_v (zmI rfl) (l_v (zmI rfl) (l_v (v_add (t := ((i : Int) + (y : Int))) rfl rfl (wr_i64 zo zo)) ?_)))))))
  refine l_v (v_conv (ds := .int .i64) zk zk rfl (by first | exact wr_u64 zo zo | rfl)) ?_
  refine l_v (v_shr (t := ((h : Nat) : Int)) rfl rfl (by first | decide | omega) ((by rw [hh]; show Int.fdiv ((i : Int) + (y : Int)) (2 ^ 1) = _; rw [show ((i : Int) + (y : Int)) = ((i + y : Nat) : Int) by push_cast; rfl]; exact fdiv_pow (i + y) 1))) ?_
  refine l_v (v_conv (ds := .int .u64) zk zk rfl (by first | exact wr_i64 zo zo | rfl)) ?_
  refine l_v (zaI rfl) (l_nil (n_then (c_seq (wp_reg zd (l_v (v_move rfl) (l_v (zmS rfl) (l_v (zmI rfl) (l_v (v_indexAddr (et := 50) (sz := 2) (k := h) zk zk rfl rfl (by first | rfl | omega) zo) ?_))))))))
  refine l_v (v_loadA zk rfl (by first | exact HPq | assumption) rfl) ?_
  refine l_v (zmS rfl) (l_to (to_call2 zk rfl (zvA rfl) (zvS rfl) (CallsR.mono (findf_d HG5 HSk) ?_)))
  rintro _ w9 ⟨rfl, e9⟩
  have := e9.size
  refine l_v (v_lss rfl rfl) ?_
  replace E := E.trans e9.keep
  replace HSm := HSm.ext e9
  replace HSk := HSk.ext e9
  replace EL1 := EL1.trans e9.keep
  replace HPq := HPq.ext e9
  replace HG5 := HG5.ext e9
  refine l_nil (n_then (c_cond rfl rfl (fun h31 => ?_) (fun h31 => ?_)))
  ·
   refine wp_reg zd (l_v (zmI rfl) (l_v (v_add rfl rfl (by first | exact wr_i64 zo zo | rfl)) ?_))
   refine l_v (zaI rfl) (l_nil (n_blk (n_then (⟨(h + 1, y), _, rfl, by (repeat (first | exact Off.of_over _ _ _ | refine Off.upd ?_ zq _ | refine Off.overs ?_ zq _)), ⟨by first | rfl | exact congrArg (Value.int _) zo | (simp; done), by first | rfl | exact congrArg (Value.int _) zo | (simp; done), trivial⟩, ⟨E, EL1, ?_⟩, ?_⟩))))
   ·
    refine ⟨by omega, h2, fun t p' ht hp' => ?_, h4⟩
    have h31 := cmpB_lt.1 (dtrue h31)
    rcases Nat.lt_or_ge t h with h9 | h9
    ·
     exact lb_trans (mayMp_lt hm (h - t - 1) t hp' (by rw [show t + (h - t - 1) + 1 = h by omega]; exact hx)) h31
    obtain rfl : t = h := by omega
    rw [hx] at hp'; cases hp'; exact h31
   (dsimp only; omega)
  refine wp_reg zd (l_v (zmI rfl) (l_v (zaI rfl) (l_nil (n_blk (n_then (⟨(i, h), _, rfl, by (repeat (first | exact Off.of_over _ _ _ | refine Off.upd ?_ zq _ | refine Off.overs ?_ zq _)), ⟨by first | rfl | exact congrArg (Value.int _) zo | (simp; done), by first | rfl | exact congrArg (Value.int _) zo | (simp; done), trivial⟩, ⟨E, EL1, ?_⟩, ?_⟩))))))
  ·
   refine ⟨by omega, by omega, h3, fun t p' ht hp' => ?_⟩
   have h31 : ¬ p.1 < k := fun h9 => dfalse h31 (cmpB_lt.2 h9)
   rcases Nat.lt_or_ge h t with h9 | h9
   ·
    exact fun h10 => h31 (lb_trans (mayMp_lt hm (t - h - 1) h hx (by rw [show h + (t - h - 1) + 1 = t by omega]; exact hp')) h10)
   obtain rfl : t = h := by omega
   rw [hx] at hp'; cases hp'; exact h31
  (dsimp only; omega)
 have hij : i = y := by have := dfalse hlt; omega
 subst hij
 have hpos : posM m k = i := posM_of zo h3 fun p hp => h4 i p (Nat.le_refl _) hp
 by_cases hil : i < m.length
 ·
  refine c_exit (x_then (x_then (x_hit (n_then (c_seq ?_)))))
  obtain ⟨p, hx, _⟩ := getE (l := m) (i := i) zo
  obtain ⟨q, cs, hqq, hF, _, HPq, hr⟩ := HSm.el hx
  subst hqq
  have HG5 : AgV tPr _ _ _ p := ⟨cs, rfl, hr⟩
  obtain ⟨a3, c3, a4, c4, rfl, _⟩ := tPr_cells hr
  refine wp_reg zd (l_v (zmI rfl) (l_v (zmI rfl) (l_v (zmI rfl) (l_v (OpVat.as (b := true) (v_lss rfl rfl) (decide_eq_true zo)) ?_))))
  refine l_v (zmB rfl) (l_gt rfl rfl (OpTo.of_v (v_move rfl) ?_))
  refine l_gt rfl rfl (OpTo.of_v (zmS rfl) ?_)
  refine l_gt rfl rfl (OpTo.of_v (zmI rfl) ?_)
  refine l_gt rfl rfl (OpTo.of_v (v_indexAddr (et := 50) (sz := 2) (k := i) zk zk rfl rfl (by first | rfl | omega) zo) ?_)
  refine l_gt rfl rfl (OpTo.of_v (v_loadA zk rfl (by first | exact HPq | assumption) rfl) ?_)
  refine l_gt rfl rfl (OpTo.of_v (zmS rfl) ?_)
  refine l_gt rfl rfl (to_call2 zk rfl (zvA rfl) (zvS rfl) (CallsR.mono (findf_d HG5 HSk) ?_))
  rintro _ w9 ⟨rfl, e9⟩
  have := e9.size
  refine l_gt rfl rfl (OpTo.of_v (v_eql rfl rfl) ?_)
  refine l_v (v_andT rfl rfl) ?_
  refine l_v (zaI rfl) (l_v (zaB rfl) (l_nil (n_then (c_ret (ret2v rfl zq zq (zvI rfl) (zvB rfl) ?_)))))
  replace E := E.trans e9.keep
  refine ⟨?_, E⟩
  rw [hpos]; simp only [hasM, hpos, hx]
  have : decide (cmpB p.1 k = 0) = decide (p.1 = k) := by by_cases h : p.1 = k <;> simp [h, cmpB_z]
  rw [this]
 refine c_exit (x_then (x_then (x_hit (n_then (c_seq (wp_reg zd (l_v (zmI rfl) (l_v (zmI rfl) (l_v (zmI rfl) ?_)))))))))
 refine l_v (OpVat.as (b := false) (v_lss rfl rfl) (decide_eq_false zo)) ?_
 refine l_v (zmB rfl) (l_skip (u := .bool false) rfl rfl rfl ?_)
 refine l_skip (u := .bool false) rfl rfl rfl ?_
 refine l_skip (u := .bool false) rfl rfl rfl ?_
 refine l_skip (u := .bool false) rfl rfl rfl ?_
 refine l_skip (u := .bool false) rfl rfl rfl ?_
 refine l_skip (u := .bool false) rfl rfl rfl ?_
 refine l_skip (u := .bool false) rfl rfl rfl ?_
 refine l_skip (u := .bool false) rfl rfl rfl ?_
 refine l_v (v_andC rfl) ?_
 refine l_v (zaI rfl) (l_v (zaB rfl) (l_nil (n_then (c_ret (ret2v rfl zq zq (zvI rfl) (zvB rfl) ?_)))))
 refine ⟨?_, E⟩
 rw [hpos]; simp only [hasM, hpos, List.getElem?_eq_none (show m.length ≤ i by omega)]
theorem find_c {w : World} {F G : Nat → Prop} {v u : Value} {m : MapV} {k : List UInt8} (HSm : SlV tPr w F v m) (HSk : Bv w G u k) (hm : mayMp m = true) (hn : m.length ≤ 1000000) : CallsR Try.prog 61 #[v, u] w (fun o w' => o = .tuple #[.int .i64 (posM m k), .bool (hasM m k)] ∧ Ext w w') := by
  obtain ⟨a, c, rfl⟩ := HSm.shape
  obtain ⟨a2, c2, rfl⟩ := HSk.shape
  refine enter 11 Try.func61 rfl rfl (by simp) ?_
  refine c_seq ?_
  have E := Keep.refl (K := NoK) w
  replace HSm := HSm.all
  replace HSk := HSk.all
  refine wp_reg zd (l_v (v_assign rfl) (l_v (v_assign rfl) (l_nil (n_then (c_seq (wp_reg zd (l_v (zmS rfl) (l_v (zmS rfl) (l_to (to_f3 zk (zvS rfl) (zvS rfl) rfl (CallsR.mono (BSearch_c HSm HSk hm hn) ?_)))))))))))
  rintro _ w101 ⟨rfl, e101⟩
  have := e101.size
  refine l_v (v_extract (t := .int _ _) rfl rfl) (l_v (v_extract (t := .bool _) rfl rfl) (l_v (zaI rfl) (l_v (zaB rfl) (l_nil (n_then (c_ret (ret2v rfl zq zq (zvI rfl) (zvB rfl) ?_)))))))
  replace E := E.trans e101.keep
  exact ⟨rfl, E⟩
theorem reffind_c {w : World} {F G : Nat → Prop} {v u : Value} {m : MapV} {k : List UInt8} (HSm : SlV tPr w F v m) (HSk : Bv w G u k) : CallsR Try.prog 54 #[v, u] w (fun o w' => o = .tuple #[.int .i64 (posM m k), .bool (hasM m k)] ∧ Ext w w') := by
 obtain ⟨a, c, rfl⟩ := HSm.shape
 obtain ⟨a2, c2, rfl⟩ := HSk.shape
 have hmx := HSm.len_max
 refine enter 40 Try.func54 rfl rfl (by simp) ?_
 refine c_seq ?_
 have E := Keep.refl (K := NoK) w
 replace HSm := HSm.all
 replace HSk := HSk.all
 refine wp_reg zd (l_v (v_assign rfl) (l_v (v_assign rfl) (l_nil (n_then (c_seq (wp_reg zd (l_v (v_assign rfl) (l_nil (n_then ?_)))))))))
 refine c_seq (c_block (c_loop (τ := Nat) [6, 7, 8, 9, 10, 11, 12, 13, 14, 15, 16, 17, 18, 19, 20, 21, 22, 23] (fun i => [(6, .int .i64 i)]) (fun i W => Ext w W ∧ Keep (NoK) w W ∧ i ≤ m.length ∧ (∀ t p, t < i → m[t]? = some p → p.1 < k)) (fun i => m.length - i) 0 (by exact ⟨rfl, trivial⟩) (by exact ⟨E, Keep.refl _, Nat.zero_le _, fun t p ht => by omega⟩) ?_))
 rintro i w101 j ⟨E, EL1, h1, h3⟩
 have := EL1.size
 replace HSm := HSm.ext EL1
 replace HSk := HSk.ext EL1
 by_cases hil : i < m.length
 ·
  refine c_seq (c_seq ?_)
  obtain ⟨p, hx, _⟩ := getE (l := m) (i := i) zo
  obtain ⟨q, cs, hqq, hF, _, HPq, hr⟩ := HSm.el hx
  subst hqq
  obtain ⟨a3, c3, a4, c4, rfl, HSp, _⟩ := tPr_cells hr
  refine wp_regd (NoK) zk zd zd ?_
  refine rt_v (fun vals w hR hd => zmI rfl) ?_
  refine rt_v (fun vals w hR hd => zmS rfl) ?_
  refine rt_v (fun vals w hR hd => v_len (et := 50) zk (hd 1 rfl)) ?_
  refine rt_v (fun vals w hR hd => OpVat.as (b := true) (v_lss (hd 0 rfl) (hd 2 rfl)) (decide_eq_true zo)) ?_
  refine rt_v (fun vals w hR hd => v_move (t := .bool _) (hd 3 rfl)) ?_
  refine rt_hv rfl (fun vals w hd => hd 4 rfl) (fun vals w hR hd => zmS rfl) ?_
  refine rt_hv rfl (fun vals w hd => hd 4 rfl) (fun vals w hR hd => zmI rfl) ?_
  refine rt_hv rfl (fun vals w hd => hd 4 rfl) (fun vals w hR hd => v_indexAddr (et := 50) (sz := 2) (k := i) zk zk (hd 5 rfl) (hd 6 rfl) (by first | rfl | omega) zo) ?_
  refine rt_hv rfl (fun vals w hd => hd 4 rfl) (fun vals w hR hd => v_fieldAddr (off := 0) (ft := 26) zk (hd 7 rfl)) ?_
  refine rt_hv rfl (fun vals w hd => hd 4 rfl) (fun vals w hR hd => v_load zk (hd 8 rfl) (by first | exact (HPq.ext hR) 0 _ rfl | assumption)) ?_
  refine rt_hv rfl (fun vals w hd => hd 4 rfl) (fun vals w hR hd => v_b2s (et := 5) zk zk zk (hd 9 rfl) (by first | exact (HSp.ext hR) | exact (HSk.ext hR) | exact (HSm.ext hR) | assumption)) ?_
  refine rt_hv rfl (fun vals w hd => hd 4 rfl) (fun vals w hR hd => zmS rfl) ?_
  refine rt_hv rfl (fun vals w hd => hd 4 rfl) (fun vals w hR hd => v_b2s (et := 5) zk zk zk (hd 11 rfl) (by first | exact (HSp.ext hR) | exact (HSk.ext hR) | exact (HSm.ext hR) | assumption)) ?_
  refine rt_hv rfl (fun vals w hd => hd 4 rfl) (fun vals w hR hd => v_slt (hd 10 rfl) (hd 12 rfl)) ?_
  refine rt_v (fun vals w hR hd => v_andT (hd 4 rfl) (hd 13 rfl)) ?_
  refine rt_nil (fun w102 e102 => ?_)
  rintro _ rfl _ rfl _ rfl _ rfl _ rfl _ rfl _ rfl _ rfl _ rfl _ rfl _ rfl _ rfl _ rfl _ rfl _ rfl
  have := e102.size
  replace E := E.trans e102.keep
  replace HSm := HSm.ext e102
  replace HSk := HSk.ext e102
  replace EL1 := EL1.trans e102.keep
  replace HPq := HPq.ext e102
  replace HSp := HSp.ext e102
  refine fin_nil (n_then (c_cond rfl rfl (fun hlt => ?_) (fun hlt => ?_)))
  ·
   refine c_skip (n_then (c_block (wp_reg zd (l_v (zmI rfl) (l_v (v_add rfl rfl (by first | exact wr_i64 zo zo | rfl)) ?_)))))
   refine l_v (zaI rfl) (l_nil (n_blk (n_then (⟨i + 1, _, rfl, by (repeat (first | exact Off.of_over _ _ _ | refine Off.upd ?_ zq _ | refine Off.overs ?_ zq _)), ⟨by first | rfl | exact congrArg (Value.int _) zo | (simp; done), trivial⟩, ⟨E, EL1, ?_⟩, ?_⟩))))
   ·
    refine ⟨by omega, fun t p' ht hp' => ?_⟩
    have hlt : p.1 < k := by simpa using hlt
    rcases Nat.lt_or_ge t i with h9 | h9
    ·
     exact h3 t p' h9 hp'
    obtain rfl : t = i := by omega
    rw [hx] at hp'; cases hp'; exact hlt
   (dsimp only; omega)
  have hpos : posM m k = i := posM_of zo h3 fun p' hp => by rw [hx] at hp; cases hp; simpa using hlt
  refine c_exit (x_then (x_then (x_hit (n_then (c_seq (wp_regd (NoK) zk zd zd ?_))))))
  refine rt_v (fun vals w hR hd => zmI rfl) ?_
  refine rt_v (fun vals w hR hd => zmI rfl) ?_
  refine rt_v (fun vals w hR hd => zmS rfl) ?_
  refine rt_v (fun vals w hR hd => v_len (et := 50) zk (hd 2 rfl)) ?_
  refine rt_v (fun vals w hR hd => OpVat.as (b := true) (v_lss (hd 1 rfl) (hd 3 rfl)) (decide_eq_true zo)) ?_
  refine rt_v (fun vals w hR hd => v_move (t := .bool _) (hd 4 rfl)) ?_
  refine rt_hv rfl (fun vals w hd => hd 5 rfl) (fun vals w hR hd => zmS rfl) ?_
  refine rt_hv rfl (fun vals w hd => hd 5 rfl) (fun vals w hR hd => zmI rfl) ?_
  refine rt_hv rfl (fun vals w hd => hd 5 rfl) (fun vals w hR hd => v_indexAddr (et := 50) (sz := 2) (k := i) zk zk (hd 6 rfl) (hd 7 rfl) (by first | rfl | omega) zo) ?_
  refine rt_hv rfl (fun vals w hd => hd 5 rfl) (fun vals w hR hd => v_fieldAddr (off := 0) (ft := 26) zk (hd 8 rfl)) ?_
  refine rt_hv rfl (fun vals w hd => hd 5 rfl) (fun vals w hR hd => v_load zk (hd 9 rfl) (by first | exact (HPq.ext hR) 0 _ rfl | assumption)) ?_
  refine rt_hv rfl (fun vals w hd => hd 5 rfl) (fun vals w hR hd => v_b2s (et := 5) zk zk zk (hd 10 rfl) (by first | exact (HSp.ext hR) | exact (HSk.ext hR) | exact (HSm.ext hR) | assumption)) ?_
  refine rt_hv rfl (fun vals w hd => hd 5 rfl) (fun vals w hR hd => zmS rfl) ?_
  refine rt_hv rfl (fun vals w hd => hd 5 rfl) (fun vals w hR hd => v_b2s (et := 5) zk zk zk (hd 12 rfl) (by first | exact (HSp.ext hR) | exact (HSk.ext hR) | exact (HSm.ext hR) | assumption)) ?_
  refine rt_hv rfl (fun vals w hd => hd 5 rfl) (fun vals w hR hd => v_seq (hd 11 rfl) (hd 13 rfl)) ?_
  refine rt_v (fun vals w hR hd => v_andT (hd 5 rfl) (hd 14 rfl)) ?_
  refine rt_v (fun vals w hR hd => v_assign (t := .int _ _) (hd 0 rfl)) ?_
  refine rt_v (fun vals w hR hd => v_assign (t := .bool _) (hd 15 rfl)) ?_
  refine rt_nil (fun w103 e103 => ?_)
  rintro _ rfl _ rfl _ rfl _ rfl _ rfl _ rfl _ rfl _ rfl _ rfl _ rfl _ rfl _ rfl _ rfl _ rfl _ rfl _ rfl _ rfl _ rfl
  have := e103.size
  refine fin_nil (n_then (c_ret (ret2v rfl zq zq (zvI rfl) (zvB rfl) ?_)))
  replace E := E.trans e103.keep
  refine ⟨?_, E⟩
  rw [hpos]; simp only [hasM, hpos, hx]
 refine c_seq (c_seq ?_)
 have hpos : posM m k = i := posM_of zo h3 fun p' hp => by have := (List.getElem?_eq_some_iff.1 hp).1; omega
 refine wp_regd (NoK) zk zd zd ?_
 refine rt_v (fun vals w hR hd => zmI rfl) ?_
 refine rt_v (fun vals w hR hd => zmS rfl) ?_
 refine rt_v (fun vals w hR hd => v_len (et := 50) zk (hd 1 rfl)) ?_
 refine rt_v (fun vals w hR hd => OpVat.as (b := false) (v_lss (hd 0 rfl) (hd 2 rfl)) (decide_eq_false zo)) ?_
 refine rt_v (fun vals w hR hd => v_move (t := .bool _) (hd 3 rfl)) ?_
 refine rt_skip (u := .bool false) rfl (fun vals w hd => hd 4 rfl) rfl ?_
 refine rt_skip (u := .bool false) rfl (fun vals w hd => hd 4 rfl) rfl ?_
 refine rt_skip (u := .bool false) rfl (fun vals w hd => hd 4 rfl) rfl ?_
 refine rt_skip (u := .bool false) rfl (fun vals w hd => hd 4 rfl) rfl ?_
 refine rt_skip (u := .bool false) rfl (fun vals w hd => hd 4 rfl) rfl ?_
 refine rt_skip (u := .bool false) rfl (fun vals w hd => hd 4 rfl) rfl ?_
 refine rt_skip (u := .bool false) rfl (fun vals w hd => hd 4 rfl) rfl ?_
 refine rt_skip (u := .bool false) rfl (fun vals w hd => hd 4 rfl) rfl ?_
 refine rt_skip (u := .bool false) rfl (fun vals w hd => hd 4 rfl) rfl ?_
 refine rt_v (fun vals w hR hd => v_andC (hd 4 rfl)) ?_
 refine rt_nil (fun w104 e104 => ?_)
 rintro _ rfl _ rfl _ rfl _ rfl _ rfl _ rfl _ rfl _ rfl _ rfl _ rfl _ rfl _ rfl _ rfl _ rfl _ rfl
 have := e104.size
 replace E := E.trans e104.keep
 replace HSm := HSm.ext e104
 replace HSk := HSk.ext e104
 replace EL1 := EL1.trans e104.keep
 refine fin_nil (n_then (c_cond rfl rfl (fun hlt => ?_) (fun hlt => ?_)))
 ·
  cases hlt
 refine c_exit (x_then (x_then (x_hit (n_then (c_seq (wp_regd (NoK) zk zd zd ?_))))))
 refine rt_v (fun vals w hR hd => zmI rfl) ?_
 refine rt_v (fun vals w hR hd => zmI rfl) ?_
 refine rt_v (fun vals w hR hd => zmS rfl) ?_
 refine rt_v (fun vals w hR hd => v_len (et := 50) zk (hd 2 rfl)) ?_
 refine rt_v (fun vals w hR hd => OpVat.as (b := false) (v_lss (hd 1 rfl) (hd 3 rfl)) (decide_eq_false zo)) ?_
 refine rt_v (fun vals w hR hd => v_move (t := .bool _) (hd 4 rfl)) ?_
 refine rt_skip (u := .bool false) rfl (fun vals w hd => hd 5 rfl) rfl ?_
 refine rt_skip (u := .bool false) rfl (fun vals w hd => hd 5 rfl) rfl ?_
 refine rt_skip (u := .bool false) rfl (fun vals w hd => hd 5 rfl) rfl ?_
 refine rt_skip (u := .bool false) rfl (fun vals w hd => hd 5 rfl) rfl ?_
 refine rt_skip (u := .bool false) rfl (fun vals w hd => hd 5 rfl) rfl ?_
 refine rt_skip (u := .bool false) rfl (fun vals w hd => hd 5 rfl) rfl ?_
 refine rt_skip (u := .bool false) rfl (fun vals w hd => hd 5 rfl) rfl ?_
 refine rt_skip (u := .bool false) rfl (fun vals w hd => hd 5 rfl) rfl ?_
 refine rt_skip (u := .bool false) rfl (fun vals w hd => hd 5 rfl) rfl ?_
 refine rt_v (fun vals w hR hd => v_andC (hd 5 rfl)) ?_
 refine rt_v (fun vals w hR hd => v_assign (t := .int _ _) (hd 0 rfl)) ?_
 refine rt_v (fun vals w hR hd => v_assign (t := .bool _) (hd 15 rfl)) ?_
 refine rt_nil (fun w105 e105 => ?_)
 rintro _ rfl _ rfl _ rfl _ rfl _ rfl _ rfl _ rfl _ rfl _ rfl _ rfl _ rfl _ rfl _ rfl _ rfl _ rfl _ rfl _ rfl _ rfl
 have := e105.size
 refine fin_nil (n_then (c_ret (ret2v rfl zq zq (zvI rfl) (zvB rfl) ?_)))
 replace E := E.trans e105.keep
 refine ⟨?_, E⟩
 rw [hpos]; simp only [hasM, hpos, List.getElem?_eq_none (show m.length ≤ i by omega)]
end Go.Proofs.Ytifnkmflmgnfjaa
