/- A part of the proof: steps and lemmas for the walks through the given program. -/
import Derived.Test.YtifnkmflmgnfjaaGr
import Derived.Test.YtifnkmflmgnfjaaGx
import Derived.Test.YtifnkmflmgnfjaaVc35
import Derived.Test.YtifnkmflmgnfjaaGd
import Derived.Test.YtifnkmflmgnfjaaGz
namespace Go.Proofs.Ytifnkmflmgnfjaa
open Go.Vc
set_option linter.unusedVariables false
set_option linter.unusedSimpArgs false
set_option maxRecDepth 100000

theorem badP_eq (p : PrV) : (decide ((p.1.length : Int) < 1) || decide ((24 : Int) < p.1.length) || decide ((40 : Int) < p.2.length)) = badP p := by
  unfold badP; rw [Bool.eq_iff_iff]; simp only [Bool.or_eq_true, decide_eq_true_eq]; omega
theorem badP_iff {p : PrV} : badP p = true ↔ p.1.length < 1 ∨ 24 < p.1.length ∨ 40 < p.2.length := by
  unfold badP; simp only [Bool.or_eq_true, decide_eq_true_eq]; omega
theorem IndexFuncP_c {w : World} {F : Nat → Prop} {v : Value} {xs : List PrV} {fn : Nat} {cap : Array Value} {p : PrV → Bool} (HSx : SlV tPr w F v xs) (hb : kBody Try.prog fn = true)
    (his : ∀ W u r, Ext w W → AgV tPr W F u r → r ∈ xs → CallsR Try.prog fn (#[u] ++ cap) W (fun o W' => o = .bool (p r) ∧ Ext W W')) :
    CallsR Try.prog 96 #[v, .func (.func fn) #[] cap] w (fun o w' => o = .int .i64 (idxP p xs 0) ∧ Ext w w') := by
 obtain ⟨a, c, rfl⟩ := HSx.shape
 have hmx := HSx.len_max
 refine enter 19 Try.func96 rfl rfl (by simp) ?_
 refine c_seq ?_
 have E := Keep.refl (K := NoK) w
 refine wp_reg zd (l_v (v_assign rfl) (l_nil (n_then (c_seq (c_seq (wp_reg zd (l_v (zmS rfl) (l_v (v_len (et := 50) zk rfl) ?_))))))))
 refine l_v (v_move rfl) (l_nil (n_then (c_block (c_loop (τ := Nat) [4, 5, 8, 9, 10, 11, 12, 13, 14, 15, 16, 17, 18] (fun i => [(8, .int .i64 i)]) (fun i W => Ext w W ∧ Keep (NoK) w W ∧ i ≤ xs.length ∧ idxP p xs 0 = idxP p (xs.drop i) i) (fun i => xs.length - i) 0 (by exact ⟨rfl, trivial⟩) (by exact ⟨E, Keep.refl _, Nat.zero_le _, rfl⟩) ?_))))
 rintro i w101 j ⟨E, EL1, h1, h2⟩
 have := EL1.size
 refine c_seq (wp_reg zd (l_v (v_lss rfl rfl) ?_))
 replace HSx := HSx.ext EL1
 refine l_nil (n_then (c_seq (c_cond rfl rfl (fun hlt => ?_) (fun hlt => ?_))))
 ·
  have hlt := dtrue hlt
  obtain ⟨r, hx, hdr⟩ := getE (l := xs) (i := i) zo
  obtain ⟨q, cs, hq, hF, _, HPq, hr⟩ := HSx.el hx
  subst hq
  have HGq : AgV tPr _ F _ r := ⟨cs, rfl, hr⟩
  obtain ⟨a7, c7, a8, c8, rfl, _⟩ := tPr_cells hr
  refine c_skip (n_then (c_seq (c_block (c_seq (wp_reg zd (l_v (zmI rfl) (l_v (zaI rfl) (l_nil (n_then ?_)))))))))
  refine c_seq (wp_reg zd (l_v (zmF rfl) (l_v (zmS rfl) (l_v (zmI rfl) (l_v (v_indexAddr (et := 50) (sz := 2) (k := i) zk zk rfl rfl (by first | rfl | omega) zo) ?_)))))
  refine l_v (v_loadA zk rfl (by first | exact HPq | assumption) rfl) ?_
  refine l_to (to_call1 hb rfl (zvA rfl) (CallsR.mono (his _ _ _ E HGq (List.mem_of_getElem? hx)) ?_))
  rintro _ w9 ⟨rfl, e9⟩
  have := e9.size
  replace E := E.trans e9.keep
  replace HSx := HSx.ext e9
  replace EL1 := EL1.trans e9.keep
  replace HPq := HPq.ext e9
  replace HGq := HGq.ext e9
  refine l_nil (n_then (c_cond rfl rfl (fun hc => ?_) (fun hc => ?_)))
  ·
   refine c_seq (wp_reg zd (l_v (zmI rfl) (l_v (zaI rfl) (l_nil (n_then (c_ret (r_blk (r_then (r_then ?_)))))))))
   refine r_blk (r_then (ret1v rfl zq (zvI rfl) ?_))
   refine ⟨?_, E⟩
   rw [h2, hdr, idxP, if_pos hc]
  refine c_skip (n_blk (n_then (wp_reg zd (l_v (v_add rfl rfl (by first | exact wr_i64 zo zo | rfl)) ?_))))
  refine l_v (zmI rfl) (l_nil (n_then (⟨i + 1, _, rfl, by (repeat (first | exact Off.of_over _ _ _ | refine Off.upd ?_ zq _ | refine Off.overs ?_ zq _)), ⟨by first | rfl | exact congrArg (Value.int _) zo | (simp; done), trivial⟩, ⟨E, EL1, ?_⟩, ?_⟩)))
  ·
   refine ⟨by omega, ?_⟩
   rw [h2, hdr, idxP, if_neg (by simp [hc])]
  (dsimp only; omega)
 refine c_exit (x_then (x_then (x_hit (n_then (c_seq (wp_reg zd (l_v (v_assign rfl) (l_nil (n_then ?_)))))))))
 refine c_ret (ret1v rfl zq (zvI rfl) ?_)
 refine ⟨?_, E⟩
 rw [h2, List.drop_eq_nil_of_le (by have := dfalse hlt; omega)]; rfl
theorem ContainsFuncP_c {w : World} {F : Nat → Prop} {v : Value} {xs : List PrV} {fn : Nat} {cap : Array Value} {p : PrV → Bool} (HSx : SlV tPr w F v xs) (hb : kBody Try.prog fn = true)
    (his : ∀ W u r, Ext w W → AgV tPr W F u r → r ∈ xs → CallsR Try.prog fn (#[u] ++ cap) W (fun o W' => o = .bool (p r) ∧ Ext W W')) :
    CallsR Try.prog 95 #[v, .func (.func fn) #[] cap] w (fun o w' => o = .bool (xs.any p) ∧ Ext w w') := by
  obtain ⟨a, c, rfl⟩ := HSx.shape
  refine enter 9 Try.func95 rfl rfl (by simp) ?_
  refine c_seq ?_
  have E := Keep.refl (K := NoK) w
  refine wp_reg zd (l_v (v_assign rfl) (l_nil (n_then (c_seq (wp_reg zd (l_v (zmS rfl) (l_v (zmF rfl) (l_to (to_f2 zk (zvS rfl) (show _ = (Value.func _ _ _) from rfl) (CallsR.mono (IndexFuncP_c HSx hb his) ?_))))))))))
  rintro _ w101 ⟨rfl, e101⟩
  have := e101.size
  refine l_v (v_geq rfl rfl) ?_
  refine l_v (zaB rfl) (l_nil (n_then (c_ret (ret1v rfl zq (zvB rfl) ?_))))
  replace E := E.trans e101.keep
  exact ⟨by rw [idxP_any], E⟩

theorem bad_d {w : World} {F : Nat → Prop} {v : Value} {p : PrV} (HG1 : AgV tPr w F v p) : CallsR Try.prog 94 (#[v] ++ #[]) w (fun o w' => o = .bool (badP p) ∧ Ext w w') := by
  obtain ⟨cs, rfl, hr⟩ := HG1
  obtain ⟨a1, c1, a2, c2, rfl, HS1, HS2⟩ := tPr_cells hr
  have hm1 := HS1.len_max
  have hm2 := HS2.len_max
  show CallsR _ _ #[_] _ _
  refine enter 19 Try.func94 rfl rfl (by simp) ?_
  refine c_seq ?_
  have E := Keep.refl (K := NoK) w
  replace HS1 := HS1.all
  replace HS2 := HS2.all
  refine wp_reg zd (l_to (to_box (zvA rfl) ?_))
  rintro b101 w101 zb101 HB101 e101 z101
  have := e101.size
  try simp only [Value.cells] at HB101
  refine l_v (v_assign rfl) (l_nil (n_then (c_seq (wp_reg zd (l_v (v_fieldAddr (off := 0) (ft := 26) zk rfl) (l_v (v_load zk rfl (by first | exact HB101.pv 0 _ rfl | assumption)) ?_))))))
  refine l_v (v_len (et := 5) zk rfl) ?_
  refine l_v (v_lss rfl rfl) ?_
  refine l_v (zmB rfl) (l_g1 rfl rfl (fun hG => v_fieldAddr (off := 0) (ft := 26) zk rfl) ?_)
  refine l_g1 rfl rfl (fun hG => v_load zk (gd hG rfl) (by first | exact HB101.pv 0 _ rfl | assumption)) ?_
  refine l_g1 rfl rfl (fun hG => v_len (et := 5) zk (gd hG rfl)) ?_
  refine l_g1 rfl rfl (fun hG => v_gtr (gd hG rfl) rfl) ?_
  refine l_v (v_or rfl rfl) ?_
  refine l_v (zmB rfl) (l_g1 rfl rfl (fun hG => v_fieldAddr (off := 1) (ft := 26) zk rfl) ?_)
  refine l_g1 rfl rfl (fun hG => v_load zk (gd hG rfl) (by first | exact HB101.pv 1 _ rfl | assumption)) ?_
  refine l_g1 rfl rfl (fun hG => v_len (et := 5) zk (gd hG rfl)) ?_
  refine l_g1 rfl rfl (fun hG => v_gtr (gd hG rfl) rfl) ?_
  refine l_v (v_or rfl rfl) ?_
  refine l_v (zaB rfl) (l_nil (n_then (c_ret (ret1v rfl zq (zvB rfl) ?_))))
  replace E := E.trans e101.keep
  refine ⟨?_, E⟩
  rw [badP_eq]
theorem MayAnswer_c {w : World} {F : Nat → Prop} {v : Value} {a : AnV} (HG1 : AgV tAn w F v a) : CallsR Try.prog 89 #[v] w (fun o w' => o = .bool (mayAn a) ∧ Ext w w') := by
 obtain ⟨a1, c1, a2, c2, rfl, HS1, HS2, he⟩ := HG1.an
 have hm1 := HS1.len_max
 have hm2 := HS2.len_max
 refine enter 31 Try.func89 rfl rfl (by simp) ?_
 refine c_seq ?_
 have E := Keep.refl (K := NoK) w
 replace HS1 := HS1.all
 replace HS2 := HS2.all
 refine wp_reg zd (l_to (to_box (zvA rfl) ?_))
 rintro b101 w101 zb101 HB101 e101 z101
 have := e101.size
 try simp only [Value.cells] at HB101
 refine l_v (v_assign rfl) (l_nil (n_then (c_seq (wp_reg zd (l_v (v_assign rfl) (l_nil (n_then (c_seq (wp_reg zd ?_)))))))))
 refine l_v (v_fieldAddr (off := 0) (ft := 29) zk rfl) (l_v (v_load zk rfl (by first | exact HB101.pv 0 _ rfl | assumption)) ?_)
 refine l_v (v_geq rfl rfl) ?_
 refine l_v (zmB rfl) (l_g1 rfl rfl (fun hG => v_fieldAddr (off := 0) (ft := 29) zk rfl) ?_)
 refine l_g1 rfl rfl (fun hG => v_load zk (gd hG rfl) (by first | exact HB101.pv 0 _ rfl | assumption)) ?_
 refine l_g1 rfl rfl (fun hG => v_leq (gd hG rfl) rfl) ?_
 refine l_v (v_and rfl rfl) ?_
 refine l_v (zmB rfl) (l_g1 rfl rfl (fun hG => v_fieldAddr (off := 1) (ft := 22) zk rfl) ?_)
 refine l_g1 rfl rfl (fun hG => v_load zk (gd hG rfl) (by first | exact HB101.pv 1 _ rfl | assumption)) ?_
 refine l_g1 rfl rfl (fun hG => v_len (et := 50) zk (gd hG rfl)) ?_
 refine l_g1 rfl rfl (fun hG => v_leq (gd hG rfl) rfl) ?_
 refine l_v (v_and rfl rfl) ?_
 refine l_v (zmB rfl) (l_g1 rfl rfl (fun hG => v_fieldAddr (off := 2) (ft := 26) zk rfl) ?_)
 refine l_g1 rfl rfl (fun hG => v_load zk (gd hG rfl) (by first | exact HB101.pv 2 _ rfl | assumption)) ?_
 refine l_g1 rfl rfl (fun hG => v_len (et := 5) zk (gd hG rfl)) ?_
 refine l_g1 rfl rfl (fun hG => v_leq (gd hG rfl) rfl) ?_
 refine l_v (v_and rfl rfl) ?_
 refine l_v (zmB rfl) (l_g1 rfl rfl (fun hG => v_fieldAddr (off := 1) (ft := 22) zk rfl) ?_)
 refine l_g1 rfl rfl (fun hG => v_load zk (gd hG rfl) (by first | exact HB101.pv 1 _ rfl | assumption)) ?_
 replace HS1 := HS1.ext e101
 refine l_g1 rfl rfl (fun hG => v_move rfl) (l_g1f rfl rfl (fun hG => to_f2 zk (gd hG rfl) (gd hG rfl) (ContainsFuncP_c HS1 zk (fun W u r e h _ => bad_d h))) ?_)
 rintro w102 e102
 have := e102.size
 refine l_g1 rfl rfl (fun hG => v_not (gd hG rfl)) ?_
 refine l_v (v_and rfl rfl) ?_
 refine l_v (zaB rfl) (l_nil (n_then (c_ret (ret1v rfl zq (zvB rfl) ?_))))
 replace E := (E.trans e101.keep).trans e102.keep
 refine ⟨?_, E⟩
 unfold mayAn; congr 1; rw [Bool.eq_iff_iff]; simp; omega
theorem mayAn_no {a : AnV} (h : (decide (a.1 < 0) || decide (13 < a.1) || decide ((32 : Int) < a.2.1.length) || decide ((25 : Int) < a.2.2.length)) = true) : mayAn a = false := by
  rw [Bool.eq_false_iff]
  intro hm
  have := mayAn_iff.1 hm
  simp at h; omega
theorem refMayAnswer_c {w : World} {F : Nat → Prop} {v : Value} {a : AnV} (HG1 : AgV tAn w F v a) : CallsR Try.prog 45 #[v] w (fun o w' => o = .bool (mayAn a) ∧ Ext w w') := by
 obtain ⟨a1, c1, a2, c2, rfl, HS1, HS2, he⟩ := HG1.an
 have hm1 := HS1.len_max
 have hm2 := HS2.len_max
 refine enter 53 Try.func45 rfl rfl (by simp) ?_
 refine c_seq ?_
 have E := Keep.refl (K := NoK) w
 replace HS1 := HS1.all
 replace HS2 := HS2.all
 refine wp_reg zd (l_to (to_box (zvA rfl) ?_))
 rintro b101 w101 zb101 HB101 e101 z101
 have := e101.size
 try simp only [Value.cells] at HB101
 refine l_v (v_assign rfl) (l_nil (n_then (c_seq (c_seq (wp_reg zd (l_v (v_fieldAddr (off := 0) (ft := 29) zk rfl) (l_v (v_load zk rfl (by first | exact HB101.pv 0 _ rfl | assumption)) ?_)))))))
 refine l_v (v_lss rfl rfl) ?_
 refine l_v (zmB rfl) (l_g1 rfl rfl (fun hG => v_fieldAddr (off := 0) (ft := 29) zk rfl) ?_)
 refine l_g1 rfl rfl (fun hG => v_load zk (gd hG rfl) (by first | exact HB101.pv 0 _ rfl | assumption)) ?_
 refine l_g1 rfl rfl (fun hG => v_gtr (gd hG rfl) rfl) ?_
 refine l_v (v_or rfl rfl) ?_
 refine l_v (zmB rfl) (l_g1 rfl rfl (fun hG => v_fieldAddr (off := 1) (ft := 22) zk rfl) ?_)
 refine l_g1 rfl rfl (fun hG => v_load zk (gd hG rfl) (by first | exact HB101.pv 1 _ rfl | assumption)) ?_
 refine l_g1 rfl rfl (fun hG => v_len (et := 50) zk (gd hG rfl)) ?_
 refine l_g1 rfl rfl (fun hG => v_gtr (gd hG rfl) rfl) ?_
 refine l_v (v_or rfl rfl) ?_
 refine l_v (zmB rfl) (l_g1 rfl rfl (fun hG => v_fieldAddr (off := 2) (ft := 26) zk rfl) ?_)
 refine l_g1 rfl rfl (fun hG => v_load zk (gd hG rfl) (by first | exact HB101.pv 2 _ rfl | assumption)) ?_
 refine l_g1 rfl rfl (fun hG => v_len (et := 5) zk (gd hG rfl)) ?_
 refine l_g1 rfl rfl (fun hG => v_gtr (gd hG rfl) rfl) ?_
 refine l_v (v_or rfl rfl) ?_
 replace E := E.trans e101.keep
 replace HS1 := HS1.ext e101
 replace HS2 := HS2.ext e101
 refine l_nil (n_then (c_cond rfl rfl (fun h1 => ?_) (fun h1 => ?_)))
 ·
  refine c_seq (wp_reg zd (l_v (v_assign rfl) (l_nil (n_then (c_ret (r_then (ret1v rfl zq (zvB rfl) ?_)))))))
  refine ⟨?_, E⟩
  rw [mayAn_no h1]
 simp only [Bool.or_eq_false_iff, decide_eq_false_iff_not] at h1
 refine c_skip (n_then (c_seq (c_seq (wp_reg zd (l_v (v_assign rfl) (l_nil (n_then (c_block (c_loop (τ := Nat) [2, 3, 4, 25, 26, 27, 28, 29, 30, 31, 32, 33, 34, 35, 36, 37, 38, 39, 40, 41, 42, 43, 44, 45, 46, 47, 48, 49, 50, 51, 52] (fun i => [(3, .int .i64 i)]) (fun i W => Ext w W ∧ Keep (NoK) w101 W ∧ i ≤ a.2.1.length ∧ ∀ p ∈ a.2.1.take i, badP p = false) (fun i => a.2.1.length - i) 0 (by exact ⟨rfl, trivial⟩) (by exact ⟨E, Keep.refl _, Nat.zero_le _, fun p hp => by simp at hp⟩) ?_)))))))))
 rintro i w102 j ⟨E, EL1, h2, h3⟩
 have := EL1.size
 replace HB101 := HB101.ext EL1
 refine c_seq (c_seq (wp_reg zd (l_v (zmI rfl) (l_v (v_fieldAddr (off := 1) (ft := 22) zk rfl) (l_v (v_load zk rfl (by first | exact HB101.pv 1 _ rfl | assumption)) ?_)))))
 refine l_v (v_len (et := 50) zk rfl) ?_
 refine l_v (v_lss rfl rfl) ?_
 replace HS1 := HS1.ext EL1
 replace HS2 := HS2.ext EL1
 refine l_nil (n_then (c_cond rfl rfl (fun hlt => ?_) (fun hlt => ?_)))
 ·
  have hlt := dtrue hlt
  obtain ⟨p, hx, _⟩ := getE (l := a.2.1) (i := i) zo
  obtain ⟨q, cs, hq, hF, _, HPq, hr⟩ := HS1.el hx
  subst hq
  obtain ⟨b1, d1, b2, d2, rfl, HS3, HS4⟩ := tPr_cells hr
  have hm3 := HS3.len_max
  have hm4 := HS4.len_max
  refine c_skip (n_then (c_seq (c_block (c_seq (wp_reg zd (l_v (v_fieldAddr (off := 1) (ft := 22) zk rfl) (l_v (v_load zk rfl (by first | exact HPq 1 _ rfl | exact pv_1 HPq | exact HB101.pv 1 _ rfl | assumption)) ?_)))))))
  refine l_v (zmI rfl) (l_v (v_indexAddr (et := 50) (sz := 2) (k := i) zk zk rfl rfl (by first | rfl | omega) zo) ?_)
  refine l_v (v_loadA zk rfl (by first | exact HPq | exact HB101.pv | assumption) rfl) ?_
  refine l_to (to_alloc (z := (.agg #[.slice none 0 0, .slice none 0 0])) (by unfold kZero; kernel_rfl) ?_)
  rintro b4 w4 zb4 HB4 e4 z4
  have := e4.size
  try simp only [Value.cells] at HB4
  refine l_to (to_storeA (n := 2) rfl rfl (zvA rfl) zk rfl dj6 HB4 dj5 ?_)
  rintro w103 HX103 k103 z103
  have := k103.size
  replace HB4 := HX103
  clear HX103
  try simp only [zS, Nat.zero_add, Nat.reduceAdd, List.drop_nil] at HB4
  replace HB101 := (HB101.ext e4).keep k103 dj4
  refine l_nil (n_then (c_seq (wp_reg zd (l_v (v_fieldAddr (off := 0) (ft := 26) zk rfl) (l_v (v_load zk rfl (by first | exact HB4.pv 0 _ rfl | exact HB101.pv 0 _ rfl | assumption)) ?_)))))
  refine l_v (v_len (et := 5) zk rfl) ?_
  refine l_v (v_lss rfl rfl) ?_
  refine l_v (zmB rfl) (l_g1 rfl rfl (fun hG => v_fieldAddr (off := 0) (ft := 26) zk rfl) ?_)
  refine l_g1 rfl rfl (fun hG => v_load zk (gd hG rfl) (by first | exact HB4.pv 0 _ rfl | exact HB101.pv 0 _ rfl | assumption)) ?_
  refine l_g1 rfl rfl (fun hG => v_len (et := 5) zk (gd hG rfl)) ?_
  refine l_g1 rfl rfl (fun hG => v_gtr (gd hG rfl) rfl) ?_
  refine l_v (v_or rfl rfl) ?_
  refine l_v (zmB rfl) (l_g1 rfl rfl (fun hG => v_fieldAddr (off := 1) (ft := 26) zk rfl) ?_)
  refine l_g1 rfl rfl (fun hG => v_load zk (gd hG rfl) (by first | exact HB4.pv 1 _ rfl | exact HB101.pv 1 _ rfl | assumption)) ?_
  refine l_g1 rfl rfl (fun hG => v_len (et := 5) zk (gd hG rfl)) ?_
  refine l_g1 rfl rfl (fun hG => v_gtr (gd hG rfl) rfl) ?_
  refine l_v (v_or rfl rfl) ?_
  replace E := (E.trans e4.keep).step k103 dj3
  replace HS1 := (HS1.ext e4).keep k103 dj1
  replace HS2 := (HS2.ext e4).keep k103 dj1
  replace EL1 := (EL1.trans e4.keep).step k103 dj3
  replace HPq := HPq.ext e4
  refine l_nil (n_then (c_cond rfl rfl (fun hb => ?_) (fun hb => ?_)))
  ·
   refine c_seq (wp_reg zd (l_v (v_assign rfl) (l_nil (n_then (c_ret (r_blk (r_then (r_then (r_blk ?_)))))))))
   refine r_then (ret1v rfl zq (zvB rfl) ?_)
   refine ⟨?_, E⟩
   have : badP p = true := by rw [← badP_eq]; exact hb
   rw [badP_iff] at this
   congr 1; symm; rw [Bool.eq_false_iff]; intro hm
   have h9 := (mayAn_iff.1 hm).2.2.2 p (List.mem_of_getElem? hx)
   omega
  refine c_skip (n_blk (n_then (wp_reg zd (l_v (zmI rfl) (l_v (v_add rfl rfl (by first | exact wr_i64 zo zo | rfl)) ?_)))))
  refine l_v (zaI rfl) (l_nil (n_then (⟨i + 1, _, rfl, by (repeat (first | exact Off.of_over _ _ _ | refine Off.upd ?_ zq _ | refine Off.overs ?_ zq _)), ⟨by first | rfl | exact congrArg (Value.int _) zo | (simp; done), trivial⟩, ⟨E, EL1, ?_⟩, ?_⟩)))
  ·
   refine ⟨by omega, fun y hy => ?_⟩
   rw [List.take_add_one, hx] at hy
   rcases List.mem_append.1 hy with h | h
   ·
    exact h3 y h
   simp at h; subst h
   rw [← badP_eq]; exact hb
  (dsimp only; omega)
 refine c_exit (x_then (x_then (x_hit (n_then (c_seq (wp_reg zd (l_v (v_assign rfl) (l_nil (n_then ?_)))))))))
 refine c_ret (ret1v rfl zq (zvB rfl) ?_)
 refine ⟨?_, E⟩
 congr 1; symm
 rw [mayAn_iff]
 have hi := dfalse hlt
 rw [List.take_of_length_le zo] at h3
 refine ⟨by omega, by omega, by omega, fun p hp => ?_⟩
 have h8 := h3 p hp
 have h9 : ¬ (p.1.length < 1 ∨ 24 < p.1.length ∨ 40 < p.2.length) := fun h => by rw [badP_iff.2 h] at h8; cases h8
 omega
theorem sameP_d {w : World} {F G : Nat → Prop} {v u : Value} {p q : PrV} (HG1 : AgV tPr w F v p) (HG2 : AgV tPr w G u q) : CallsR Try.prog 65 (#[v, u] ++ #[]) w (fun o w' => o = .bool (decide (p = q)) ∧ Ext w w') := by
 obtain ⟨cs, rfl, hr⟩ := HG1
 obtain ⟨a1, c1, a2, c2, rfl, HS1, HS2⟩ := tPr_cells hr
 obtain ⟨cs', rfl, hr'⟩ := HG2
 obtain ⟨a3, c3, a4, c4, rfl, HS3, HS4⟩ := tPr_cells hr'
 show CallsR _ _ #[_, _] _ _
 refine enter 17 Try.func65 rfl rfl (by simp) ?_
 refine c_seq ?_
 have E := Keep.refl (K := NoK) w
 replace HS1 := HS1.all
 replace HS2 := HS2.all
 replace HS3 := HS3.all
 replace HS4 := HS4.all
 refine wp_reg zd (l_to (to_box (zvA rfl) ?_))
 rintro b101 w101 zb101 HB101 e101 z101
 have := e101.size
 try simp only [Value.cells] at HB101
 refine l_to (to_box (zvA rfl) ?_)
 rintro b102 w102 zb102 HB102 e102 z102
 have := e102.size
 try simp only [Value.cells] at HB102
 replace HB101 := HB101.ext e102
 refine l_v (v_assign rfl) (l_nil (n_then (c_seq (wp_reg zd (l_v (v_fieldAddr (off := 0) (ft := 26) zk rfl) (l_v (v_load zk rfl (by first | exact HB102.pv 0 _ rfl | exact HB101.pv 0 _ rfl | assumption)) ?_))))))
 refine l_v (v_fieldAddr (off := 0) (ft := 26) zk rfl) (l_v (v_load zk rfl (by first | exact HB102.pv 0 _ rfl | exact HB101.pv 0 _ rfl | assumption)) ?_)
 replace HS1 := (HS1.ext e101).ext e102
 replace HS3 := (HS3.ext e101).ext e102
 refine l_to (to_f2 zk (zvS rfl) (zvS rfl) (CallsR.mono (Equal_c HS1 HS3) ?_))
 rintro _ w103 ⟨rfl, e103⟩
 have := e103.size
 refine l_v (zmB rfl) (l_g1 rfl rfl (fun hG => v_fieldAddr (off := 1) (ft := 26) zk rfl) ?_)
 replace HB101 := HB101.ext e103
 replace HB102 := HB102.ext e103
 refine l_g1 rfl rfl (fun hG => v_load zk (gd hG rfl) (by first | exact HB102.pv 1 _ rfl | exact HB101.pv 1 _ rfl | assumption)) ?_
 refine l_g1 rfl rfl (fun hG => v_fieldAddr (off := 1) (ft := 26) zk rfl) ?_
 refine l_g1 rfl rfl (fun hG => v_load zk (gd hG rfl) (by first | exact HB102.pv 1 _ rfl | exact HB101.pv 1 _ rfl | assumption)) ?_
 replace HS2 := ((HS2.ext e101).ext e102).ext e103
 replace HS4 := ((HS4.ext e101).ext e102).ext e103
 refine l_g1f rfl rfl (fun hG => to_f2 zk (gd hG rfl) (gd hG rfl) (Equal_c HS2 HS4)) ?_
 rintro w104 e104
 have := e104.size
 refine l_v (v_and rfl rfl) ?_
 refine l_v (zaB rfl) (l_nil (n_then (c_ret (ret1v rfl zq (zvB rfl) ?_))))
 replace E := (((E.trans e101.keep).trans e102.keep).trans e103.keep).trans e104.keep
 refine ⟨?_, E⟩
 congr 1; rw [Bool.eq_iff_iff]; simp [Prod.ext_iff]
theorem EqualFuncP_c {w : World} {F G : Nat → Prop} {v u : Value} {rs ss : List PrV} (HSr : SlV tPr w F v rs) (HSs : SlV tPr w G u ss) : CallsR Try.prog 64 #[v, u, .func (.func 65) #[] #[]] w (fun o w' => o = .bool (decide (rs = ss)) ∧ Ext w w') := by
 obtain ⟨a, c, rfl⟩ := HSr.shape
 obtain ⟨a2, c2, rfl⟩ := HSs.shape
 have hmx := HSr.len_max
 have hmx2 := HSs.len_max
 refine enter 32 Try.func64 rfl rfl (by simp) ?_
 refine c_seq ?_
 have E := Keep.refl (K := NoK) w
 replace HSr := HSr.all
 replace HSs := HSs.all
 refine wp_reg zd (l_v (v_assign rfl) (l_nil (n_then (c_seq (c_seq (wp_reg zd (l_v (zmS rfl) (l_v (v_len (et := 50) zk rfl) ?_))))))))
 refine l_v (zmS rfl) (l_v (v_len (et := 50) zk rfl) ?_)
 refine l_v (v_neq rfl rfl) ?_
 refine l_nil (n_then (c_cond rfl rfl (fun hc => ?_) (fun hc => ?_)))
 ·
  refine c_seq (wp_reg zd (l_v (v_assign rfl) (l_nil (n_then (c_ret (r_then (ret1v rfl zq (zvB rfl) ?_)))))))
  refine ⟨?_, E⟩
  rw [decide_eq_false]
  intro h; subst h; simp at hc
 have hlen : rs.length = ss.length := by simp at hc; omega
 refine c_skip (n_then (c_seq (c_seq (wp_reg zd (l_v (zmS rfl) (l_v (v_len (et := 50) zk rfl) ?_))))))
 refine l_v (v_move rfl) (l_nil (n_then (c_block (c_loop (τ := Nat) [6, 7, 8, 9, 17, 18, 19, 20, 21, 22, 23, 24, 25, 26, 27, 28, 29, 30, 31] (fun i => [(17, .int .i64 i)]) (fun i W => Ext w W ∧ Keep (NoK) w W ∧ i ≤ rs.length ∧ rs.take i = ss.take i) (fun i => rs.length - i) 0 (by exact ⟨rfl, trivial⟩) (by exact ⟨E, Keep.refl _, Nat.zero_le _, rfl⟩) ?_))))
 rintro i w101 j ⟨E, EL1, h1, h2⟩
 have := EL1.size
 refine c_seq (wp_reg zd (l_v (v_lss rfl rfl) ?_))
 replace HSr := HSr.ext EL1
 replace HSs := HSs.ext EL1
 refine l_nil (n_then (c_seq (c_cond rfl rfl (fun hlt => ?_) (fun hlt => ?_))))
 ·
  have hlt := dtrue hlt
  obtain ⟨r, hx, hdr⟩ := getE (l := rs) (i := i) zo
  obtain ⟨s, hy, hds⟩ := getE (l := ss) (i := i) zo
  obtain ⟨q1, cs1, rfl, hq1, _, HP1, hr1⟩ := HSr.el hx
  obtain ⟨q2, cs2, rfl, hq2, _, HP2, hr2⟩ := HSs.el hy
  have HG5 : AgV tPr _ _ _ r := ⟨cs1, rfl, hr1⟩
  have HG6 : AgV tPr _ _ _ s := ⟨cs2, rfl, hr2⟩
  obtain ⟨b1, d1, b2, d2, rfl, _⟩ := tPr_cells hr1
  obtain ⟨b3, d3, b4, d4, rfl, _⟩ := tPr_cells hr2
  refine c_skip (n_then (c_seq (c_block (c_seq (wp_reg zd (l_v (zmI rfl) (l_v (v_indexAddr (et := 50) (sz := 2) (k := i) zk zk rfl rfl (by first | rfl | omega) zo) ?_)))))))
  refine l_v (v_loadA zk rfl (by first | exact HP2 | exact HP1 | assumption) rfl) ?_
  refine l_to (to_alloc (z := (.agg #[.slice none 0 0, .slice none 0 0])) (by unfold kZero; kernel_rfl) ?_)
  rintro b8 w8 zb8 HB8 e8 z8
  have := e8.size
  try simp only [Value.cells] at HB8
  refine l_v (zaI rfl) (l_to (to_storeA (n := 2) rfl rfl (zvA rfl) zk rfl dj6 HB8 dj5 ?_))
  rintro w102 HX102 k102 z102
  have := k102.size
  replace HB8 := HX102
  clear HX102
  try simp only [zS, Nat.zero_add, Nat.reduceAdd, List.drop_nil] at HB8
  refine l_nil (n_then (c_seq (wp_reg zd (l_v (zmS rfl) (l_v (zmI rfl) (l_v (v_indexAddr (et := 50) (sz := 2) (k := i) zk zk rfl rfl (by first | rfl | omega) zo) ?_))))))
  replace HP1 := (HP1.ext e8).keep k102 (by intro h; (try dsimp only at h); (try simp only [add_block] at h); first | omega)
  replace HP2 := (HP2.ext e8).keep k102 (by intro h; (try dsimp only at h); (try simp only [add_block] at h); first | omega)
  refine l_v (v_loadA zk rfl (by first | exact HB8.pv | exact HP2 | exact HP1 | assumption) rfl) ?_
  refine l_to (to_alloc (z := (.agg #[.slice none 0 0, .slice none 0 0])) (by unfold kZero; kernel_rfl) ?_)
  rintro b9 w9 zb9 HB9 e9 z9
  have := e9.size
  try simp only [Value.cells] at HB9
  refine l_to (to_storeA (n := 2) rfl rfl (zvA rfl) zk rfl dj6 HB9 dj5 ?_)
  rintro w103 HX103 k103 z103
  have := k103.size
  replace HB9 := HX103
  clear HX103
  try simp only [zS, Nat.zero_add, Nat.reduceAdd, List.drop_nil] at HB9
  replace HP1 := (HP1.ext e9).keep k103 (by intro h; (try dsimp only at h); (try simp only [add_block] at h); first | omega)
  replace HP2 := (HP2.ext e9).keep k103 (by intro h; (try dsimp only at h); (try simp only [add_block] at h); first | omega)
  replace HB8 := (HB8.ext e9).keep k103 dj4
  refine l_nil (n_then (c_seq (wp_reg zd (l_v (zmF rfl) (l_v (v_loadA zk rfl (by first | exact HB9.pv | exact HB8.pv | exact HP2 | exact HP1 | assumption) rfl) ?_)))))
  refine l_v (v_loadA zk rfl (by first | exact HB9.pv | exact HB8.pv | exact HP2 | exact HP1 | assumption) rfl) ?_
  replace HG5 := (((HG5.ext e8).keep k102 dj1).ext e9).keep k103 dj1
  replace HG6 := (((HG6.ext e8).keep k102 dj1).ext e9).keep k103 dj1
  refine l_to (to_call2 zk rfl (zvA rfl) (zvA rfl) (CallsR.mono (sameP_d HG5 HG6) ?_))
  replace HSr := (((HSr.ext e8).keep k102 dj1).ext e9).keep k103 dj1
  replace HSs := (((HSs.ext e8).keep k102 dj1).ext e9).keep k103 dj1
  rintro _ w10 ⟨rfl, e10⟩
  have := e10.size
  refine l_v (v_not rfl) ?_
  replace E := ((((E.trans e8.keep).step k102 dj3).trans e9.keep).step k103 dj3).trans e10.keep
  replace EL1 := ((((EL1.trans e8.keep).step k102 dj3).trans e9.keep).step k103 dj3).trans e10.keep
  replace HSr := HSr.ext e10
  replace HSs := HSs.ext e10
  replace HP1 := HP1.ext e10
  replace HP2 := HP2.ext e10
  replace HG5 := HG5.ext e10
  replace HG6 := HG6.ext e10
  replace HB8 := HB8.ext e10
  replace HB9 := HB9.ext e10
  refine l_nil (n_then (c_cond rfl rfl (fun h38 => ?_) (fun h38 => ?_)))
  ·
   refine c_seq (wp_reg zd (l_v (v_assign rfl) (l_nil (n_then (c_ret (r_blk (r_then (r_then (r_blk ?_)))))))))
   refine r_then (ret1v rfl zq (zvB rfl) ?_)
   refine ⟨?_, E⟩
   rw [decide_eq_false]
   rintro h; cases h
   rw [hx] at hy; cases hy
   simp at h38
  refine c_skip (n_blk (n_then (wp_reg zd (l_v (v_add rfl rfl (by first | exact wr_i64 zo zo | rfl)) ?_))))
  refine l_v (zmI rfl) (l_nil (n_then (⟨i + 1, _, rfl, by (repeat (first | exact Off.of_over _ _ _ | refine Off.upd ?_ zq _ | refine Off.overs ?_ zq _)), ⟨by first | rfl | exact congrArg (Value.int _) zo | (simp; done), trivial⟩, ⟨E, EL1, ?_⟩, ?_⟩)))
  ·
   refine ⟨by omega, ?_⟩
   have hs : r = s := by simpa using h38
   rw [List.take_add_one, List.take_add_one, hx, hy, h2, hs]
  (dsimp only; omega)
 have hlt := dfalse hlt
 refine c_exit (x_then (x_then (x_hit (n_then (c_seq (wp_reg zd (l_v (v_assign rfl) (l_nil (n_then ?_)))))))))
 refine c_ret (ret1v rfl zq (zvB rfl) ?_)
 refine ⟨?_, E⟩
 rw [List.take_of_length_le zo, List.take_of_length_le zo] at h2
 rw [decide_eq_true h2]
theorem SameAnswer_c {w : World} {F G : Nat → Prop} {v u : Value} {a b : AnV} (HG1 : AgV tAn w F v a) (HG2 : AgV tAn w G u b) : CallsR Try.prog 42 #[v, u] w (fun o w' => o = .bool (decide (a = b)) ∧ Ext w w') := by
 obtain ⟨a1, c1, a2, c2, rfl, HS1, HS2, he⟩ := HG1.an
 obtain ⟨a3, c3, a4, c4, rfl, HS3, HS4, he2⟩ := HG2.an
 refine enter 24 Try.func42 rfl rfl (by simp) ?_
 refine c_seq ?_
 have E := Keep.refl (K := NoK) w
 replace HS1 := HS1.all
 replace HS2 := HS2.all
 replace HS3 := HS3.all
 replace HS4 := HS4.all
 refine wp_reg zd (l_to (to_box (zvA rfl) ?_))
 rintro b101 w101 zb101 HB101 e101 z101
 have := e101.size
 try simp only [Value.cells] at HB101
 refine l_to (to_box (zvA rfl) ?_)
 rintro b102 w102 zb102 HB102 e102 z102
 have := e102.size
 try simp only [Value.cells] at HB102
 replace HB101 := HB101.ext e102
 refine l_v (v_assign rfl) (l_nil (n_then (c_seq (wp_reg zd (l_v (v_fieldAddr (off := 0) (ft := 29) zk rfl) (l_v (v_load zk rfl (by first | exact HB102.pv 0 _ rfl | exact HB101.pv 0 _ rfl | assumption)) ?_))))))
 refine l_v (v_fieldAddr (off := 0) (ft := 29) zk rfl) (l_v (v_load zk rfl (by first | exact HB102.pv 0 _ rfl | exact HB101.pv 0 _ rfl | assumption)) ?_)
 refine l_v (v_eql rfl rfl) ?_
 refine l_v (zmB rfl) (l_g1 rfl rfl (fun hG => v_fieldAddr (off := 2) (ft := 26) zk rfl) ?_)
 refine l_g1 rfl rfl (fun hG => v_load zk (gd hG rfl) (by first | exact HB102.pv 2 _ rfl | exact HB101.pv 2 _ rfl | assumption)) ?_
 refine l_g1 rfl rfl (fun hG => v_fieldAddr (off := 2) (ft := 26) zk rfl) ?_
 refine l_g1 rfl rfl (fun hG => v_load zk (gd hG rfl) (by first | exact HB102.pv 2 _ rfl | exact HB101.pv 2 _ rfl | assumption)) ?_
 replace HS2 := (HS2.ext e101).ext e102
 replace HS4 := (HS4.ext e101).ext e102
 refine l_g1f rfl rfl (fun hG => to_f2 zk (gd hG rfl) (gd hG rfl) (Equal_c HS2 HS4)) ?_
 rintro w103 e103
 have := e103.size
 refine l_v (v_and rfl rfl) ?_
 refine l_v (zmB rfl) (l_g1 rfl rfl (fun hG => v_fieldAddr (off := 1) (ft := 22) zk rfl) ?_)
 replace HB101 := HB101.ext e103
 replace HB102 := HB102.ext e103
 refine l_g1 rfl rfl (fun hG => v_load zk (gd hG rfl) (by first | exact HB102.pv 1 _ rfl | exact HB101.pv 1 _ rfl | assumption)) ?_
 refine l_g1 rfl rfl (fun hG => v_fieldAddr (off := 1) (ft := 22) zk rfl) ?_
 refine l_g1 rfl rfl (fun hG => v_load zk (gd hG rfl) (by first | exact HB102.pv 1 _ rfl | exact HB101.pv 1 _ rfl | assumption)) ?_
 replace HS1 := ((HS1.ext e101).ext e102).ext e103
 replace HS3 := ((HS3.ext e101).ext e102).ext e103
 refine l_g1f rfl rfl (fun hG => to_f3 zk (gd hG rfl) (gd hG rfl) rfl (EqualFuncP_c HS1 HS3)) ?_
 rintro w104 e104
 have := e104.size
 refine l_v (v_and rfl rfl) ?_
 refine l_v (zaB rfl) (l_nil (n_then (c_ret (ret1v rfl zq (zvB rfl) ?_))))
 replace E := (((E.trans e101.keep).trans e102.keep).trans e103.keep).trans e104.keep
 refine ⟨?_, E⟩
 congr 1; rw [Bool.eq_iff_iff]; simp [Prod.ext_iff]
 replace HS2 := (HS2.ext e103).ext e104
 replace HS4 := (HS4.ext e103).ext e104
 replace HS1 := HS1.ext e104
 replace HS3 := HS3.ext e104
 replace HB101 := HB101.ext e104
 replace HB102 := HB102.ext e104
 constructor
 ·
  rintro ⟨⟨h1, h2⟩, h3⟩; exact ⟨h1, h3, h2⟩
 rintro ⟨h1, h3, h2⟩; exact ⟨⟨h1, h2⟩, h3⟩
theorem refSameAnswer_c {w : World} {F G : Nat → Prop} {v u : Value} {a b : AnV} (HG1 : AgV tAn w F v a) (HG2 : AgV tAn w G u b) : CallsR Try.prog 36 #[v, u] w (fun o w' => o = .bool (decide (a = b)) ∧ Ext w w') := by
 obtain ⟨a1, c1, a2, c2, rfl, HS1, HS2, he⟩ := HG1.an
 obtain ⟨a3, c3, a4, c4, rfl, HS3, HS4, he2⟩ := HG2.an
 have hmx := HS1.len_max
 refine enter 68 Try.func36 rfl rfl (by simp) ?_
 refine c_seq ?_
 have E := Keep.refl (K := NoK) w
 replace HS1 := HS1.all
 replace HS2 := HS2.all
 replace HS3 := HS3.all
 replace HS4 := HS4.all
 refine wp_reg zd (l_to (to_box (zvA rfl) ?_))
 rintro b101 w101 zb101 HB101 e101 z101
 have := e101.size
 try simp only [Value.cells] at HB101
 refine l_to (to_box (zvA rfl) ?_)
 rintro b102 w102 zb102 HB102 e102 z102
 have := e102.size
 try simp only [Value.cells] at HB102
 replace HB101 := HB101.ext e102
 refine l_v (v_assign rfl) (l_nil (n_then (c_seq (c_seq (wp_reg zd (l_v (v_fieldAddr (off := 0) (ft := 29) zk rfl) (l_v (v_load zk rfl (by first | exact HB102.pv 0 _ rfl | exact HB101.pv 0 _ rfl | assumption)) ?_)))))))
 refine l_v (v_fieldAddr (off := 0) (ft := 29) zk rfl) (l_v (v_load zk rfl (by first | exact HB102.pv 0 _ rfl | exact HB101.pv 0 _ rfl | assumption)) ?_)
 refine l_v (v_neq rfl rfl) ?_
 refine l_v (zmB rfl) (l_g1 rfl rfl (fun hG => v_fieldAddr (off := 1) (ft := 22) zk rfl) ?_)
 refine l_g1 rfl rfl (fun hG => v_load zk (gd hG rfl) (by first | exact HB102.pv 1 _ rfl | exact HB101.pv 1 _ rfl | assumption)) ?_
 refine l_g1 rfl rfl (fun hG => v_len (et := 50) zk (gd hG rfl)) ?_
 refine l_g1 rfl rfl (fun hG => v_fieldAddr (off := 1) (ft := 22) zk rfl) ?_
 refine l_g1 rfl rfl (fun hG => v_load zk (gd hG rfl) (by first | exact HB102.pv 1 _ rfl | exact HB101.pv 1 _ rfl | assumption)) ?_
 refine l_g1 rfl rfl (fun hG => v_len (et := 50) zk (gd hG rfl)) ?_
 refine l_g1 rfl rfl (fun hG => v_neq (gd hG rfl) (gd hG rfl)) ?_
 refine l_v (v_or rfl rfl) ?_
 refine l_v (zmB rfl) (l_g1 rfl rfl (fun hG => v_fieldAddr (off := 2) (ft := 26) zk rfl) ?_)
 refine l_g1 rfl rfl (fun hG => v_load zk (gd hG rfl) (by first | exact HB102.pv 2 _ rfl | exact HB101.pv 2 _ rfl | assumption)) ?_
 replace HS1 := (HS1.ext e101).ext e102
 replace HS2 := (HS2.ext e101).ext e102
 replace HS3 := (HS3.ext e101).ext e102
 replace HS4 := (HS4.ext e101).ext e102
 refine l_g1 rfl rfl (fun hG => v_b2s (et := 5) zk zk zk (gd hG rfl) (by first | exact HS4 | exact HS3 | exact HS2 | exact HS1 | assumption)) ?_
 refine l_g1 rfl rfl (fun hG => v_fieldAddr (off := 2) (ft := 26) zk rfl) ?_
 refine l_g1 rfl rfl (fun hG => v_load zk (gd hG rfl) (by first | exact HB102.pv 2 _ rfl | exact HB101.pv 2 _ rfl | assumption)) ?_
 refine l_g1 rfl rfl (fun hG => v_b2s (et := 5) zk zk zk (gd hG rfl) (by first | exact HS4 | exact HS3 | exact HS2 | exact HS1 | assumption)) ?_
 refine l_g1 rfl rfl (fun hG => v_sne (gd hG rfl) (gd hG rfl)) ?_
 refine l_v (v_or rfl rfl) ?_
 replace E := (E.trans e101.keep).trans e102.keep
 refine l_nil (n_then (c_cond rfl rfl (fun hc => ?_) (fun hc => ?_)))
 ·
  refine c_seq (wp_reg zd (l_v (v_assign rfl) (l_nil (n_then (c_ret (r_then (ret1v rfl zq (zvB rfl) ?_)))))))
  refine ⟨?_, E⟩
  rw [decide_eq_false]
  intro h; subst h; simp at hc
 obtain ⟨⟨hce, hcl⟩, hcn⟩ : (a.1 = b.1 ∧ (a.2.1.length : Int) = b.2.1.length) ∧ a.2.2 = b.2.2 := by simpa using hc
 refine c_skip (n_then (c_seq (c_seq (wp_reg zd (l_v (v_assign rfl) (l_nil (n_then (c_block (c_loop (τ := Nat) [4, 5, 29, 30, 31, 32, 33, 34, 35, 36, 37, 38, 39, 40, 41, 42, 43, 44, 45, 46, 47, 48, 49, 50, 51, 52, 53, 54, 55, 56, 57, 58, 59, 60, 61, 62, 63, 64, 65, 66, 67] (fun i => [(5, .int .i64 i)]) (fun i W => Ext w W ∧ Keep (NoK) w102 W ∧ i ≤ a.2.1.length ∧ a.2.1.take i = b.2.1.take i) (fun i => a.2.1.length - i) 0 (by exact ⟨rfl, trivial⟩) (by exact ⟨E, Keep.refl _, Nat.zero_le _, rfl⟩) ?_)))))))))
 rintro i w103 j ⟨E, EL1, h1, h2⟩
 have := EL1.size
 replace HB101 := HB101.ext EL1
 replace HB102 := HB102.ext EL1
 refine c_seq (c_seq (wp_reg zd (l_v (zmI rfl) (l_v (v_fieldAddr (off := 1) (ft := 22) zk rfl) (l_v (v_load zk rfl (by first | exact HB102.pv 1 _ rfl | exact HB101.pv 1 _ rfl | assumption)) ?_)))))
 refine l_v (v_len (et := 50) zk rfl) ?_
 refine l_v (v_lss rfl rfl) ?_
 replace HS1 := HS1.ext EL1
 replace HS2 := HS2.ext EL1
 replace HS3 := HS3.ext EL1
 replace HS4 := HS4.ext EL1
 refine l_nil (n_then (c_cond rfl rfl (fun hlt => ?_) (fun hlt => ?_)))
 ·
  have hlt := dtrue hlt
  obtain ⟨r, hx, hdr⟩ := getE (l := a.2.1) (i := i) zo
  obtain ⟨s, hy, hds⟩ := getE (l := b.2.1) (i := i) zo
  obtain ⟨q1, cs1, hq1, hF1, _, HP1, hr1⟩ := HS1.el hx
  obtain ⟨q2, cs2, hq2, hF2, _, HP2, hr2⟩ := HS3.el hy
  subst hq1 hq2
  obtain ⟨b1, d1, b2, d2, rfl, HS5, HS6⟩ := tPr_cells hr1
  obtain ⟨b3, d3, b4, d4, rfl, HS7, HS8⟩ := tPr_cells hr2
  refine c_skip (n_then (c_seq (c_block (c_seq (wp_regd (NoK) zk zd zd ?_)))))
  refine rt_v (fun vals w hR hd => v_fieldAddr (off := 1) (ft := 22) zk rfl) ?_
  refine rt_v (fun vals w hR hd => v_load zk (hd 0 rfl) (by first | exact (HP2.ext hR) 1 _ rfl | exact pv_1 (HP2.ext hR) | exact (HP1.ext hR) 1 _ rfl | exact pv_1 (HP1.ext hR) | exact (HB102.ext hR).pv 1 _ rfl | exact (HB101.ext hR).pv 1 _ rfl | assumption)) ?_
  refine rt_v (fun vals w hR hd => zmI rfl) ?_
  refine rt_v (fun vals w hR hd => v_indexAddr (et := 50) (sz := 2) (k := i) zk zk (hd 1 rfl) (hd 2 rfl) (by first | rfl | omega) zo) ?_
  refine rt_v (fun vals w hR hd => v_fieldAddr (off := 0) (ft := 26) zk (hd 3 rfl)) ?_
  refine rt_v (fun vals w hR hd => v_load zk (hd 4 rfl) (by first | exact (HP2.ext hR) 0 _ rfl | exact (HP1.ext hR) 0 _ rfl | exact (HB102.ext hR).pv 0 _ rfl | exact (HB101.ext hR).pv 0 _ rfl | assumption)) ?_
  refine rt_v (fun vals w hR hd => v_b2s (et := 5) zk zk zk (hd 5 rfl) (by first | exact (HS8.ext hR) | exact (HS7.ext hR) | exact (HS6.ext hR) | exact (HS5.ext hR) | exact (HS4.ext hR) | exact (HS3.ext hR) | exact (HS2.ext hR) | exact (HS1.ext hR) | assumption)) ?_
  refine rt_v (fun vals w hR hd => v_fieldAddr (off := 1) (ft := 22) zk rfl) ?_
  refine rt_v (fun vals w hR hd => v_load zk (hd 7 rfl) (by first | exact (HP2.ext hR) 1 _ rfl | exact pv_1 (HP2.ext hR) | exact (HP1.ext hR) 1 _ rfl | exact pv_1 (HP1.ext hR) | exact (HB102.ext hR).pv 1 _ rfl | exact (HB101.ext hR).pv 1 _ rfl | assumption)) ?_
  refine rt_v (fun vals w hR hd => zmI rfl) ?_
  refine rt_v (fun vals w hR hd => v_indexAddr (et := 50) (sz := 2) (k := i) zk zk (hd 8 rfl) (hd 9 rfl) (by first | rfl | omega) zo) ?_
  refine rt_v (fun vals w hR hd => v_fieldAddr (off := 0) (ft := 26) zk (hd 10 rfl)) ?_
  refine rt_v (fun vals w hR hd => v_load zk (hd 11 rfl) (by first | exact (HP2.ext hR) 0 _ rfl | exact (HP1.ext hR) 0 _ rfl | exact (HB102.ext hR).pv 0 _ rfl | exact (HB101.ext hR).pv 0 _ rfl | assumption)) ?_
  refine rt_v (fun vals w hR hd => v_b2s (et := 5) zk zk zk (hd 12 rfl) (by first | exact (HS8.ext hR) | exact (HS7.ext hR) | exact (HS6.ext hR) | exact (HS5.ext hR) | exact (HS4.ext hR) | exact (HS3.ext hR) | exact (HS2.ext hR) | exact (HS1.ext hR) | assumption)) ?_
  refine rt_v (fun vals w hR hd => v_sne (hd 6 rfl) (hd 13 rfl)) ?_
  refine rt_v (fun vals w hR hd => v_move (t := .bool _) (hd 14 rfl)) ?_
  refine rt_g1 rfl (fun vals w hd => hd 15 rfl) (fun vals w hR hd hG => v_fieldAddr (off := 1) (ft := 22) zk rfl) ?_
  refine rt_g1 rfl (fun vals w hd => hd 15 rfl) (fun vals w hR hd hG => v_load zk (gd hG (hd 16 rfl)) (by first | exact (HP2.ext hR) 1 _ rfl | exact pv_1 (HP2.ext hR) | exact (HP1.ext hR) 1 _ rfl | exact pv_1 (HP1.ext hR) | exact (HB102.ext hR).pv 1 _ rfl | exact (HB101.ext hR).pv 1 _ rfl | assumption)) ?_
  refine rt_g1 rfl (fun vals w hd => hd 15 rfl) (fun vals w hR hd hG => zmI rfl) ?_
  refine rt_g1 rfl (fun vals w hd => hd 15 rfl) (fun vals w hR hd hG => v_indexAddr (et := 50) (sz := 2) (k := i) zk zk (gd hG (hd 17 rfl)) (gd hG (hd 18 rfl)) (by first | rfl | omega) zo) ?_
  refine rt_g1 rfl (fun vals w hd => hd 15 rfl) (fun vals w hR hd hG => v_fieldAddr (off := 1) (ft := 26) zk (gd hG (hd 19 rfl))) ?_
  refine rt_g1 rfl (fun vals w hd => hd 15 rfl) (fun vals w hR hd hG => v_load zk (gd hG (hd 20 rfl)) (by first | exact (HP2.ext hR) 1 _ rfl | exact pv_1 (HP2.ext hR) | exact (HP1.ext hR) 1 _ rfl | exact pv_1 (HP1.ext hR) | exact (HB102.ext hR).pv 1 _ rfl | exact (HB101.ext hR).pv 1 _ rfl | assumption)) ?_
  refine rt_g1 rfl (fun vals w hd => hd 15 rfl) (fun vals w hR hd hG => v_b2s (et := 5) zk zk zk (gd hG (hd 21 rfl)) (by first | exact (HS8.ext hR) | exact (HS7.ext hR) | exact (HS6.ext hR) | exact (HS5.ext hR) | exact (HS4.ext hR) | exact (HS3.ext hR) | exact (HS2.ext hR) | exact (HS1.ext hR) | assumption)) ?_
  refine rt_g1 rfl (fun vals w hd => hd 15 rfl) (fun vals w hR hd hG => v_fieldAddr (off := 1) (ft := 22) zk rfl) ?_
  refine rt_g1 rfl (fun vals w hd => hd 15 rfl) (fun vals w hR hd hG => v_load zk (gd hG (hd 23 rfl)) (by first | exact (HP2.ext hR) 1 _ rfl | exact pv_1 (HP2.ext hR) | exact (HP1.ext hR) 1 _ rfl | exact pv_1 (HP1.ext hR) | exact (HB102.ext hR).pv 1 _ rfl | exact (HB101.ext hR).pv 1 _ rfl | assumption)) ?_
  refine rt_g1 rfl (fun vals w hd => hd 15 rfl) (fun vals w hR hd hG => zmI rfl) ?_
  refine rt_g1 rfl (fun vals w hd => hd 15 rfl) (fun vals w hR hd hG => v_indexAddr (et := 50) (sz := 2) (k := i) zk zk (gd hG (hd 24 rfl)) (gd hG (hd 25 rfl)) (by first | rfl | omega) zo) ?_
  refine rt_g1 rfl (fun vals w hd => hd 15 rfl) (fun vals w hR hd hG => v_fieldAddr (off := 1) (ft := 26) zk (gd hG (hd 26 rfl))) ?_
  refine rt_g1 rfl (fun vals w hd => hd 15 rfl) (fun vals w hR hd hG => v_load zk (gd hG (hd 27 rfl)) (by first | exact (HP2.ext hR) 1 _ rfl | exact pv_1 (HP2.ext hR) | exact (HP1.ext hR) 1 _ rfl | exact pv_1 (HP1.ext hR) | exact (HB102.ext hR).pv 1 _ rfl | exact (HB101.ext hR).pv 1 _ rfl | assumption)) ?_
  refine rt_g1 rfl (fun vals w hd => hd 15 rfl) (fun vals w hR hd hG => v_b2s (et := 5) zk zk zk (gd hG (hd 28 rfl)) (by first | exact (HS8.ext hR) | exact (HS7.ext hR) | exact (HS6.ext hR) | exact (HS5.ext hR) | exact (HS4.ext hR) | exact (HS3.ext hR) | exact (HS2.ext hR) | exact (HS1.ext hR) | assumption)) ?_
  refine rt_g1 rfl (fun vals w hd => hd 15 rfl) (fun vals w hR hd hG => v_sne (gd hG (hd 22 rfl)) (gd hG (hd 29 rfl))) ?_
  refine rt_v (fun vals w hR hd => v_or (hd 15 rfl) (hd 30 rfl)) ?_
  refine rt_nil (fun w104 e104 => ?_)
  rintro _ rfl _ rfl _ rfl _ rfl _ rfl _ rfl _ rfl _ rfl _ rfl _ rfl _ rfl _ rfl _ rfl _ rfl _ rfl _ rfl _ rfl _ rfl _ rfl _ rfl _ rfl _ rfl _ rfl _ rfl _ rfl _ rfl _ rfl _ rfl _ rfl _ rfl _ rfl _ rfl
  have := e104.size
  replace E := E.trans e104.keep
  replace HS1 := HS1.ext e104
  replace HS2 := HS2.ext e104
  replace HS3 := HS3.ext e104
  replace HS4 := HS4.ext e104
  replace HB101 := HB101.ext e104
  replace HB102 := HB102.ext e104
  replace EL1 := EL1.trans e104.keep
  replace HP1 := HP1.ext e104
  replace HP2 := HP2.ext e104
  replace HS5 := HS5.ext e104
  replace HS6 := HS6.ext e104
  replace HS7 := HS7.ext e104
  replace HS8 := HS8.ext e104
  refine fin_nil (n_then (c_cond rfl rfl (fun hne => ?_) (fun hne => ?_)))
  ·
   refine c_seq (wp_reg zd (l_v (v_assign rfl) (l_nil (n_then (c_ret (r_blk (r_then (r_then (r_blk ?_)))))))))
   refine r_then (ret1v rfl zq (zvB rfl) ?_)
   refine ⟨?_, E⟩
   rw [decide_eq_false]
   intro h; subst h
   rw [hx] at hy; cases hy
   simp at hne
  refine c_skip (n_blk (n_then (wp_reg zd (l_v (zmI rfl) (l_v (v_add rfl rfl (by first | exact wr_i64 zo zo | rfl)) ?_)))))
  refine l_v (zaI rfl) (l_nil (n_then (⟨i + 1, _, rfl, by (repeat (first | exact Off.of_over _ _ _ | refine Off.upd ?_ zq _ | refine Off.overs ?_ zq _)), ⟨by first | rfl | exact congrArg (Value.int _) zo | (simp; done), trivial⟩, ⟨E, EL1, ?_⟩, ?_⟩)))
  ·
   refine ⟨by omega, ?_⟩
   have hs : r = s := by simp at hne; exact Prod.ext hne.1 hne.2
   rw [List.take_add_one, List.take_add_one, hx, hy, h2, hs]
  (dsimp only; omega)
 have hlt := dfalse hlt
 refine c_exit (x_then (x_then (x_hit (n_then (c_seq (wp_reg zd (l_v (v_assign rfl) (l_nil (n_then ?_)))))))))
 refine c_ret (ret1v rfl zq (zvB rfl) ?_)
 refine ⟨?_, E⟩
 rw [List.take_of_length_le zo, List.take_of_length_le zo] at h2
 rw [decide_eq_true (Prod.ext hce (Prod.ext h2 hcn))]
theorem vmin {P : Program} {d : Option Tmp} {ty : TypeId} {p : String} {af : Array Edge} {g : Option (Nat × Bool)} {e : Nat → Value} {w : World} {x y : Operand} {k : IntKind} {i j : Int} {ts : Array TypeId} (hx : ev e x = .int k i) (hy : ev e y = .int k j) : OpVat P ⟨d, .call { callee := .builtin .min, args := #[x, y], argTypes := ts }, ty, p, af, g⟩ e w (.int k (if j < i then j else i)) := v_min hx hy
theorem vmax {P : Program} {d : Option Tmp} {ty : TypeId} {p : String} {af : Array Edge} {g : Option (Nat × Bool)} {e : Nat → Value} {w : World} {x y : Operand} {k : IntKind} {i j : Int} {ts : Array TypeId} (hx : ev e x = .int k i) (hy : ev e y = .int k j) : OpVat P ⟨d, .call { callee := .builtin .max, args := #[x, y], argTypes := ts }, ty, p, af, g⟩ e w (.int k (if j > i then j else i)) := v_max hx hy
theorem Much_c {w : World} {F : Nat → Prop} {v : Value} {a : AnV} {most : Nat} (HG1 : AgV tAn w F v a) (hm : most ≤ 1000000) : CallsR Try.prog 15 #[v, .int .i64 most] w (fun o w' => o = .bool (muchA most a) ∧ Ext w w') := by
 obtain ⟨a1, c1, a2, c2, rfl, HS1, HS2, he⟩ := HG1.an
 have hm1 := HS1.len_max
 have hm2 := HS2.len_max
 refine enter 52 Try.func15 rfl rfl (by simp) ?_
 refine c_seq ?_
 have E := Keep.refl (K := NoK) w
 replace HS1 := HS1.all
 replace HS2 := HS2.all
 refine wp_reg zd (l_to (to_box (zvA rfl) ?_))
 rintro b101 w101 zb101 HB101 e101 z101
 have := e101.size
 try simp only [Value.cells] at HB101
 refine l_v (v_assign rfl) (l_nil (n_then (c_seq (wp_reg zd (l_v (v_fieldAddr (off := 2) (ft := 26) zk rfl) (l_v (v_load zk rfl (by first | exact HB101.pv 2 _ rfl | assumption)) ?_))))))
 refine l_v (v_len (et := 5) zk rfl) ?_
 refine l_v (zmI rfl) (l_v (v_add rfl rfl (by first | exact wr_i64 zo zo | rfl)) ?_)
 refine l_v (vmin rfl rfl) ?_
 refine l_v (zaI rfl) (l_nil (n_then (c_seq (c_seq (wp_reg zd (l_v (v_assign rfl) (l_nil (n_then (c_block ?_)))))))))
 replace E := E.trans e101.keep
 refine c_loop (τ := Nat × Nat) [5, 6, 13, 14, 15, 16, 17, 18, 19, 20, 21, 22, 23, 24, 25, 26, 27, 28, 29, 30, 31, 32, 33, 34, 35, 36, 37, 38, 39, 40, 41, 42, 43, 44, 45, 46, 47, 48] (fun (i, n) => [(5, .int .i64 n), (6, .int .i64 i)]) (fun (i, n) W => Ext w W ∧ Keep (NoK) w101 W ∧ i ≤ a.2.1.length ∧ n ≤ 4000010 ∧ muL most a.2.1 (min a.2.2.length (most + 1)) = muL most (a.2.1.drop i) n) (fun (i, n) => a.2.1.length - i) (0, min a.2.2.length (most + 1)) (by exact ⟨(show Value.int .i64 (if ((most : Int) + 1) < (a.2.2.length : Int) then ((most : Int) + 1) else (a.2.2.length : Int)) = Value.int .i64 ((min a.2.2.length (most + 1) : Nat) : Int) from congrArg (Value.int _) zo), rfl, trivial⟩) (by exact ⟨E, Keep.refl _, Nat.zero_le _, by omega, by simp⟩) ?_
 rintro ⟨i, n⟩ w102 j ⟨E, EL1, h1, h2, h3⟩
 have := EL1.size
 replace HB101 := HB101.ext EL1
 refine c_seq (c_seq (wp_reg zd (l_v (zmI rfl) (l_v (v_fieldAddr (off := 1) (ft := 22) zk rfl) (l_v (v_load zk rfl (by first | exact HB101.pv 1 _ rfl | assumption)) ?_)))))
 refine l_v (v_len (et := 50) zk rfl) ?_
 refine l_v (v_lss rfl rfl) ?_
 refine l_v (zmB rfl) (l_g1 rfl rfl (fun hG => zmI rfl) (l_g1 rfl rfl (fun hG => zmI rfl) (l_g1 rfl rfl (fun hG => v_leq (gd hG rfl) (gd hG rfl)) ?_)))
 refine l_v (v_and rfl rfl) ?_
 replace HS1 := (HS1.ext e101).ext EL1
 replace HS2 := (HS2.ext e101).ext EL1
 refine l_nil (n_then (c_cond rfl rfl (fun hlt => ?_) (fun hlt => ?_)))
 ·
  have hlt : i < a.2.1.length ∧ n ≤ most := by simp at hlt; omega
  obtain ⟨p, hx, _⟩ := getE (l := a.2.1) (i := i) zo
  obtain ⟨q, cs, hq, hF, _, HPq, hr⟩ := HS1.el hx
  subst hq
  obtain ⟨b1, d1, b2, d2, rfl, HS3, HS4⟩ := tPr_cells hr
  have hm3 := HS3.len_max
  have hm4 := HS4.len_max
  refine c_skip (n_then (c_seq (c_block (wp_regd (NoK) zk zd zd ?_))))
  refine rt_v (fun vals w hR hd => zmI rfl) ?_
  refine rt_v (fun vals w hR hd => v_add (hd 0 rfl) rfl (by first | exact wr_i64 zo zo | rfl)) ?_
  refine rt_v (fun vals w hR hd => v_fieldAddr (off := 1) (ft := 22) zk rfl) ?_
  refine rt_v (fun vals w hR hd => v_load zk (hd 2 rfl) (by first | exact (HPq.ext hR) 1 _ rfl | exact pv_1 (HPq.ext hR) | exact (HB101.ext hR).pv 1 _ rfl | assumption)) ?_
  refine rt_v (fun vals w hR hd => zmI rfl) ?_
  refine rt_v (fun vals w hR hd => v_indexAddr (et := 50) (sz := 2) (k := i) zk zk (hd 3 rfl) (hd 4 rfl) (by first | rfl | omega) zo) ?_
  refine rt_v (fun vals w hR hd => v_fieldAddr (off := 0) (ft := 26) zk (hd 5 rfl)) ?_
  refine rt_v (fun vals w hR hd => v_load zk (hd 6 rfl) (by first | exact (HPq.ext hR) 0 _ rfl | exact (HB101.ext hR).pv 0 _ rfl | assumption)) ?_
  refine rt_v (fun vals w hR hd => v_len (et := 5) zk (hd 7 rfl)) ?_
  refine rt_v (fun vals w hR hd => zmI rfl) ?_
  refine rt_v (fun vals w hR hd => v_add (hd 9 rfl) rfl (by first | exact wr_i64 zo zo | rfl)) ?_
  refine rt_v (fun vals w hR hd => vmin (hd 8 rfl) (hd 10 rfl)) ?_
  refine rt_v (fun vals w hR hd => v_add (hd 1 rfl) (hd 11 rfl) (by first | exact wr_i64 zo zo | rfl)) ?_
  refine rt_v (fun vals w hR hd => v_fieldAddr (off := 1) (ft := 22) zk rfl) ?_
  refine rt_v (fun vals w hR hd => v_load zk (hd 13 rfl) (by first | exact (HPq.ext hR) 1 _ rfl | exact pv_1 (HPq.ext hR) | exact (HB101.ext hR).pv 1 _ rfl | assumption)) ?_
  refine rt_v (fun vals w hR hd => zmI rfl) ?_
  refine rt_v (fun vals w hR hd => v_indexAddr (et := 50) (sz := 2) (k := i) zk zk (hd 14 rfl) (hd 15 rfl) (by first | rfl | omega) zo) ?_
  refine rt_v (fun vals w hR hd => v_fieldAddr (off := 1) (ft := 26) zk (hd 16 rfl)) ?_
  refine rt_v (fun vals w hR hd => v_load zk (hd 17 rfl) (by first | exact (HPq.ext hR) 1 _ rfl | exact pv_1 (HPq.ext hR) | exact (HB101.ext hR).pv 1 _ rfl | assumption)) ?_
  refine rt_v (fun vals w hR hd => v_len (et := 5) zk (hd 18 rfl)) ?_
  refine rt_v (fun vals w hR hd => zmI rfl) ?_
  refine rt_v (fun vals w hR hd => v_add (hd 20 rfl) rfl (by first | exact wr_i64 zo zo | rfl)) ?_
  refine rt_v (fun vals w hR hd => vmin (hd 19 rfl) (hd 21 rfl)) ?_
  refine rt_v (fun vals w hR hd => v_add (hd 12 rfl) (hd 22 rfl) (by first | exact wr_i64 zo zo | rfl)) ?_
  refine rt_v (fun vals w hR hd => v_assign (t := .int _ _) (hd 23 rfl)) ?_
  refine rt_nil (fun w103 e103 => ?_)
  rintro _ rfl _ rfl _ rfl _ rfl _ rfl _ rfl _ rfl _ rfl _ rfl _ rfl _ rfl _ rfl _ rfl _ rfl _ rfl _ rfl _ rfl _ rfl _ rfl _ rfl _ rfl _ rfl _ rfl _ rfl _ rfl
  have := e103.size
  refine fin_nil (n_blk (n_then (wp_reg zd (l_v (zmI rfl) (l_v (v_add rfl rfl (by first | exact wr_i64 zo zo | rfl)) ?_)))))
  replace E := E.trans e103.keep
  replace HS1 := HS1.ext e103
  replace HS2 := HS2.ext e103
  replace HB101 := HB101.ext e103
  replace EL1 := EL1.trans e103.keep
  replace HPq := HPq.ext e103
  refine l_v (zaI rfl) (l_nil (n_then (⟨(i + 1, n + 1 + min p.1.length (most + 1) + min p.2.length (most + 1)), _, rfl, by (repeat (first | exact Off.of_over _ _ _ | refine Off.upd ?_ zq _ | refine Off.overs ?_ zq _)), ⟨by first | rfl | exact congrArg (Value.int _) zo | (simp; done), by first | rfl | exact congrArg (Value.int _) zo | (simp; done), trivial⟩, ⟨E, EL1, ?_⟩, ?_⟩)))
  ·
   exact ⟨by omega, by omega, by rw [h3, muL_step hx zo]⟩
  (dsimp only; omega)
 refine c_exit (x_then (x_then (x_hit (n_then (c_seq (wp_reg zd (l_v (zmI rfl) (l_v (zmI rfl) (l_v (v_gtr rfl rfl) ?_)))))))))
 refine l_v (zaB rfl) (l_nil (n_then (c_ret (ret1v rfl zq (zvB rfl) ?_))))
 refine ⟨?_, E⟩
 have hg : muL most (a.2.1.drop i) n = n := by
  by_cases hn : most < n
  ·
   exact muL_stop _ hn
  have : a.2.1.drop i = [] := List.drop_eq_nil_of_le (by simp at hlt; omega)
  rw [this]; rfl
 unfold muchA; rw [h3, hg]
 congr 1; rw [Bool.eq_iff_iff]; simp
end Go.Proofs.Ytifnkmflmgnfjaa

namespace Go.Proofs.Ytifnkmflmgnfjaa
open Go.Vc
set_option linter.unusedVariables false
set_option linter.unusedSimpArgs false
set_option maxRecDepth 100000

end Go.Proofs.Ytifnkmflmgnfjaa
