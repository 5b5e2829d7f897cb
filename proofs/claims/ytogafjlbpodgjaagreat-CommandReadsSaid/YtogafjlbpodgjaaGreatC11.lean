/- A part of the proof: steps and lemmas for the walks through the given program. -/
import Derived.Test.YtogafjlbpodgjaaGreatCc
namespace Go.Proofs.YtogafjlbpodgjaaGreat
open Go.Vc
set_option linter.unusedVariables false
set_option linter.unusedSimpArgs false
set_option maxRecDepth 100000

theorem CMay_b {w : World} {F : Nat → Prop} {v : Value} {a : CmV} {b : Bool} (HG1 : AgV tCm w F v a) (hb : mayCm a = b) : CallsR Tryz.prog 17 #[v] w (fun o w' => o = .bool b ∧ Ext w w') := by subst hb; exact CMay_c HG1
set_option maxHeartbeats 8000000 in
theorem CBytes_t {w : World} {F : Nat → Prop} {v : Value} {c : CmV} (HG0 : AgV tCm w F v c) (hm : mayCm c = true) : CallsR Tryz.prog 7 #[v] w (fun o w' => (∃ q d, o = .tuple #[.slice (some q) (cmW c).length d, .int .i64 0] ∧ Bv w' (fun i => w.heap.size ≤ i) (.slice (some q) (cmW c).length d) (cmW c)) ∧ Ext w w') := by
 obtain ⟨k, ⟨rc, rn, ra⟩, mv, en, an, key, g⟩ := c
 obtain ⟨a1, c1, a2, c2, a3, c3, a4, c4, a5, c5, a6, c6, a7, c7, a8, c8, a9, c9, hv0, HG1, HG2, HSe, HSa, HSk, hik, hig⟩ := HG0.cm
 subst hv0
 dsimp only at HG0 HG1 ⊢
 have HG5 := HG1.rqAk
 clear HG1
 obtain ⟨m1, m2, mrq, mmv, min, mke, mgr⟩ := mayCm_k hm
 obtain ⟨kn, rfl⟩ := Int.eq_ofNat_of_zero_le (show 0 ≤ k by omega)
 have q0 := wNum_len10 (n := kn) zo
 refine enter 83 Tryz.func7 rfl rfl (by simp) ?_
 refine c_seq ?_
 have E := Keep.refl (K := NoK) w
 replace HG0 := HG0.all
 replace HG2 := HG2.all
 replace HG5 := HG5.all
 replace HSe := HSe.all
 replace HSa := HSa.all
 replace HSk := HSk.all
 refine wp_reg zd (l_to (to_box (zvA rfl) ?_))
 rintro b31 w1 zb1 HB31 e1 z1
 have := e1.size
 try simp only [Value.cells] at HB31
 refine l_v (v_assign rfl) (l_v (v_assign rfl) (l_nil (n_then (c_seq (c_seq (wp_reg zd (l_v (v_loadA zk rfl (by first | exact HB31.pv | assumption) rfl) ?_)))))))
 replace HG0 := HG0.ext e1
 refine l_to (to_f1 zk (zvA rfl) (CallsR.mono (CMay_b HG0 hm) ?_))
 rintro _ w101 ⟨rfl, e101⟩
 have := e101.size
 refine l_v (v_not rfl) ?_
 replace E := (E.trans e1.keep).trans e101.keep
 replace HG2 := (HG2.ext e1).ext e101
 replace HG5 := (HG5.ext e1).ext e101
 replace HSe := (HSe.ext e1).ext e101
 replace HSa := (HSa.ext e1).ext e101
 replace HSk := (HSk.ext e1).ext e101
 replace HG0 := HG0.ext e101
 replace HB31 := HB31.ext e101
 refine l_nil (n_then (c_cond rfl rfl (fun hc => ?_) (fun hc => ?_)))
 ·
  cases hc
 refine c_skip (n_then (c_seq (wp_reg zd (l_v (v_fieldAddr (off := 0) (ft := 22) zk rfl) (l_v (v_load zk rfl (by first | exact HB31.pv 0 _ rfl | assumption)) ?_)))))
 refine l_to (to_f1 zk (zvI rfl) (CallsR.mono (numK_c (n := (kn : Int)) zo zo) ?_))
 rintro _ w12 ⟨HO12, ⟨q12, c12, rfl⟩, e12⟩
 have := e12.size
 have zo_HO12 := fun (b : Nat) h => HO12.own_lt (b := b) h
 have hkn : ((kn : Int)).toNat = kn := by omega
 rw [hkn] at HO12 ⊢
 have HS12 := HO12.view.allB
 obtain ⟨n4, hn4⟩ : ∃ n, n = w.heap.size := ⟨_, rfl⟩
 replace HB31 := HB31.ext e12
 refine l_v (zaS rfl) (l_nil (n_then (c_seq (c_seq (wp_reg zd (l_v (v_fieldAddr (off := 0) (ft := 22) zk rfl) (l_v (v_load zk rfl (by first | exact HB31.pv 0 _ rfl | assumption)) ?_)))))))
 refine l_nil (n_then (c_block (c_seq (wp_reg zd (l_v (v_eql rfl rfl) ?_)))))
 replace E := E.trans e12.keep
 replace HG2 := HG2.ext e12
 replace HG5 := HG5.ext e12
 replace HSe := HSe.ext e12
 replace HSa := HSa.ext e12
 replace HSk := HSk.ext e12
 refine l_v (zaB rfl) (l_nil (n_then (c_cond rfl rfl (fun h2 => ?_) (fun h2 => ?_))))
 ·
  obtain rfl : kn = 2 := by have := dtrue h2; omega
  have hrq := mrq rfl
  simp only [mayRq, nmB, Bool.and_eq_true, decide_eq_true_eq] at hrq
  obtain ⟨⟨⟨r1, r2⟩, r3, r4⟩, r5⟩ := hrq
  have q1 := akW_le r5
  have q2 := wNum_len10 (n := rc.toNat) zo
  have q3 := wNum_len10 (n := rn.toNat) zo
  refine wp_any zk ?_
  have e102 : Ext w12 { w12 with drawn := w12.drawn + 1 } := Keep.drawn _ _
  generalize hw102 : ({ w12 with drawn := w12.drawn + 1 } : World) = w102 at e102 ⊢
  clear hw102
  have := e102.size
  refine r_cut 15 rfl zd zd zd ?_
  refine wp_regdW (NoK) zd zd ?_
  refine rt_v (fun vals w hR hd => zmS rfl) ?_
  refine rt_v (fun vals w hR hd => v_fieldAddr (off := 1) (ft := 28) zk rfl) ?_
  refine rt_v (fun vals w hR hd => v_fieldAddr (off := 0) (ft := 3) zk (hd 1 rfl)) ?_
  replace HB31 := HB31.ext e102
  refine rt_v (fun vals w hR hd => v_load zk (hd 2 rfl) (by first | exact (HB31.ext hR).pv 1 _ rfl | exact (HB31.ext hR).pv 0 _ rfl | assumption)) ?_
  refine rt_to (fun v W => Bv W AllB v (wNum rc.toNat)) (fun v w w' h k => h.ext k) (fun vals w hR hd => to_f1 zk (hd 3 rfl) (CallsR.mono (numI_c zo zo) fun v w1 ⟨h, _, e⟩ => ⟨e, h.view.allB⟩)) ?_
  refine rt_v (fun vals w hR hd => v_fieldAddr (off := 1) (ft := 28) zk rfl) ?_
  refine rt_v (fun vals w hR hd => v_fieldAddr (off := 1) (ft := 2) zk (hd 5 rfl)) ?_
  refine rt_v (fun vals w hR hd => v_load zk (hd 6 rfl) (by first | exact (HB31.ext hR).pv 2 _ rfl | exact (HB31.ext hR).pv 1 _ rfl | assumption)) ?_
  refine rt_to (fun v W => Bv W AllB v (wNum rn.toNat)) (fun v w w' h k => h.ext k) (fun vals w hR hd => to_f1 zk (hd 7 rfl) (CallsR.mono (numL_c zo zo) fun v w1 ⟨h, _, e⟩ => ⟨e, h.view.allB⟩)) ?_
  refine rt_v (fun vals w hR hd => v_fieldAddr (off := 1) (ft := 28) zk rfl) ?_
  refine rt_v (fun vals w hR hd => v_fieldAddr (off := 2) (ft := 26) zk (hd 9 rfl)) ?_
  refine rt_v (fun vals w hR hd => v_loadA zk (hd 10 rfl) (by first | exact (show Pv _ _ [_, _, _, _, _, _, _] from pv_sub 3 7 (HB31.ext hR).pv) | exact (show Pv _ _ [_, _, _, _, _, _, _] from pv_sub 2 7 (HB31.ext hR).pv) | exact pv_at 2 (HB31.ext hR).pv | assumption) rfl) ?_
  replace HG5 := HG5.ext e102
  refine rt_to (fun v W => Bv W AllB v (akW ra)) (fun v w w' h k => h.ext k) (fun vals w hR hd => to_f1 zk (hd 11 rfl) (CallsR.mono (ask_c (HG5.ext hR) r5) fun v w1 ⟨_, _, _, h, e⟩ => ⟨e, h.allB⟩)) ?_
  replace HS12 := HS12.ext e102
  refine rt_to (fun v W => SlV (tSl tU8) W AllB v [wNum 2, wNum rc.toNat, wNum rn.toNat, akW ra]) (fun v w w' h k => h.ext k) (fun vals w hR hd => to_bytes4' (et := 24) (bytes := 24) (z := .slice none 0 0) zk (by unfold kZeros; kernel_rfl) (hd 0 rfl) (show _ = vals 4 from rfl) (show _ = vals 8 from rfl) (show _ = vals 12 from rfl) (HS12.ext hR) (show Bv _ AllB _ (wNum rc.toNat) from hd 4 rfl) (show Bv _ AllB _ (wNum rn.toNat) from hd 8 rfl) (show Bv _ AllB _ (akW ra) from hd 12 rfl) (fun b w1 hb HO e z => ⟨e, HO.view.allB⟩)) ?_
  refine rt_to (fun v W => (∃ q c, v = .slice (some q) ([wNum 2, wNum rc.toNat, wNum rn.toNat, akW ra].flatten).length c) ∧ OwV tU8 nU8 W n4 NoK v ([wNum 2, wNum rc.toNat, wNum rn.toNat, akW ra].flatten)) (fun v w w' h k => ⟨h.1, h.2.ext k⟩) (fun vals w hR hd => to_f1 zk (show _ = vals 13 from rfl) (CallsR.mono (Join_c (show SlV (tSl tU8) _ AllB _ [wNum 2, wNum rc.toNat, wNum rn.toNat, akW ra] from hd 13 rfl) (by simp only [List.flatten_cons, List.flatten_nil, List.append_nil, List.length_append]; omega)) fun v w1 ⟨h, hv, e⟩ => ⟨e, hv, h.base (by have := hR.size; omega)⟩)) ?_
  refine rt_nil (fun w103 e103 => ?_)
  rintro _ rfl _ rfl _ rfl _ rfl v21 hs21 _ rfl _ rfl _ rfl v25 hs25 _ rfl _ rfl _ rfl v29 hs29 v30 hs30 v31 hs31
  have := e103.size
  have hs31 : (∃ q c, v31 = .slice (some q) ([wNum 2, wNum rc.toNat, wNum rn.toNat, akW ra].flatten).length c) ∧ OwV tU8 nU8 _ n4 NoK v31 ([wNum 2, wNum rc.toNat, wNum rn.toNat, akW ra].flatten) := hs31
  obtain ⟨⟨q31, c31, rfl⟩, HO31⟩ := hs31
  refine fin_nil (n_then (r_one zd rfl ?_))
  refine l_v (zaS rfl) (l_nil (n_blk (n_then (c_seq (wp_reg zd (l_v (zmS rfl) (l_v (zaS rfl) (l_v (v_assign rfl) (l_nil ?_)))))))))
  refine n_then (c_ret (ret2v rfl zq zq (zvS rfl) (zvI rfl) ?_))
  replace E := (E.trans e102.keep).trans e103.keep
  refine ⟨?_, E⟩
  have h9 : [wNum 2, wNum rc.toNat, wNum rn.toNat, akW ra].flatten = cmW (2, (rc, rn, ra), mv, en, an, key, g) := by simp [cmW]
  rw [h9] at HO31
  simp only [h9]
  exact ⟨_, _, rfl, HO31.view.mono fun i _ h => h.elim (fun h => by omega) (fun h => h.elim)⟩
 refine c_seq (c_seq (wp_reg zd (l_v (v_eql rfl rfl) ?_)))
 refine l_v (zaB rfl) (l_nil (n_then (c_cond rfl rfl (fun h3 => ?_) (fun h3 => ?_))))
 ·
  refine c_skip (n_then (c_cond rfl rfl (fun hx => ?_) (fun hx => ?_)))
  ·
   obtain rfl : kn = 3 := by have := dtrue h3; omega
   have hmv := mmv zq
   have q1 := mvW_le hmv
   refine wp_reg zd (l_v (zmS rfl) (l_v (v_fieldAddr (off := 10) (ft := 30) zk rfl) (l_v (v_loadA zk rfl (by first | exact (show Pv _ _ [_, _, _, _, _, _] from pv_sub 10 6 HB31.pv) | exact pv_at 10 HB31.pv | assumption) rfl) ?_)))
   refine l_to (to_f1 zk (zvA rfl) (CallsR.mono (move_c HG2 hmv) ?_))
   rintro _ w40 ⟨⟨q40, c40, rfl⟩, HO40, e40⟩
   have := e40.size
   have zo_HO40 := fun (b : Nat) h => HO40.own_lt (b := b) h
   replace HS12 := HS12.ext e40
   refine l_to (to_sliceN (t := tSl tU8) (xs := [wNum 3, mvW mv]) (et := 24) (bytes := 24) (zl := [.slice none 0 0, .slice none 0 0]) zk zq zq (by unfold kZeros; kernel_rfl) rfl (cells := [_, _]) rfl rfl rfl ((repsB2 HS12 HO40.view.allB)) ?_)
   rintro b41 w41 zb41 HO41 e41 z41
   have := e41.size
   have zo_HO41 := fun (b : Nat) h => HO41.own_lt (b := b) h
   refine l_to (to_f1 zk (zvS rfl) (CallsR.mono (Join_c HO41.view (by simp only [List.flatten_cons, List.flatten_nil, List.append_nil, List.length_append]; omega)) ?_))
   rintro _ w42 ⟨HO42, ⟨q42, c42, rfl⟩, e42⟩
   have := e42.size
   have zo_HO42 := fun (b : Nat) h => HO42.own_lt (b := b) h
   refine l_v (zaS rfl) (l_nil (n_blk (n_then (c_seq (wp_reg zd (l_v (zmS rfl) (l_v (zaS rfl) (l_v (v_assign rfl) (l_nil ?_)))))))))
   refine n_then (c_ret (ret2v rfl zq zq (zvS rfl) (zvI rfl) ?_))
   replace E := ((E.trans e40.keep).trans e41.keep).trans e42.keep
   refine ⟨?_, E⟩
   have h9 : [wNum 3, mvW mv].flatten = cmW (3, (rc, rn, ra), mv, en, an, key, g) := by simp [cmW]
   rw [h9] at HO42
   simp only [h9]
   exact ⟨_, _, rfl, HO42.view.mono fun i _ h => h.elim (fun h => by omega) (fun h => h.elim)⟩
  rw [h3] at hx; cases hx
 refine c_seq (wp_reg zd (l_v (v_eql rfl rfl) ?_))
 refine l_v (zaB rfl) (l_nil (n_then (c_cond rfl rfl (fun h5 => ?_) (fun h5 => ?_))))
 ·
  refine c_skip (n_then (c_cond rfl rfl (fun hx => ?_) (fun hx => ?_)))
  ·
   obtain rfl : kn = 5 := by have := dtrue h5; omega
   have hmv := mmv zq
   have q1 := mvW_le hmv
   refine wp_reg zd (l_v (zmS rfl) (l_v (v_fieldAddr (off := 10) (ft := 30) zk rfl) (l_v (v_loadA zk rfl (by first | exact (show Pv _ _ [_, _, _, _, _, _] from pv_sub 10 6 HB31.pv) | exact pv_at 10 HB31.pv | assumption) rfl) ?_)))
   refine l_to (to_f1 zk (zvA rfl) (CallsR.mono (move_c HG2 hmv) ?_))
   rintro _ w40 ⟨⟨q40, c40, rfl⟩, HO40, e40⟩
   have := e40.size
   have zo_HO40 := fun (b : Nat) h => HO40.own_lt (b := b) h
   replace HS12 := HS12.ext e40
   refine l_to (to_sliceN (t := tSl tU8) (xs := [wNum 5, mvW mv]) (et := 24) (bytes := 24) (zl := [.slice none 0 0, .slice none 0 0]) zk zq zq (by unfold kZeros; kernel_rfl) rfl (cells := [_, _]) rfl rfl rfl ((repsB2 HS12 HO40.view.allB)) ?_)
   rintro b41 w41 zb41 HO41 e41 z41
   have := e41.size
   have zo_HO41 := fun (b : Nat) h => HO41.own_lt (b := b) h
   refine l_to (to_f1 zk (zvS rfl) (CallsR.mono (Join_c HO41.view (by simp only [List.flatten_cons, List.flatten_nil, List.append_nil, List.length_append]; omega)) ?_))
   rintro _ w42 ⟨HO42, ⟨q42, c42, rfl⟩, e42⟩
   have := e42.size
   have zo_HO42 := fun (b : Nat) h => HO42.own_lt (b := b) h
   refine l_v (zaS rfl) (l_nil (n_blk (n_then (c_seq (wp_reg zd (l_v (zmS rfl) (l_v (zaS rfl) (l_v (v_assign rfl) (l_nil ?_)))))))))
   refine n_then (c_ret (ret2v rfl zq zq (zvS rfl) (zvI rfl) ?_))
   replace E := ((E.trans e40.keep).trans e41.keep).trans e42.keep
   refine ⟨?_, E⟩
   have h9 : [wNum 5, mvW mv].flatten = cmW (5, (rc, rn, ra), mv, en, an, key, g) := by simp [cmW]
   rw [h9] at HO42
   simp only [h9]
   exact ⟨_, _, rfl, HO42.view.mono fun i _ h => h.elim (fun h => by omega) (fun h => h.elim)⟩
  rw [h5] at hx; cases hx
 refine c_seq (wp_reg zd (l_v (v_eql rfl rfl) ?_))
 refine l_v (zaB rfl) (l_nil (n_then (c_cond rfl rfl (fun h9 => ?_) (fun h9 => ?_))))
 ·
  refine c_skip (n_then (c_cond rfl rfl (fun hx => ?_) (fun hx => ?_)))
  ·
   obtain rfl : kn = 9 := by have := dtrue h9; omega
   have hmv := mmv zq
   have q1 := mvW_le hmv
   refine wp_reg zd (l_v (zmS rfl) (l_v (v_fieldAddr (off := 10) (ft := 30) zk rfl) (l_v (v_loadA zk rfl (by first | exact (show Pv _ _ [_, _, _, _, _, _] from pv_sub 10 6 HB31.pv) | exact pv_at 10 HB31.pv | assumption) rfl) ?_)))
   refine l_to (to_f1 zk (zvA rfl) (CallsR.mono (move_c HG2 hmv) ?_))
   rintro _ w40 ⟨⟨q40, c40, rfl⟩, HO40, e40⟩
   have := e40.size
   have zo_HO40 := fun (b : Nat) h => HO40.own_lt (b := b) h
   replace HS12 := HS12.ext e40
   refine l_to (to_sliceN (t := tSl tU8) (xs := [wNum 9, mvW mv]) (et := 24) (bytes := 24) (zl := [.slice none 0 0, .slice none 0 0]) zk zq zq (by unfold kZeros; kernel_rfl) rfl (cells := [_, _]) rfl rfl rfl ((repsB2 HS12 HO40.view.allB)) ?_)
   rintro b41 w41 zb41 HO41 e41 z41
   have := e41.size
   have zo_HO41 := fun (b : Nat) h => HO41.own_lt (b := b) h
   refine l_to (to_f1 zk (zvS rfl) (CallsR.mono (Join_c HO41.view (by simp only [List.flatten_cons, List.flatten_nil, List.append_nil, List.length_append]; omega)) ?_))
   rintro _ w42 ⟨HO42, ⟨q42, c42, rfl⟩, e42⟩
   have := e42.size
   have zo_HO42 := fun (b : Nat) h => HO42.own_lt (b := b) h
   refine l_v (zaS rfl) (l_nil (n_blk (n_then (c_seq (wp_reg zd (l_v (zmS rfl) (l_v (zaS rfl) (l_v (v_assign rfl) (l_nil ?_)))))))))
   refine n_then (c_ret (ret2v rfl zq zq (zvS rfl) (zvI rfl) ?_))
   replace E := ((E.trans e40.keep).trans e41.keep).trans e42.keep
   refine ⟨?_, E⟩
   have h9 : [wNum 9, mvW mv].flatten = cmW (9, (rc, rn, ra), mv, en, an, key, g) := by simp [cmW]
   rw [h9] at HO42
   simp only [h9]
   exact ⟨_, _, rfl, HO42.view.mono fun i _ h => h.elim (fun h => by omega) (fun h => h.elim)⟩
  rw [h9] at hx; cases hx
 refine wp_reg zd (l_v (v_eql rfl rfl) ?_)
 refine l_v (zaB rfl) (l_nil (n_then (c_cond rfl rfl (fun h10 => ?_) (fun h10 => ?_))))
 ·
  obtain rfl : kn = 10 := by have := dtrue h10; omega
  have hmv := mmv zq
  have q1 := mvW_le hmv
  refine wp_reg zd (l_v (zmS rfl) (l_v (v_fieldAddr (off := 10) (ft := 30) zk rfl) (l_v (v_loadA zk rfl (by first | exact (show Pv _ _ [_, _, _, _, _, _] from pv_sub 10 6 HB31.pv) | exact pv_at 10 HB31.pv | assumption) rfl) ?_)))
  refine l_to (to_f1 zk (zvA rfl) (CallsR.mono (move_c HG2 hmv) ?_))
  rintro _ w40 ⟨⟨q40, c40, rfl⟩, HO40, e40⟩
  have := e40.size
  have zo_HO40 := fun (b : Nat) h => HO40.own_lt (b := b) h
  replace HS12 := HS12.ext e40
  refine l_to (to_sliceN (t := tSl tU8) (xs := [wNum 10, mvW mv]) (et := 24) (bytes := 24) (zl := [.slice none 0 0, .slice none 0 0]) zk zq zq (by unfold kZeros; kernel_rfl) rfl (cells := [_, _]) rfl rfl rfl ((repsB2 HS12 HO40.view.allB)) ?_)
  rintro b41 w41 zb41 HO41 e41 z41
  have := e41.size
  have zo_HO41 := fun (b : Nat) h => HO41.own_lt (b := b) h
  refine l_to (to_f1 zk (zvS rfl) (CallsR.mono (Join_c HO41.view (by simp only [List.flatten_cons, List.flatten_nil, List.append_nil, List.length_append]; omega)) ?_))
  rintro _ w42 ⟨HO42, ⟨q42, c42, rfl⟩, e42⟩
  have := e42.size
  have zo_HO42 := fun (b : Nat) h => HO42.own_lt (b := b) h
  refine l_v (zaS rfl) (l_nil (n_blk (n_then (c_seq (wp_reg zd (l_v (zmS rfl) (l_v (zaS rfl) (l_v (v_assign rfl) (l_nil ?_)))))))))
  refine n_then (c_ret (ret2v rfl zq zq (zvS rfl) (zvI rfl) ?_))
  replace E := ((E.trans e40.keep).trans e41.keep).trans e42.keep
  refine ⟨?_, E⟩
  have h9 : [wNum 10, mvW mv].flatten = cmW (10, (rc, rn, ra), mv, en, an, key, g) := by simp [cmW]
  rw [h9] at HO42
  simp only [h9]
  exact ⟨_, _, rfl, HO42.view.mono fun i _ h => h.elim (fun h => by omega) (fun h => h.elim)⟩
 refine c_seq (wp_reg zd (l_v (v_eql rfl rfl) ?_))
 refine l_v (zaB rfl) (l_nil (n_then (c_cond rfl rfl (fun h4 => ?_) (fun h4 => ?_))))
 ·
  obtain rfl : kn = 4 := by have := dtrue h4; omega
  obtain ⟨hmv, hre, hel, hal⟩ := min rfl
  have q1 := mvW_le hmv
  have hem := risE_may hre
  have q2 := lsW_le hem hel
  have q3 := wBy_le (l := wList spI en) zo
  have q4 := wBy_le (l := an) zo
  refine c_seq (wp_reg zd (l_v (v_fieldAddr (off := 16) (ft := 31) zk rfl) (l_v (v_load zk rfl (by first | exact HB31.pv 16 _ rfl | assumption)) ?_)))
  refine l_to (to_f1 zk (zvS rfl) (CallsR.mono (List_c HSe hem hel) ?_))
  rintro _ w48 ⟨⟨q48, c48, rfl, HO48⟩, e48⟩
  have := e48.size
  have zo_HO48 := fun (b : Nat) h => HO48.own_lt (b := b) h
  have HS48 := HO48.view.allB
  refine l_v (zmT rfl) (l_v (v_extract (t := .slice _ _ _) rfl rfl) (l_v (v_extract (t := .int _ _) rfl rfl) (l_v (zaS rfl) (l_v (zaI rfl) (l_nil (n_then (wp_any zk ?_)))))))
  have e104 : Ext w48 { w48 with drawn := w48.drawn + 1 } := Keep.drawn _ _
  generalize hw104 : ({ w48 with drawn := w48.drawn + 1 } : World) = w104 at e104 ⊢
  clear hw104
  have := e104.size
  refine r_cut 11 rfl zd zd zd ?_
  refine wp_regdW (NoK) zd zd ?_
  refine rt_v (fun vals w hR hd => zmS rfl) ?_
  refine rt_v (fun vals w hR hd => v_fieldAddr (off := 10) (ft := 30) zk rfl) ?_
  replace HB31 := (HB31.ext e48).ext e104
  refine rt_v (fun vals w hR hd => v_loadA zk (hd 1 rfl) (by first | exact (show Pv _ _ [_, _, _, _, _, _] from pv_sub 10 6 (HB31.ext hR).pv) | exact pv_at 10 (HB31.ext hR).pv | assumption) rfl) ?_
  replace HG2 := (HG2.ext e48).ext e104
  refine rt_to (fun v W => Bv W AllB v (mvW mv)) (fun v w w' h k => h.ext k) (fun vals w hR hd => to_f1 zk (hd 2 rfl) (CallsR.mono (move_c (HG2.ext hR) hmv) fun v w1 ⟨_, h, e⟩ => ⟨e, h.view.allB⟩)) ?_
  refine rt_v (fun vals w hR hd => zmS rfl) ?_
  replace HS48 := HS48.ext e104
  refine rt_to (fun v W => Bv W AllB v (wBytes (wList spI en))) (fun v w w' h k => h.ext k) (fun vals w hR hd => to_f1 zk (hd 4 rfl) (CallsR.mono (Bytes_c (HS48.ext hR) zo) fun v w1 ⟨h, _, e⟩ => ⟨e, h.view.allB⟩)) ?_
  refine rt_v (fun vals w hR hd => v_fieldAddr (off := 17) (ft := 24) zk rfl) ?_
  refine rt_v (fun vals w hR hd => v_load zk (hd 6 rfl) (by first | exact (HB31.ext hR).pv 17 _ rfl | assumption)) ?_
  replace HSa := (HSa.ext e48).ext e104
  refine rt_to (fun v W => Bv W AllB v (wBytes an)) (fun v w w' h k => h.ext k) (fun vals w hR hd => to_f1 zk (hd 7 rfl) (CallsR.mono (Bytes_c (HSa.ext hR) zo) fun v w1 ⟨h, _, e⟩ => ⟨e, h.view.allB⟩)) ?_
  replace HS12 := (HS12.ext e48).ext e104
  refine rt_to (fun v W => SlV (tSl tU8) W AllB v [wNum 4, mvW mv, wBytes (wList spI en), wBytes an]) (fun v w w' h k => h.ext k) (fun vals w hR hd => to_bytes4' (et := 24) (bytes := 24) (z := .slice none 0 0) zk (by unfold kZeros; kernel_rfl) (hd 0 rfl) (show _ = vals 3 from rfl) (show _ = vals 5 from rfl) (show _ = vals 8 from rfl) (HS12.ext hR) (show Bv _ AllB _ (mvW mv) from hd 3 rfl) (show Bv _ AllB _ (wBytes (wList spI en)) from hd 5 rfl) (show Bv _ AllB _ (wBytes an) from hd 8 rfl) (fun b w1 hb HO e z => ⟨e, HO.view.allB⟩)) ?_
  refine rt_to (fun v W => (∃ q c, v = .slice (some q) ([wNum 4, mvW mv, wBytes (wList spI en), wBytes an].flatten).length c) ∧ OwV tU8 nU8 W n4 NoK v ([wNum 4, mvW mv, wBytes (wList spI en), wBytes an].flatten)) (fun v w w' h k => ⟨h.1, h.2.ext k⟩) (fun vals w hR hd => to_f1 zk (show _ = vals 9 from rfl) (CallsR.mono (Join_c (show SlV (tSl tU8) _ AllB _ [wNum 4, mvW mv, wBytes (wList spI en), wBytes an] from hd 9 rfl) (by simp only [List.flatten_cons, List.flatten_nil, List.append_nil, List.length_append]; omega)) fun v w1 ⟨h, hv, e⟩ => ⟨e, hv, h.base (by have := hR.size; omega)⟩)) ?_
  refine rt_nil (fun w105 e105 => ?_)
  rintro _ rfl _ rfl _ rfl v54 hs54 _ rfl v56 hs56 _ rfl _ rfl v59 hs59 v60 hs60 v61 hs61
  have := e105.size
  have hs61 : (∃ q c, v61 = .slice (some q) ([wNum 4, mvW mv, wBytes (wList spI en), wBytes an].flatten).length c) ∧ OwV tU8 nU8 _ n4 NoK v61 ([wNum 4, mvW mv, wBytes (wList spI en), wBytes an].flatten) := hs61
  obtain ⟨⟨q61, c61, rfl⟩, HO61⟩ := hs61
  refine fin_nil (n_then (r_one zd rfl ?_))
  refine l_v (zaS rfl) (l_nil (n_blk (n_then (c_seq (wp_reg zd (l_v (zmS rfl) (l_v (zaS rfl) (l_v (v_assign rfl) (l_nil ?_)))))))))
  refine n_then (c_ret (ret2v rfl zq zq (zvS rfl) (zvI rfl) ?_))
  replace E := ((E.trans e48.keep).trans e104.keep).trans e105.keep
  refine ⟨?_, E⟩
  have h9 : [wNum 4, mvW mv, wBytes (wList spI en), wBytes an].flatten = cmW (4, (rc, rn, ra), mv, en, an, key, g) := by simp [cmW]
  rw [h9] at HO61
  simp only [h9]
  exact ⟨_, _, rfl, HO61.view.mono fun i _ h => h.elim (fun h => by omega) (fun h => h.elim)⟩
 refine c_seq (c_seq (wp_reg zd (l_v (v_eql rfl rfl) ?_)))
 refine l_v (zaB rfl) (l_nil (n_then (c_cond rfl rfl (fun h6 => ?_) (fun h6 => ?_))))
 ·
  refine c_skip (n_then (c_cond rfl rfl (fun hx => ?_) (fun hx => ?_)))
  ·
   obtain rfl : kn = 6 := by have := dtrue h6; omega
   have hke := mke zq
   have q1 := wBy_le (l := key) zo
   refine wp_reg zd (l_v (zmS rfl) (l_v (v_fieldAddr (off := 18) (ft := 24) zk rfl) (l_v (v_load zk rfl (by first | exact HB31.pv 18 _ rfl | assumption)) ?_)))
   refine l_to (to_f1 zk (zvS rfl) (CallsR.mono (Bytes_c HSk zo) ?_))
   rintro _ w68 ⟨HO68, ⟨q68, c68, rfl⟩, e68⟩
   have := e68.size
   have zo_HO68 := fun (b : Nat) h => HO68.own_lt (b := b) h
   replace HS12 := HS12.ext e68
   refine l_to (to_sliceN (t := tSl tU8) (xs := [wNum 6, wBytes key]) (et := 24) (bytes := 24) (zl := [.slice none 0 0, .slice none 0 0]) zk zq zq (by unfold kZeros; kernel_rfl) rfl (cells := [_, _]) rfl rfl rfl ((repsB2 HS12 HO68.view.allB)) ?_)
   rintro b69 w69 zb69 HO69 e69 z69
   have := e69.size
   have zo_HO69 := fun (b : Nat) h => HO69.own_lt (b := b) h
   refine l_to (to_f1 zk (zvS rfl) (CallsR.mono (Join_c HO69.view (by simp only [List.flatten_cons, List.flatten_nil, List.append_nil, List.length_append]; omega)) ?_))
   rintro _ w70 ⟨HO70, ⟨q70, c70, rfl⟩, e70⟩
   have := e70.size
   have zo_HO70 := fun (b : Nat) h => HO70.own_lt (b := b) h
   refine l_v (zaS rfl) (l_nil (n_blk (n_then (c_seq (wp_reg zd (l_v (zmS rfl) (l_v (zaS rfl) (l_v (v_assign rfl) (l_nil ?_)))))))))
   refine n_then (c_ret (ret2v rfl zq zq (zvS rfl) (zvI rfl) ?_))
   replace E := ((E.trans e68.keep).trans e69.keep).trans e70.keep
   refine ⟨?_, E⟩
   have h9 : [wNum 6, wBytes key].flatten = cmW (6, (rc, rn, ra), mv, en, an, key, g) := by simp [cmW]
   rw [h9] at HO70
   simp only [h9]
   exact ⟨_, _, rfl, HO70.view.mono fun i _ h => h.elim (fun h => by omega) (fun h => h.elim)⟩
  rw [h6] at hx; cases hx
 refine wp_reg zd (l_v (v_eql rfl rfl) ?_)
 refine l_v (zaB rfl) (l_nil (n_then (c_cond rfl rfl (fun h7 => ?_) (fun h7 => ?_))))
 ·
  obtain rfl : kn = 7 := by have := dtrue h7; omega
  have hke := mke zq
  have q1 := wBy_le (l := key) zo
  refine wp_reg zd (l_v (zmS rfl) (l_v (v_fieldAddr (off := 18) (ft := 24) zk rfl) (l_v (v_load zk rfl (by first | exact HB31.pv 18 _ rfl | assumption)) ?_)))
  refine l_to (to_f1 zk (zvS rfl) (CallsR.mono (Bytes_c HSk zo) ?_))
  rintro _ w68 ⟨HO68, ⟨q68, c68, rfl⟩, e68⟩
  have := e68.size
  have zo_HO68 := fun (b : Nat) h => HO68.own_lt (b := b) h
  replace HS12 := HS12.ext e68
  refine l_to (to_sliceN (t := tSl tU8) (xs := [wNum 7, wBytes key]) (et := 24) (bytes := 24) (zl := [.slice none 0 0, .slice none 0 0]) zk zq zq (by unfold kZeros; kernel_rfl) rfl (cells := [_, _]) rfl rfl rfl ((repsB2 HS12 HO68.view.allB)) ?_)
  rintro b69 w69 zb69 HO69 e69 z69
  have := e69.size
  have zo_HO69 := fun (b : Nat) h => HO69.own_lt (b := b) h
  refine l_to (to_f1 zk (zvS rfl) (CallsR.mono (Join_c HO69.view (by simp only [List.flatten_cons, List.flatten_nil, List.append_nil, List.length_append]; omega)) ?_))
  rintro _ w70 ⟨HO70, ⟨q70, c70, rfl⟩, e70⟩
  have := e70.size
  have zo_HO70 := fun (b : Nat) h => HO70.own_lt (b := b) h
  refine l_v (zaS rfl) (l_nil (n_blk (n_then (c_seq (wp_reg zd (l_v (zmS rfl) (l_v (zaS rfl) (l_v (v_assign rfl) (l_nil ?_)))))))))
  refine n_then (c_ret (ret2v rfl zq zq (zvS rfl) (zvI rfl) ?_))
  replace E := ((E.trans e68.keep).trans e69.keep).trans e70.keep
  refine ⟨?_, E⟩
  have h9 : [wNum 7, wBytes key].flatten = cmW (7, (rc, rn, ra), mv, en, an, key, g) := by simp [cmW]
  rw [h9] at HO70
  simp only [h9]
  exact ⟨_, _, rfl, HO70.view.mono fun i _ h => h.elim (fun h => by omega) (fun h => h.elim)⟩
 refine c_seq (wp_reg zd (l_v (v_eql rfl rfl) ?_))
 refine l_v (zaB rfl) (l_nil (n_then (c_cond rfl rfl (fun h8 => ?_) (fun h8 => ?_))))
 ·
  obtain rfl : kn = 8 := by have := dtrue h8; omega
  obtain ⟨g1, g2, g3⟩ := mgr rfl
  have q1 := wBy_le (l := key) zo
  have q2 := wNum_len10 (n := g.toNat) zo
  refine wp_any zk ?_
  have e106 : Ext w12 { w12 with drawn := w12.drawn + 1 } := Keep.drawn _ _
  generalize hw106 : ({ w12 with drawn := w12.drawn + 1 } : World) = w106 at e106 ⊢
  clear hw106
  have := e106.size
  refine r_cut 9 rfl zd zd zd ?_
  refine wp_regdW (NoK) zd zd ?_
  refine rt_v (fun vals w hR hd => zmS rfl) ?_
  refine rt_v (fun vals w hR hd => v_fieldAddr (off := 18) (ft := 24) zk rfl) ?_
  replace HB31 := HB31.ext e106
  refine rt_v (fun vals w hR hd => v_load zk (hd 1 rfl) (by first | exact (HB31.ext hR).pv 18 _ rfl | assumption)) ?_
  replace HSk := HSk.ext e106
  refine rt_to (fun v W => Bv W AllB v (wBytes key)) (fun v w w' h k => h.ext k) (fun vals w hR hd => to_f1 zk (hd 2 rfl) (CallsR.mono (Bytes_c (HSk.ext hR) zo) fun v w1 ⟨h, _, e⟩ => ⟨e, h.view.allB⟩)) ?_
  refine rt_v (fun vals w hR hd => v_fieldAddr (off := 19) (ft := 3) zk rfl) ?_
  refine rt_v (fun vals w hR hd => v_load zk (hd 4 rfl) (by first | exact (HB31.ext hR).pv 19 _ rfl | assumption)) ?_
  refine rt_to (fun v W => Bv W AllB v (wNum g.toNat)) (fun v w w' h k => h.ext k) (fun vals w hR hd => to_f1 zk (hd 5 rfl) (CallsR.mono (numI_c zo zo) fun v w1 ⟨h, _, e⟩ => ⟨e, h.view.allB⟩)) ?_
  replace HS12 := HS12.ext e106
  refine rt_to (fun v W => SlV (tSl tU8) W AllB v [wNum 8, wBytes key, wNum g.toNat]) (fun v w w' h k => h.ext k) (fun vals w hR hd => to_bytes3' (et := 24) (bytes := 24) (z := .slice none 0 0) zk (by unfold kZeros; kernel_rfl) (hd 0 rfl) (show _ = vals 3 from rfl) (show _ = vals 6 from rfl) (HS12.ext hR) (show Bv _ AllB _ (wBytes key) from hd 3 rfl) (show Bv _ AllB _ (wNum g.toNat) from hd 6 rfl) (fun b w1 hb HO e z => ⟨e, HO.view.allB⟩)) ?_
  refine rt_to (fun v W => (∃ q c, v = .slice (some q) ([wNum 8, wBytes key, wNum g.toNat].flatten).length c) ∧ OwV tU8 nU8 W n4 NoK v ([wNum 8, wBytes key, wNum g.toNat].flatten)) (fun v w w' h k => ⟨h.1, h.2.ext k⟩) (fun vals w hR hd => to_f1 zk (show _ = vals 7 from rfl) (CallsR.mono (Join_c (show SlV (tSl tU8) _ AllB _ [wNum 8, wBytes key, wNum g.toNat] from hd 7 rfl) (by simp only [List.flatten_cons, List.flatten_nil, List.append_nil, List.length_append]; omega)) fun v w1 ⟨h, hv, e⟩ => ⟨e, hv, h.base (by have := hR.size; omega)⟩)) ?_
  refine rt_nil (fun w107 e107 => ?_)
  rintro _ rfl _ rfl _ rfl v76 hs76 _ rfl _ rfl v79 hs79 v80 hs80 v81 hs81
  have := e107.size
  have hs81 : (∃ q c, v81 = .slice (some q) ([wNum 8, wBytes key, wNum g.toNat].flatten).length c) ∧ OwV tU8 nU8 _ n4 NoK v81 ([wNum 8, wBytes key, wNum g.toNat].flatten) := hs81
  obtain ⟨⟨q81, c81, rfl⟩, HO81⟩ := hs81
  refine fin_nil (n_then (r_one zd rfl ?_))
  refine l_v (zaS rfl) (l_nil (n_blk (n_then (c_seq (wp_reg zd (l_v (zmS rfl) (l_v (zaS rfl) (l_v (v_assign rfl) (l_nil ?_)))))))))
  refine n_then (c_ret (ret2v rfl zq zq (zvS rfl) (zvI rfl) ?_))
  replace E := (E.trans e106.keep).trans e107.keep
  refine ⟨?_, E⟩
  have h9 : [wNum 8, wBytes key, wNum g.toNat].flatten = cmW (8, (rc, rn, ra), mv, en, an, key, g) := by simp [cmW]
  rw [h9] at HO81
  simp only [h9]
  exact ⟨_, _, rfl, HO81.view.mono fun i _ h => h.elim (fun h => by omega) (fun h => h.elim)⟩
 refine c_skip (n_blk (n_then (c_seq (wp_reg zd (l_v (zmS rfl) (l_v (zaS rfl) (l_v (v_assign rfl) (l_nil (n_then ?_)))))))))
 refine c_ret (ret2v rfl zq zq (zvS rfl) (zvI rfl) ?_)
 refine ⟨?_, E⟩
 obtain rfl : kn = 1 := by
  have := dfalse h2; have := dfalse h3; have := dfalse h5; have := dfalse h9; have := dfalse h10; have := dfalse h4; have := dfalse h6; have := dfalse h7; have := dfalse h8
  omega
 have h9 : wNum 1 = cmW (1, (rc, rn, ra), mv, en, an, key, g) := by simp [cmW]
 rw [h9] at HO12
 simp only [h9]
 exact ⟨_, _, rfl, HO12.view.mono fun i _ h => h.elim (fun h => by omega) (fun h => h.elim)⟩
end Go.Proofs.YtogafjlbpodgjaaGreat
