/- A part of the proof: steps and lemmas for the walks through the given program. -/
import Derived.Test.YtogafjlbpodgjaaGreatC11
import Derived.Test.YtogafjlbpodgjaaGreatGu
namespace Go.Proofs.YtogafjlbpodgjaaGreat
open Go.Vc
set_option linter.unusedVariables false
set_option linter.unusedSimpArgs false
set_option maxRecDepth 100000

theorem refnumber_c {w : World} {n : Int} (h0 : 0 ≤ n) (hn : n ≤ 9223372036854775807) : CallsR Tryz.prog 27 #[.int .i64 n] w (fun r w' => OwV tU8 nU8 w' w.heap.size NoK r (wNum n.toNat) ∧ (∃ q c, r = .slice (some q) (wNum n.toNat).length c) ∧ Ext w w') := by
  obtain ⟨n, rfl⟩ := Int.eq_ofNat_of_zero_le h0
  refine enter 6 Tryz.func27 rfl rfl (by simp) ?_
  refine c_seq ?_
  have E := Keep.refl (K := NoK) w
  refine wp_reg zd (l_v (v_assign rfl) (l_nil (n_then (c_seq (wp_reg zd (l_v (zmI rfl) (l_v (v_conv (ds := .int .i64) zk zk rfl (by first | exact wr_u64 zo zo | rfl)) ?_)))))))
  refine l_to (to_f1 zk (zvI rfl) (CallsR.mono (refNumber_c (n := n) rfl zo) ?_))
  rintro _ w1 ⟨HO1, ⟨q1, c1, rfl⟩, e1⟩
  have := e1.size
  have zo_HO1 := fun (b : Nat) h => HO1.own_lt (b := b) h
  refine l_v (zaS rfl) (l_nil (n_then (c_ret (ret1v rfl zq (zvS rfl) ?_))))
  replace E := E.trans e1.keep
  exact ⟨HO1, ⟨q1, c1, rfl⟩, E⟩
theorem refflag_c {w : World} {is : Bool} : CallsR Tryz.prog 76 #[.bool is] w (fun r w' => OwV tU8 nU8 w' w.heap.size NoK r (wFlag is) ∧ (∃ q c, r = .slice (some q) (wFlag is).length c) ∧ Ext w w') := by
  refine enter 6 Tryz.func76 rfl rfl (by simp) ?_
  refine c_seq ?_
  have E := Keep.refl (K := NoK) w
  refine wp_reg zd (l_v (v_assign rfl) (l_nil (n_then (c_seq (c_seq (wp_reg zd (l_v (zmB rfl) (l_nil (n_then ?_)))))))))
  refine c_cond rfl rfl (fun hc => ?_) (fun hc => ?_)
  · skip
    subst hc
    refine c_seq (wp_reg zd (l_to (to_slice1 (t := tU8) (et := 5) (bytes := 1) zk zq (zvI rfl) ((show tU8.rep _ NoK [.int .u8 1] 1 from rfl)) ?_)))
    rintro b1 w1 zb1 HO1 e1 z1
    have := e1.size
    have zo_HO1 := fun (b : Nat) h => HO1.own_lt (b := b) h
    refine l_v (zaS rfl) (l_nil (n_then (c_ret (r_then (ret1v rfl zq (zvS rfl) ?_)))))
    replace E := E.trans e1.keep
    exact ⟨HO1.base zo, ⟨_, _, rfl⟩, E⟩
  · skip
    subst hc
    refine c_skip (n_then (c_seq (wp_reg zd (l_to (to_slice1 (t := tU8) (et := 5) (bytes := 1) zk zq (zvI rfl) ((show tU8.rep _ NoK [.int .u8 0] 0 from rfl)) ?_)))))
    rintro b1 w1 zb1 HO1 e1 z1
    have := e1.size
    have zo_HO1 := fun (b : Nat) h => HO1.own_lt (b := b) h
    refine l_v (zaS rfl) (l_nil (n_then (c_ret (ret1v rfl zq (zvS rfl) ?_))))
    replace E := E.trans e1.keep
    exact ⟨HO1.base zo, ⟨_, _, rfl⟩, E⟩
theorem refjoin_c {w : World} {v : Value} {F : Nat → Prop} {ls : List (List UInt8)} (HS1 : SlV (tSl tU8) w F v ls) (hl : ls.flatten.length ≤ 140737488355300) : CallsR Tryz.prog 28 #[v] w (fun r w' => (∃ q c, r = .slice q ls.flatten.length c) ∧ OwV tU8 nU8 w' w.heap.size NoK r ls.flatten ∧ Ext w w') := by
 obtain ⟨a, c, rfl⟩ := HS1.shape
 have hmx := HS1.len_max
 refine enter 18 Tryz.func28 rfl rfl (by simp) ?_
 refine c_seq ?_
 have E := Keep.refl (K := NoK) w
 replace HS1 := HS1.all
 refine wp_reg zd (l_v (v_assign rfl) (l_nil (n_then (c_seq (wp_reg zd (l_v (v_assign rfl) (l_nil (n_then (c_seq ?_)))))))))
 refine c_seq (wp_reg zd (l_v (v_assign rfl) (l_nil (n_then (c_block (c_loop (τ := Option Addr × Nat × Nat) [3, 4, 5, 6, 7, 8, 9, 10, 11, 12, 13, 14, 15, 16] (fun (a2, c2, k) => [(3, .slice a2 (ls.take k).flatten.length c2), (4, .int .i64 k)]) (fun (a2, c2, k) W => Ext w W ∧ Keep (NoK) w W ∧ OwV tU8 nU8 W w.heap.size NoK (.slice a2 (ls.take k).flatten.length c2) (ls.take k).flatten ∧ k ≤ ls.length) (fun (a2, c2, k) => ls.length - k) (none, 0, 0) (by exact ⟨rfl, rfl, trivial⟩) (by exact ⟨E, Keep.refl _, OwV.nil _ _ _ _ _, Nat.zero_le _⟩) ?_))))))
 rintro ⟨a2, c2, k⟩ w101 j ⟨E, EL1, HO2, h2⟩
 have := EL1.size
 have zo_HO2 := fun (b : Nat) h => HO2.own_lt (b := b) h
 refine c_seq (c_seq (wp_reg zd (l_v (zmI rfl) (l_v (zmS rfl) (l_v (v_len (et := 24) zk rfl) ?_)))))
 refine l_v (v_lss rfl rfl) ?_
 replace HS1 := HS1.ext EL1
 refine l_nil (n_then (c_cond rfl rfl (fun hc => ?_) (fun hc => ?_)))
 ·
  have hc := dtrue hc
  obtain ⟨x, hx, _⟩ := getE (l := ls) (i := k) zo
  have hs := sum_take hx
  have hs2 := len_take_le ls (k + 1)
  have hs3 := congrArg List.length hs
  rw [List.length_append] at hs3
  obtain ⟨q, cs, hq, hF, _, HPq, ⟨v1, rfl, HSx⟩⟩ := HS1.el hx
  subst hq
  obtain ⟨a1, c1, rfl⟩ := HSx.shape
  refine c_skip (n_then (c_seq (c_block (wp_reg zd (l_v (zmS rfl) (l_v (zmS rfl) (l_v (zmI rfl) (l_v (v_indexAddr (et := 24) (sz := 1) (k := k) zk zk rfl rfl (by first | rfl | omega) zo) ?_))))))))
  refine l_v (v_load zk rfl (by first | exact pv_1 HPq | assumption)) ?_
  refine l_to (to_append (et := 5) (bytes := 1) zk (zvS rfl) HO2 (zvS rfl) HSx (flat_u8.to) (by first | omega | (simp; done) | (simp; omega)) (by simp only [maxLen]; first | omega | (simp; done) | (simp; omega)) zo ?_)
  rintro a3 n3 c3 w4 HO3 hn3 k3 b3 i3
  have := k3.size
  subst hn3
  rw [← hs] at HO3 ⊢
  have zo_HO3 := fun (b : Nat) h => HO3.own_lt (b := b) h
  refine l_v (zaS rfl) (l_nil (n_blk (n_then (wp_reg zd (l_v (zmI rfl) (l_v (v_add rfl rfl (by first | exact wr_i64 zo zo | rfl)) ?_))))))
  replace E := E.step k3 (by intro i hi he; have he0 := he; (try dsimp only [NoK] at hi he ⊢); (try simp only [Value.ownBlock, Option.some.injEq] at he); first | exact he.elim | omega | exact he | (have := (HO2).own_lt he0; omega) | (have := zo_HO2 _ he0; omega) | (have := (HO2).own_lt he0; rcases hi with hi | hi <;> omega))
  replace HS1 := HS1.keep k3 (by intro i _ hi he; have he0 := he; (try dsimp only [NoK, AllB] at hi he); (try simp only [Value.ownBlock, Option.some.injEq] at he); first | exact hi.elim | exact he.elim | omega | (rcases hi with hi | hi <;> omega) | (rcases he with he | he <;> omega) | (have := (HO2).own_lt he0; omega) | (have := zo_HO2 _ he0; omega) | (have := (HO2).own_lt he0; rcases hi with hi | hi <;> omega))
  replace EL1 := EL1.step k3 (by intro i hi he; have he0 := he; (try dsimp only [NoK] at hi he ⊢); (try simp only [Value.ownBlock, Option.some.injEq] at he); first | exact he.elim | omega | exact he | (have := (HO2).own_lt he0; omega) | (have := zo_HO2 _ he0; omega) | (have := (HO2).own_lt he0; rcases hi with hi | hi <;> omega))
  replace HPq := HPq.keep k3 (by intro h; have he0 := h; (try dsimp only at h); (try simp only [Value.ownBlock, Option.some.injEq] at h); (try simp only [add_block] at h); (try simp only [add_block] at he0); first | omega | (have := (HO2).own_lt he0; omega) | (have := zo_HO2 _ he0; omega))
  replace HSx := HSx.keep k3 (by intro i _ hi he; have he0 := he; (try dsimp only [NoK, AllB] at hi he); (try simp only [Value.ownBlock, Option.some.injEq] at he); first | exact hi.elim | exact he.elim | omega | (rcases hi with hi | hi <;> omega) | (rcases he with he | he <;> omega) | (have := (HO2).own_lt he0; omega) | (have := zo_HO2 _ he0; omega) | (have := (HO2).own_lt he0; rcases hi with hi | hi <;> omega))
  refine l_v (zaI rfl) (l_nil (n_then (⟨(a3, c3, k + 1), _, rfl, by (repeat (first | exact Off.of_over _ _ _ | refine Off.upd ?_ zq _ | refine Off.overs ?_ zq _)), ⟨by first | rfl | exact congrArg (Value.int _) zo | (simp; done), by first | rfl | exact congrArg (Value.int _) zo | (simp; done), trivial⟩, ⟨E, EL1, ?_⟩, ?_⟩)))
  ·
   exact ⟨HO3, by omega⟩
  (dsimp only; omega)
 refine c_exit (x_then (x_then (x_hit (n_then (c_seq (wp_reg zd (l_v (zmS rfl) (l_v (zaS rfl) (l_nil ?_)))))))))
 refine n_then (c_ret (ret1v rfl zq (zvS rfl) ?_))
 have hk : k = ls.length := by have := dfalse hc; omega
 subst hk
 rw [List.take_length] at HO2 ⊢
 exact ⟨⟨_, _, rfl⟩, HO2, E⟩
theorem refmove_c {w : World} {F : Nat → Prop} {v : Value} {a : MvV} (HG1 : AgV tMv w F v a) (hm : mayMv a = true) : CallsR Tryz.prog 30 #[v] w (fun r w' => (∃ q c, r = .slice q (mvW a).length c) ∧ OwV tU8 nU8 w' w.heap.size NoK r (mvW a) ∧ Ext w w') := by
 have hlen := mvW_le hm
 obtain ⟨n, f, t, d, og, ng⟩ := a
 obtain ⟨a1, c1, a2, c2, rfl, HS1, HS2, hi1, hi2, hi3⟩ := HG1.mv
 clear HG1
 obtain ⟨g1, g2, g3, g4, g5, g6, g7, g8⟩ := mayMv_b hm
 simp only [] at HS1 HS2
 have hfl : [wNum n.toNat, wBytes f, wFlag d, wBytes t, wNum og.toNat, wNum ng.toNat].flatten = mvW (n, f, t, d, og, ng) := by simp [mvW]
 refine enter 23 Tryz.func30 rfl rfl (by simp) ?_
 refine c_seq ?_
 have E := Keep.refl (K := NoK) w
 replace HS1 := HS1.all
 replace HS2 := HS2.all
 refine wp_reg zd (l_to (to_box (zvA rfl) ?_))
 rintro b1 w1 zb1 HB1 e1 z1
 have := e1.size
 try simp only [Value.cells] at HB1
 obtain ⟨n4, hn4⟩ : ∃ n, n = w.heap.size := ⟨_, rfl⟩
 refine l_v (v_assign rfl) (l_nil (n_then (c_seq (wp_any zk ?_))))
 have e101 : Ext w1 { w1 with drawn := w1.drawn + 1 } := Keep.drawn _ _
 generalize hw101 : ({ w1 with drawn := w1.drawn + 1 } : World) = w101 at e101 ⊢
 clear hw101
 have := e101.size
 refine r_cut 20 rfl zd zd zd ?_
 refine wp_regdW (NoK) zd zd ?_
 refine rt_v (fun vals w hR hd => v_fieldAddr (off := 0) (ft := 2) zk rfl) ?_
 replace HB1 := HB1.ext e101
 refine rt_v (fun vals w hR hd => v_load zk (hd 0 rfl) (by first | exact (HB1.ext hR).pv 0 _ rfl | assumption)) ?_
 refine rt_to (fun v W => Bv W AllB v (wNum n.toNat)) (fun v w w' h k => h.ext k) (fun vals w hR hd => to_f1 zk (hd 1 rfl) (CallsR.mono (refnumber_c zo zo) fun v w1 ⟨h, _, e⟩ => ⟨e, h.view.allB⟩)) ?_
 refine rt_v (fun vals w hR hd => v_fieldAddr (off := 1) (ft := 24) zk rfl) ?_
 refine rt_v (fun vals w hR hd => v_load zk (hd 3 rfl) (by first | exact (HB1.ext hR).pv 1 _ rfl | assumption)) ?_
 replace HS1 := (HS1.ext e1).ext e101
 refine rt_to (fun v W => Bv W AllB v (wBytes f)) (fun v w w' h k => h.ext k) (fun vals w hR hd => to_f1 zk (hd 4 rfl) (CallsR.mono (refBytes_c (HS1.ext hR) zo) fun v w1 ⟨h, _, e⟩ => ⟨e, h.view.allB⟩)) ?_
 refine rt_v (fun vals w hR hd => v_fieldAddr (off := 3) (ft := 4) zk rfl) ?_
 refine rt_v (fun vals w hR hd => v_load zk (hd 6 rfl) (by first | exact (HB1.ext hR).pv 3 _ rfl | assumption)) ?_
 refine rt_to (fun v W => Bv W AllB v (wFlag d)) (fun v w w' h k => h.ext k) (fun vals w hR hd => to_f1 zk (hd 7 rfl) (CallsR.mono (refflag_c) fun v w1 ⟨h, _, e⟩ => ⟨e, h.view.allB⟩)) ?_
 refine rt_v (fun vals w hR hd => v_fieldAddr (off := 2) (ft := 24) zk rfl) ?_
 refine rt_v (fun vals w hR hd => v_load zk (hd 9 rfl) (by first | exact (HB1.ext hR).pv 2 _ rfl | assumption)) ?_
 replace HS2 := (HS2.ext e1).ext e101
 refine rt_to (fun v W => Bv W AllB v (wBytes t)) (fun v w w' h k => h.ext k) (fun vals w hR hd => to_f1 zk (hd 10 rfl) (CallsR.mono (refBytes_c (HS2.ext hR) zo) fun v w1 ⟨h, _, e⟩ => ⟨e, h.view.allB⟩)) ?_
 refine rt_v (fun vals w hR hd => v_fieldAddr (off := 4) (ft := 3) zk rfl) ?_
 refine rt_v (fun vals w hR hd => v_load zk (hd 12 rfl) (by first | exact (HB1.ext hR).pv 4 _ rfl | assumption)) ?_
 refine rt_to (fun v W => Bv W AllB v (wNum og.toNat)) (fun v w w' h k => h.ext k) (fun vals w hR hd => to_f1 zk (hd 13 rfl) (CallsR.mono (refnumber_c zo zo) fun v w1 ⟨h, _, e⟩ => ⟨e, h.view.allB⟩)) ?_
 refine rt_v (fun vals w hR hd => v_fieldAddr (off := 5) (ft := 3) zk rfl) ?_
 refine rt_v (fun vals w hR hd => v_load zk (hd 15 rfl) (by first | exact (HB1.ext hR).pv 5 _ rfl | assumption)) ?_
 refine rt_to (fun v W => Bv W AllB v (wNum ng.toNat)) (fun v w w' h k => h.ext k) (fun vals w hR hd => to_f1 zk (hd 16 rfl) (CallsR.mono (refnumber_c zo zo) fun v w1 ⟨h, _, e⟩ => ⟨e, h.view.allB⟩)) ?_
 refine rt_to (fun v W => SlV (tSl tU8) W AllB v [wNum n.toNat, wBytes f, wFlag d, wBytes t, wNum og.toNat, wNum ng.toNat]) (fun v w w' h k => h.ext k) (fun vals w hR hd => to_bytes6' (et := 24) (bytes := 24) (z := .slice none 0 0) zk (by unfold kZeros; kernel_rfl) (show _ = vals 2 from rfl) (show _ = vals 5 from rfl) (show _ = vals 8 from rfl) (show _ = vals 11 from rfl) (show _ = vals 14 from rfl) (show _ = vals 17 from rfl) (show Bv _ AllB _ (wNum n.toNat) from hd 2 rfl) (show Bv _ AllB _ (wBytes f) from hd 5 rfl) (show Bv _ AllB _ (wFlag d) from hd 8 rfl) (show Bv _ AllB _ (wBytes t) from hd 11 rfl) (show Bv _ AllB _ (wNum og.toNat) from hd 14 rfl) (show Bv _ AllB _ (wNum ng.toNat) from hd 17 rfl) (fun b w1 hb HO e z => ⟨e, HO.view.allB⟩)) ?_
 refine rt_to (fun v W => (∃ q c, v = .slice q ([wNum n.toNat, wBytes f, wFlag d, wBytes t, wNum og.toNat, wNum ng.toNat].flatten).length c) ∧ OwV tU8 nU8 W n4 NoK v ([wNum n.toNat, wBytes f, wFlag d, wBytes t, wNum og.toNat, wNum ng.toNat].flatten)) (fun v w w' h k => ⟨h.1, h.2.ext k⟩) (fun vals w hR hd => to_f1 zk (show _ = vals 18 from rfl) (CallsR.mono (refjoin_c (show SlV (tSl tU8) _ AllB _ [wNum n.toNat, wBytes f, wFlag d, wBytes t, wNum og.toNat, wNum ng.toNat] from hd 18 rfl) (by rw [hfl]; omega)) fun v w1 ⟨hv, h, e⟩ => ⟨e, hv, h.base (by have := hR.size; omega)⟩)) ?_
 refine rt_nil (fun w102 e102 => ?_)
 rintro _ rfl _ rfl v5 hs5 _ rfl _ rfl v8 hs8 _ rfl _ rfl v11 hs11 _ rfl _ rfl v14 hs14 _ rfl _ rfl v17 hs17 _ rfl _ rfl v20 hs20 v21 hs21 v22 hs22
 have := e102.size
 have hs22 : (∃ q c, v22 = .slice q ([wNum n.toNat, wBytes f, wFlag d, wBytes t, wNum og.toNat, wNum ng.toNat].flatten).length c) ∧ OwV tU8 nU8 _ n4 NoK v22 ([wNum n.toNat, wBytes f, wFlag d, wBytes t, wNum og.toNat, wNum ng.toNat].flatten) := hs22
 obtain ⟨⟨q22, c22, rfl⟩, HO22⟩ := hs22
 refine fin_nil (n_then (r_one zd rfl ?_))
 refine l_v (zaS rfl) (l_nil (n_then (c_ret (ret1v rfl zq (zvS rfl) ?_))))
 rw [hfl] at HO22
 rw [hfl]
 replace E := ((E.trans e1.keep).trans e101.keep).trans e102.keep
 exact ⟨⟨q22, c22, rfl⟩, hn4 ▸ HO22, E⟩
theorem refask_c {w : World} {F : Nat → Prop} {v : Value} {a : AkV} (HG1 : AgV tAk w F v a) (hm : mayAk a = true) : CallsR Tryz.prog 29 #[v] w (fun r w' => (∃ q c, r = .slice q (akW a).length c) ∧ OwV tU8 nU8 w' w.heap.size NoK r (akW a) ∧ Ext w w') := by
 obtain ⟨k, key, to, val, was, no, most⟩ := a
 obtain ⟨a1, c1, a2, c2, a3, c3, a4, c4, rfl, HS1, HS2, HS3, HS4, hi1, hi2⟩ := HG1.ak
 clear HG1
 simp only [] at HS1 HS2 HS3 HS4 hi1 hi2 ⊢
 obtain ⟨g1, g2, g3, g4, g5, g6, g7, g8⟩ := mayAk_b hm
 have q0 := wNum_len10 (n := k.toNat) zo
 have q1 := wBy_le (l := key) zo
 have q2 := wBy_le (l := to) zo
 have q3 := wBy_le (l := val) zo
 have q4 := wBy_le (l := was) zo
 have q5 := wFl_le no
 have q6 := wNum_len10 (n := most.toNat) zo
 refine enter 48 Tryz.func29 rfl rfl (by simp) ?_
 refine c_seq ?_
 have E := Keep.refl (K := NoK) w
 replace HS1 := HS1.all
 replace HS2 := HS2.all
 replace HS3 := HS3.all
 replace HS4 := HS4.all
 refine wp_reg zd (l_to (to_box (zvA rfl) ?_))
 rintro b1 w1 zb1 HB1 e1 z1
 have := e1.size
 try simp only [Value.cells] at HB1
 obtain ⟨n4, hn4⟩ : ∃ n, n = w.heap.size := ⟨_, rfl⟩
 refine l_v (v_assign rfl) (l_nil (n_then (c_seq (wp_any zk ?_))))
 have e101 : Ext w1 { w1 with drawn := w1.drawn + 1 } := Keep.drawn _ _
 generalize hw101 : ({ w1 with drawn := w1.drawn + 1 } : World) = w101 at e101 ⊢
 clear hw101
 have := e101.size
 refine r_cut 8 rfl zd zd zd ?_
 refine wp_regdW (NoK) zd zd ?_
 refine rt_v (fun vals w hR hd => v_fieldAddr (off := 0) (ft := 23) zk rfl) ?_
 replace HB1 := HB1.ext e101
 refine rt_v (fun vals w hR hd => v_load zk (hd 0 rfl) (by first | exact (HB1.ext hR).pv 0 _ rfl | assumption)) ?_
 refine rt_to (fun v W => Bv W AllB v (wNum k.toNat)) (fun v w w' h k => h.ext k) (fun vals w hR hd => to_f1 zk (hd 1 rfl) (CallsR.mono (refnumber_c zo zo) fun v w1 ⟨h, _, e⟩ => ⟨e, h.view.allB⟩)) ?_
 refine rt_v (fun vals w hR hd => v_fieldAddr (off := 1) (ft := 24) zk rfl) ?_
 refine rt_v (fun vals w hR hd => v_load zk (hd 3 rfl) (by first | exact (HB1.ext hR).pv 1 _ rfl | assumption)) ?_
 replace HS1 := (HS1.ext e1).ext e101
 refine rt_to (fun v W => Bv W AllB v (wBytes key)) (fun v w w' h k => h.ext k) (fun vals w hR hd => to_f1 zk (hd 4 rfl) (CallsR.mono (refBytes_c (HS1.ext hR) zo) fun v w1 ⟨h, _, e⟩ => ⟨e, h.view.allB⟩)) ?_
 refine rt_to (fun v W => SlV (tSl tU8) W AllB v [wNum k.toNat, wBytes key]) (fun v w w' h k => h.ext k) (fun vals w hR hd => to_bytes2' (et := 24) (bytes := 24) (z := .slice none 0 0) zk (by unfold kZeros; kernel_rfl) (show _ = vals 2 from rfl) (show _ = vals 5 from rfl) (show Bv _ AllB _ (wNum k.toNat) from hd 2 rfl) (show Bv _ AllB _ (wBytes key) from hd 5 rfl) (fun b w1 hb HO e z => ⟨e, HO.view.allB⟩)) ?_
 refine rt_to (fun v W => (∃ q c, v = .slice q ([wNum k.toNat, wBytes key].flatten).length c) ∧ OwV tU8 nU8 W n4 NoK v ([wNum k.toNat, wBytes key].flatten)) (fun v w w' h k => ⟨h.1, h.2.ext k⟩) (fun vals w hR hd => to_f1 zk (show _ = vals 6 from rfl) (CallsR.mono (refjoin_c (show SlV (tSl tU8) _ AllB _ [wNum k.toNat, wBytes key] from hd 6 rfl) (by simp only [List.flatten_cons, List.flatten_nil, List.append_nil, List.length_append]; omega)) fun v w1 ⟨hv, h, e⟩ => ⟨e, hv, h.base (by have := hR.size; omega)⟩)) ?_
 refine rt_nil (fun w102 e102 => ?_)
 rintro _ rfl _ rfl v6 hs6 _ rfl _ rfl v9 hs9 v10 hs10 v11 hs11
 have := e102.size
 have hs11 : (∃ q c, v11 = .slice q ([wNum k.toNat, wBytes key].flatten).length c) ∧ OwV tU8 nU8 _ n4 NoK v11 ([wNum k.toNat, wBytes key].flatten) := hs11
 obtain ⟨⟨q11, c11, rfl⟩, HO11⟩ := hs11
 have HS11 := HO11.view.allB
 have hl11 : ([wNum k.toNat, wBytes key].flatten).length = (wNum k.toNat).length + (wBytes key).length := by simp
 refine fin_nil (n_then (r_one zd rfl ?_))
 replace HB1 := HB1.ext e102
 refine l_v (zaS rfl) (l_nil (n_then (c_seq (c_seq (wp_reg zd (l_v (v_fieldAddr (off := 0) (ft := 23) zk rfl) (l_v (v_load zk rfl (by first | exact HB1.pv 0 _ rfl | assumption)) ?_)))))))
 refine l_nil (n_then (c_block (c_seq (wp_reg zd (l_v (v_eql rfl rfl) ?_)))))
 replace E := ((E.trans e1.keep).trans e101.keep).trans e102.keep
 replace HS2 := ((HS2.ext e1).ext e101).ext e102
 replace HS3 := ((HS3.ext e1).ext e101).ext e102
 replace HS4 := ((HS4.ext e1).ext e101).ext e102
 replace HS1 := HS1.ext e102
 refine l_v (zaB rfl) (l_nil (n_then (c_cond rfl rfl (fun h2 => ?_) (fun h2 => ?_))))
 ·
  have hk : k = 2 := dtrue h2
  refine c_seq (wp_reg zd (l_v (zmS rfl) (l_v (v_fieldAddr (off := 3) (ft := 24) zk rfl) (l_v (v_load zk rfl (by first | exact HB1.pv 3 _ rfl | assumption)) ?_))))
  refine l_to (to_f1 zk (zvS rfl) (CallsR.mono (refBytes_c HS3 zo) ?_))
  rintro _ w19 ⟨HO19, ⟨q19, c19, rfl⟩, e19⟩
  have := e19.size
  have zo_HO19 := fun (b : Nat) h => HO19.own_lt (b := b) h
  replace HS11 := HS11.ext e19
  refine l_to (to_sliceN (t := tSl tU8) (xs := [[wNum k.toNat, wBytes key].flatten, wBytes val]) (et := 24) (bytes := 24) (zl := [.slice none 0 0, .slice none 0 0]) zk zq zq (by unfold kZeros; kernel_rfl) rfl (cells := [_, _]) rfl rfl rfl ((repsB2 HS11 HO19.view.allB)) ?_)
  rintro b20 w20 zb20 HO20 e20 z20
  have := e20.size
  have zo_HO20 := fun (b : Nat) h => HO20.own_lt (b := b) h
  refine l_to (to_f1 zk (zvS rfl) (CallsR.mono (refjoin_c HO20.view (by simp only [List.flatten_cons, List.flatten_nil, List.append_nil, List.length_append]; omega)) ?_))
  rintro _ w21 ⟨⟨q21, c21, rfl⟩, HO21, e21⟩
  have := e21.size
  have zo_HO21 := fun (b : Nat) h => HO21.own_lt (b := b) h
  replace HO21 := HO21.base (B' := n4) zo
  refine l_v (zaS rfl) (l_nil (n_then (c_ret (r_blk (r_then (ret1v rfl zq (zvS rfl) ?_))))))
  have h9 : [[wNum k.toNat, wBytes key].flatten, wBytes val].flatten = akW (k, key, to, val, was, no, most) := by subst hk; simp [akW, nmT, optW]
  rw [h9] at HO21 ⊢
  replace E := ((E.trans e19.keep).trans e20.keep).trans e21.keep
  exact ⟨⟨q21, c21, rfl⟩, hn4 ▸ HO21, E⟩
 refine c_seq (wp_reg zd (l_v (v_eql rfl rfl) ?_))
 refine l_v (zaB rfl) (l_nil (n_then (c_cond rfl rfl (fun h4 => ?_) (fun h4 => ?_))))
 ·
  have hk : k = 4 := dtrue h4
  refine c_seq (wp_any zk ?_)
  have e103 : Ext w102 { w102 with drawn := w102.drawn + 1 } := Keep.drawn _ _
  generalize hw103 : ({ w102 with drawn := w102.drawn + 1 } : World) = w103 at e103 ⊢
  clear hw103
  have := e103.size
  refine r_cut 12 rfl zd zd zd ?_
  refine wp_regdW (NoK) zd zd ?_
  refine rt_v (fun vals w hR hd => zmS rfl) ?_
  refine rt_v (fun vals w hR hd => v_fieldAddr (off := 3) (ft := 24) zk rfl) ?_
  replace HB1 := HB1.ext e103
  refine rt_v (fun vals w hR hd => v_load zk (hd 1 rfl) (by first | exact (HB1.ext hR).pv 3 _ rfl | assumption)) ?_
  replace HS3 := HS3.ext e103
  refine rt_to (fun v W => Bv W AllB v (wBytes val)) (fun v w w' h k => h.ext k) (fun vals w hR hd => to_f1 zk (hd 2 rfl) (CallsR.mono (refBytes_c (HS3.ext hR) zo) fun v w1 ⟨h, _, e⟩ => ⟨e, h.view.allB⟩)) ?_
  refine rt_v (fun vals w hR hd => v_fieldAddr (off := 4) (ft := 24) zk rfl) ?_
  refine rt_v (fun vals w hR hd => v_load zk (hd 4 rfl) (by first | exact (HB1.ext hR).pv 4 _ rfl | assumption)) ?_
  replace HS4 := HS4.ext e103
  refine rt_to (fun v W => Bv W AllB v (wBytes was)) (fun v w w' h k => h.ext k) (fun vals w hR hd => to_f1 zk (hd 5 rfl) (CallsR.mono (refBytes_c (HS4.ext hR) zo) fun v w1 ⟨h, _, e⟩ => ⟨e, h.view.allB⟩)) ?_
  refine rt_v (fun vals w hR hd => v_fieldAddr (off := 5) (ft := 4) zk rfl) ?_
  refine rt_v (fun vals w hR hd => v_load zk (hd 7 rfl) (by first | exact (HB1.ext hR).pv 5 _ rfl | assumption)) ?_
  refine rt_to (fun v W => Bv W AllB v (wFlag no)) (fun v w w' h k => h.ext k) (fun vals w hR hd => to_f1 zk (hd 8 rfl) (CallsR.mono (refflag_c) fun v w1 ⟨h, _, e⟩ => ⟨e, h.view.allB⟩)) ?_
  replace HS11 := HS11.ext e103
  refine rt_to (fun v W => SlV (tSl tU8) W AllB v [[wNum k.toNat, wBytes key].flatten, wBytes val, wBytes was, wFlag no]) (fun v w w' h k => h.ext k) (fun vals w hR hd => to_bytes4' (et := 24) (bytes := 24) (z := .slice none 0 0) zk (by unfold kZeros; kernel_rfl) (hd 0 rfl) (show _ = vals 3 from rfl) (show _ = vals 6 from rfl) (show _ = vals 9 from rfl) (HS11.ext hR) (show Bv _ AllB _ (wBytes val) from hd 3 rfl) (show Bv _ AllB _ (wBytes was) from hd 6 rfl) (show Bv _ AllB _ (wFlag no) from hd 9 rfl) (fun b w1 hb HO e z => ⟨e, HO.view.allB⟩)) ?_
  refine rt_to (fun v W => (∃ q c, v = .slice q ([[wNum k.toNat, wBytes key].flatten, wBytes val, wBytes was, wFlag no].flatten).length c) ∧ OwV tU8 nU8 W n4 NoK v ([[wNum k.toNat, wBytes key].flatten, wBytes val, wBytes was, wFlag no].flatten)) (fun v w w' h k => ⟨h.1, h.2.ext k⟩) (fun vals w hR hd => to_f1 zk (show _ = vals 10 from rfl) (CallsR.mono (refjoin_c (show SlV (tSl tU8) _ AllB _ [[wNum k.toNat, wBytes key].flatten, wBytes val, wBytes was, wFlag no] from hd 10 rfl) (by simp only [List.flatten_cons, List.flatten_nil, List.append_nil, List.length_append]; omega)) fun v w1 ⟨hv, h, e⟩ => ⟨e, hv, h.base (by have := hR.size; omega)⟩)) ?_
  refine rt_nil (fun w104 e104 => ?_)
  rintro _ rfl _ rfl _ rfl v27 hs27 _ rfl _ rfl v30 hs30 _ rfl _ rfl v33 hs33 v34 hs34 v35 hs35
  have := e104.size
  have hs35 : (∃ q c, v35 = .slice q ([[wNum k.toNat, wBytes key].flatten, wBytes val, wBytes was, wFlag no].flatten).length c) ∧ OwV tU8 nU8 _ n4 NoK v35 ([[wNum k.toNat, wBytes key].flatten, wBytes val, wBytes was, wFlag no].flatten) := hs35
  obtain ⟨⟨q35, c35, rfl⟩, HO35⟩ := hs35
  refine fin_nil (n_then (r_one zd rfl ?_))
  refine l_v (zaS rfl) (l_nil (n_then (c_ret (r_blk (r_then (ret1v rfl zq (zvS rfl) ?_))))))
  have h9 : [[wNum k.toNat, wBytes key].flatten, wBytes val, wBytes was, wFlag no].flatten = akW (k, key, to, val, was, no, most) := by subst hk; simp [akW, nmT, optW]
  rw [h9] at HO35 ⊢
  replace E := (E.trans e103.keep).trans e104.keep
  exact ⟨⟨q35, c35, rfl⟩, hn4 ▸ HO35, E⟩
 refine c_seq (wp_reg zd (l_v (v_eql rfl rfl) ?_))
 refine l_v (zaB rfl) (l_nil (n_then (c_cond rfl rfl (fun h5 => ?_) (fun h5 => ?_))))
 ·
  have hk : k = 5 := dtrue h5
  refine c_seq (wp_any zk ?_)
  have e105 : Ext w102 { w102 with drawn := w102.drawn + 1 } := Keep.drawn _ _
  generalize hw105 : ({ w102 with drawn := w102.drawn + 1 } : World) = w105 at e105 ⊢
  clear hw105
  have := e105.size
  refine r_cut 9 rfl zd zd zd ?_
  refine wp_regdW (NoK) zd zd ?_
  refine rt_v (fun vals w hR hd => zmS rfl) ?_
  refine rt_v (fun vals w hR hd => v_fieldAddr (off := 2) (ft := 24) zk rfl) ?_
  replace HB1 := HB1.ext e105
  refine rt_v (fun vals w hR hd => v_load zk (hd 1 rfl) (by first | exact (HB1.ext hR).pv 2 _ rfl | assumption)) ?_
  replace HS2 := HS2.ext e105
  refine rt_to (fun v W => Bv W AllB v (wBytes to)) (fun v w w' h k => h.ext k) (fun vals w hR hd => to_f1 zk (hd 2 rfl) (CallsR.mono (refBytes_c (HS2.ext hR) zo) fun v w1 ⟨h, _, e⟩ => ⟨e, h.view.allB⟩)) ?_
  refine rt_v (fun vals w hR hd => v_fieldAddr (off := 6) (ft := 3) zk rfl) ?_
  refine rt_v (fun vals w hR hd => v_load zk (hd 4 rfl) (by first | exact (HB1.ext hR).pv 6 _ rfl | assumption)) ?_
  refine rt_to (fun v W => Bv W AllB v (wNum most.toNat)) (fun v w w' h k => h.ext k) (fun vals w hR hd => to_f1 zk (hd 5 rfl) (CallsR.mono (refnumber_c zo zo) fun v w1 ⟨h, _, e⟩ => ⟨e, h.view.allB⟩)) ?_
  replace HS11 := HS11.ext e105
  refine rt_to (fun v W => SlV (tSl tU8) W AllB v [[wNum k.toNat, wBytes key].flatten, wBytes to, wNum most.toNat]) (fun v w w' h k => h.ext k) (fun vals w hR hd => to_bytes3' (et := 24) (bytes := 24) (z := .slice none 0 0) zk (by unfold kZeros; kernel_rfl) (hd 0 rfl) (show _ = vals 3 from rfl) (show _ = vals 6 from rfl) (HS11.ext hR) (show Bv _ AllB _ (wBytes to) from hd 3 rfl) (show Bv _ AllB _ (wNum most.toNat) from hd 6 rfl) (fun b w1 hb HO e z => ⟨e, HO.view.allB⟩)) ?_
  refine rt_to (fun v W => (∃ q c, v = .slice q ([[wNum k.toNat, wBytes key].flatten, wBytes to, wNum most.toNat].flatten).length c) ∧ OwV tU8 nU8 W n4 NoK v ([[wNum k.toNat, wBytes key].flatten, wBytes to, wNum most.toNat].flatten)) (fun v w w' h k => ⟨h.1, h.2.ext k⟩) (fun vals w hR hd => to_f1 zk (show _ = vals 7 from rfl) (CallsR.mono (refjoin_c (show SlV (tSl tU8) _ AllB _ [[wNum k.toNat, wBytes key].flatten, wBytes to, wNum most.toNat] from hd 7 rfl) (by simp only [List.flatten_cons, List.flatten_nil, List.append_nil, List.length_append]; omega)) fun v w1 ⟨hv, h, e⟩ => ⟨e, hv, h.base (by have := hR.size; omega)⟩)) ?_
  refine rt_nil (fun w106 e106 => ?_)
  rintro _ rfl _ rfl _ rfl v41 hs41 _ rfl _ rfl v44 hs44 v45 hs45 v46 hs46
  have := e106.size
  have hs46 : (∃ q c, v46 = .slice q ([[wNum k.toNat, wBytes key].flatten, wBytes to, wNum most.toNat].flatten).length c) ∧ OwV tU8 nU8 _ n4 NoK v46 ([[wNum k.toNat, wBytes key].flatten, wBytes to, wNum most.toNat].flatten) := hs46
  obtain ⟨⟨q46, c46, rfl⟩, HO46⟩ := hs46
  refine fin_nil (n_then (r_one zd rfl ?_))
  refine l_v (zaS rfl) (l_nil (n_then (c_ret (r_blk (r_then (ret1v rfl zq (zvS rfl) ?_))))))
  have h9 : [[wNum k.toNat, wBytes key].flatten, wBytes to, wNum most.toNat].flatten = akW (k, key, to, val, was, no, most) := by subst hk; simp [akW, nmT, optW]
  rw [h9] at HO46 ⊢
  replace E := (E.trans e105.keep).trans e106.keep
  exact ⟨⟨q46, c46, rfl⟩, hn4 ▸ HO46, E⟩
 refine c_skip (n_blk (n_then (c_seq (wp_reg zd (l_v (zmS rfl) (l_v (zaS rfl) (l_nil (n_then (c_ret ?_)))))))))
 refine ret1v rfl zq (zvS rfl) ?_
 have hk : k = 1 ∨ k = 3 := by have := dfalse h2; have := dfalse h4; have := dfalse h5; omega
 have h9 : [wNum k.toNat, wBytes key].flatten = akW (k, key, to, val, was, no, most) := by rcases hk with hk | hk <;> (subst hk; simp [akW, nmT, optW])
 rw [h9] at HO11 ⊢
 exact ⟨⟨q11, c11, rfl⟩, hn4 ▸ HO11, E⟩
end Go.Proofs.YtogafjlbpodgjaaGreat
