/- A part of the proof: steps and lemmas for the walks through the given program. -/
import Derived.Test.YtogafjlbpodgjaaGreatC8
import Derived.Test.YtogafjlbpodgjaaGreatCz
namespace Go.Proofs.YtogafjlbpodgjaaGreat
open Go.Vc
set_option linter.unusedVariables false
set_option linter.unusedSimpArgs false
set_option maxRecDepth 100000

def cmW : CmV → List UInt8
  | (k, rq, mv, en, an, key, g) => wNum k.toNat ++ (if k = 2 then wNum rq.1.toNat ++ wNum rq.2.1.toNat ++ akW rq.2.2 else if k = 3 ∨ k = 5 ∨ k = 9 ∨ k = 10 then mvW mv else if k = 4 then mvW mv ++ wBytes (wList spI en) ++ wBytes an else if k = 6 ∨ k = 7 then wBytes key else if k = 8 then wBytes key ++ wNum g.toNat else [])
theorem lsW_le {l : List IkV} (h : ∀ e ∈ l, mayIk e = true) (hl : l.length ≤ 65536) : (wList spI l).length ≤ 10 + l.length * 65710 := by
  have h1 : ∀ (k : List IkV), (∀ e ∈ k, mayIk e = true) → ((k.map spI).flatten).length ≤ k.length * 65710 := by
    intro k
    induction k with
    | nil => intro _; simp
    | cons e k ih =>
      intro hk
      have i1 := ih (fun x hx => hk x (List.mem_cons_of_mem _ hx))
      have i2 := ikW_le (hk e List.mem_cons_self)
      have i3 := wBy_le (l := ikW e) zo
      simp only [List.map_cons, List.flatten_cons, List.length_append, List.length_cons, spI] at i1 ⊢
      omega
  have i1 := h1 l h
  have i2 := wNum_len10 (n := l.length) zo
  rw [wList, List.length_append]; omega
theorem numI_c {w : World} {n : Int} (h0 : 0 ≤ n) (hn : n ≤ 9223372036854775807) : CallsR Tryz.prog 20 #[.int .i64 n] w (fun r w' => OwV tU8 nU8 w' w.heap.size NoK r (wNum n.toNat) ∧ (∃ q c, r = .slice (some q) (wNum n.toNat).length c) ∧ Ext w w') := by
  obtain ⟨n, rfl⟩ := Int.eq_ofNat_of_zero_le h0
  refine enter 6 Tryz.func20 rfl rfl (by simp) ?_
  refine c_seq ?_
  have E := Keep.refl (K := NoK) w
  refine wp_reg zd (l_v (v_assign rfl) (l_nil (n_then (c_seq (wp_reg zd (l_v (zmI rfl) (l_v (v_conv (ds := .int .i64) zk zk rfl (by first | exact wr_u64 zo zo | rfl)) ?_)))))))
  refine l_to (to_f1 zk (zvI rfl) (CallsR.mono (Number_c (n := n) zo) ?_))
  rintro _ w1 ⟨HO1, ⟨q1, c1, rfl⟩, e1⟩
  have := e1.size
  have zo_HO1 := fun (b : Nat) h => HO1.own_lt (b := b) h
  refine l_v (zaS rfl) (l_nil (n_then (c_ret (ret1v rfl zq (zvS rfl) ?_))))
  replace E := E.trans e1.keep
  exact ⟨HO1, ⟨q1, c1, rfl⟩, E⟩
theorem numL_c {w : World} {n : Int} (h0 : 0 ≤ n) (hn : n ≤ 9223372036854775807) : CallsR Tryz.prog 21 #[.int .i64 n] w (fun r w' => OwV tU8 nU8 w' w.heap.size NoK r (wNum n.toNat) ∧ (∃ q c, r = .slice (some q) (wNum n.toNat).length c) ∧ Ext w w') := by
  obtain ⟨n, rfl⟩ := Int.eq_ofNat_of_zero_le h0
  refine enter 6 Tryz.func21 rfl rfl (by simp) ?_
  refine c_seq ?_
  have E := Keep.refl (K := NoK) w
  refine wp_reg zd (l_v (v_assign rfl) (l_nil (n_then (c_seq (wp_reg zd (l_v (zmI rfl) (l_v (v_conv (ds := .int .i64) zk zk rfl (by first | exact wr_u64 zo zo | rfl)) ?_)))))))
  refine l_to (to_f1 zk (zvI rfl) (CallsR.mono (Number_c (n := n) zo) ?_))
  rintro _ w1 ⟨HO1, ⟨q1, c1, rfl⟩, e1⟩
  have := e1.size
  have zo_HO1 := fun (b : Nat) h => HO1.own_lt (b := b) h
  refine l_v (zaS rfl) (l_nil (n_then (c_ret (ret1v rfl zq (zvS rfl) ?_))))
  replace E := E.trans e1.keep
  exact ⟨HO1, ⟨q1, c1, rfl⟩, E⟩
theorem numK_c {w : World} {n : Int} (h0 : 0 ≤ n) (hn : n ≤ 9223372036854775807) : CallsR Tryz.prog 18 #[.int .i64 n] w (fun r w' => OwV tU8 nU8 w' w.heap.size NoK r (wNum n.toNat) ∧ (∃ q c, r = .slice (some q) (wNum n.toNat).length c) ∧ Ext w w') := by
  obtain ⟨n, rfl⟩ := Int.eq_ofNat_of_zero_le h0
  refine enter 6 Tryz.func18 rfl rfl (by simp) ?_
  refine c_seq ?_
  have E := Keep.refl (K := NoK) w
  refine wp_reg zd (l_v (v_assign rfl) (l_nil (n_then (c_seq (wp_reg zd (l_v (zmI rfl) (l_v (v_conv (ds := .int .i64) zk zk rfl (by first | exact wr_u64 zo zo | rfl)) ?_)))))))
  refine l_to (to_f1 zk (zvI rfl) (CallsR.mono (Number_c (n := n) zo) ?_))
  rintro _ w1 ⟨HO1, ⟨q1, c1, rfl⟩, e1⟩
  have := e1.size
  have zo_HO1 := fun (b : Nat) h => HO1.own_lt (b := b) h
  refine l_v (zaS rfl) (l_nil (n_then (c_ret (ret1v rfl zq (zvS rfl) ?_))))
  replace E := E.trans e1.keep
  exact ⟨HO1, ⟨q1, c1, rfl⟩, E⟩
theorem numA_c {w : World} {n : Int} (h0 : 0 ≤ n) (hn : n ≤ 9223372036854775807) : CallsR Tryz.prog 60 #[.int .i64 n] w (fun r w' => OwV tU8 nU8 w' w.heap.size NoK r (wNum n.toNat) ∧ (∃ q c, r = .slice (some q) (wNum n.toNat).length c) ∧ Ext w w') := by
  obtain ⟨n, rfl⟩ := Int.eq_ofNat_of_zero_le h0
  refine enter 6 Tryz.func60 rfl rfl (by simp) ?_
  refine c_seq ?_
  have E := Keep.refl (K := NoK) w
  refine wp_reg zd (l_v (v_assign rfl) (l_nil (n_then (c_seq (wp_reg zd (l_v (zmI rfl) (l_v (v_conv (ds := .int .i64) zk zk rfl (by first | exact wr_u64 zo zo | rfl)) ?_)))))))
  refine l_to (to_f1 zk (zvI rfl) (CallsR.mono (Number_c (n := n) zo) ?_))
  rintro _ w1 ⟨HO1, ⟨q1, c1, rfl⟩, e1⟩
  have := e1.size
  have zo_HO1 := fun (b : Nat) h => HO1.own_lt (b := b) h
  refine l_v (zaS rfl) (l_nil (n_then (c_ret (ret1v rfl zq (zvS rfl) ?_))))
  replace E := E.trans e1.keep
  exact ⟨HO1, ⟨q1, c1, rfl⟩, E⟩
theorem more_c {w : World} {F : Nat → Prop} {b n c n0 : Nat} {a : Option Addr} {x : List UInt8} {v : Value} {is : Bool} {ls : List (List UInt8)} (HB1 : Blk w b [.slice a n c] 24) (HS1 : Bv w (fun i => i ≠ b ∧ n0 ≤ i) (.slice a n c) x) (HS2 : SlV (tSl tU8) w F v ls) (hn0 : n0 ≤ w.heap.size) (hl : x.length + ls.flatten.length ≤ 140737488355300) :
    CallsR Tryz.prog 61 (#[.bool is, v] ++ #[.pointer (some ⟨b, 0, none⟩)]) w (fun o w' => (∃ a' c', Blk w' b [.slice a' (x ++ optW is ls.flatten).length c'] 24 ∧ Bv w' (fun i => i ≠ b ∧ n0 ≤ i) (.slice a' (x ++ optW is ls.flatten).length c') (x ++ optW is ls.flatten)) ∧ Keep (fun i => i = b) w w') := by
 obtain ⟨a2, c2, rfl⟩ := HS2.shape
 obtain ⟨a1, c1, hv⟩ := HS1.shape
 cases hv
 have zl1 := HB1.lt
 show CallsR _ _ #[_, _, _] _ _
 refine enter 11 Tryz.func61 rfl rfl (by simp) ?_
 refine c_seq ?_
 have E := Keep.refl (K := fun i => i = b) w
 refine wp_reg zd (l_v (zmB rfl) (l_nil (n_then (c_cond rfl rfl (fun hc => ?_) (fun hc => ?_)))))
 ·
  refine wp_any zk ?_
  have e101 : Ext w { w with drawn := w.drawn + 1 } := Keep.drawn _ _
  generalize hw101 : ({ w with drawn := w.drawn + 1 } : World) = w101 at e101 ⊢
  clear hw101
  have := e101.size
  refine r_cut 3 rfl zd zd zd ?_
  refine wp_regdW (NoK) zd zd ?_
  replace HB1 := HB1.ext e101
  refine rt_v (fun vals w hR hd => v_load zk rfl (by first | exact (HB1.ext hR).cell rfl | assumption)) ?_
  refine rt_v (fun vals w hR hd => zmS rfl) ?_
  replace HS2 := HS2.ext e101
  refine rt_to (fun v W => Bv W AllB v ls.flatten) (fun v w w' h k => h.ext k) (fun vals w hR hd => to_f1 zk (hd 1 rfl) (CallsR.mono (Join_c (HS2.ext hR) zo) fun v w1 ⟨h, _, e⟩ => ⟨e, h.view.allB⟩)) ?_
  refine rt_nil (fun w102 e102 => ?_)
  rintro _ rfl _ rfl v9 HS9
  have := e102.size
  have HS9 : Bv _ AllB v9 ls.flatten := HS9
  obtain ⟨a9, c9, rfl⟩ := HS9.shape
  refine fin_nil (n_then (r_cut 1 rfl zd zd zd ?_))
  refine r_one zd rfl ?_
  replace HS1 := (HS1.ext e101).ext e102
  refine l_to (to_sliceN (t := tSl tU8) (xs := [x, ls.flatten]) (et := 24) (bytes := 24) (zl := [.slice none 0 0, .slice none 0 0]) zk zq zq (by unfold kZeros; kernel_rfl) rfl (cells := [_, _]) rfl rfl rfl ((reps2 (t := tSl tU8) (c1 := [_]) (c2 := [_]) ⟨_, rfl, HS1.allB⟩ ⟨_, rfl, HS9⟩)) ?_)
  rintro b10 w10 zb10 HO10 e10 z10
  have := e10.size
  have zo_HO10 := fun (b : Nat) h => HO10.own_lt (b := b) h
  refine l_nil (n_then (r_cut 1 rfl zd zd zd ?_))
  refine r_one zd rfl ?_
  refine l_to (to_f1 zk (zvS rfl) (CallsR.mono (Join_c HO10.view (by simp only [List.flatten_cons, List.flatten_nil, List.append_nil, List.length_append]; omega)) ?_))
  rintro _ w11 ⟨HO11, ⟨q11, c11, rfl⟩, e11⟩
  have := e11.size
  have HS11 := HO11.view.mono (F' := fun i => b < i ∧ n0 ≤ i) (fun i _ h => Or.elim h (fun h => by omega) (fun h => h.elim))
  have zo_HO11 := fun (b : Nat) h => HO11.own_lt (b := b) h
  refine l_nil (n_then (r_one zd rfl ?_))
  replace HB1 := ((HB1.ext e102).ext e10).ext e11
  refine l_to (to_store rfl rfl (zvS rfl) rfl zk HB1 (by simp) ?_)
  rintro w31 HB1 k31 z31
  have := k31.size
  try simp only [List.set_cons_zero, List.set_cons_succ] at HB1
  refine l_nil (end0 rfl ?_)
  have h : [x, ls.flatten].flatten = x ++ optW true ls.flatten := by simp [optW]
  replace HS11 := HS11.keep k31 dj1
  rw [h] at HB1 HS11
  rw [hc]
  replace E := ((((E.trans e101.keep).trans e102.keep).trans e10.keep).trans e11.keep).step k31 dj3
  exact ⟨⟨_, _, HB1, HS11.mono fun i _ h => by omega⟩, E⟩
 refine c_skip (end0 rfl ?_)
 rw [hc]
 have h : x = x ++ optW false ls.flatten := by simp [optW]
 rw [← h]
 exact ⟨⟨_, _, HB1, HS1⟩, E⟩
theorem move_c {w : World} {F : Nat → Prop} {v : Value} {a : MvV} (HG1 : AgV tMv w F v a) (hm : mayMv a = true) : CallsR Tryz.prog 23 #[v] w (fun r w' => (∃ q c, r = .slice (some q) (mvW a).length c) ∧ OwV tU8 nU8 w' w.heap.size NoK r (mvW a) ∧ Ext w w') := by
 have hlen := mvW_le hm
 obtain ⟨n, f, t, d, og, ng⟩ := a
 obtain ⟨a1, c1, a2, c2, rfl, HS1, HS2, hi1, hi2, hi3⟩ := HG1.mv
 clear HG1
 obtain ⟨g1, g2, g3, g4, g5, g6, g7, g8⟩ := mayMv_b hm
 simp only [] at HS1 HS2
 refine enter 23 Tryz.func23 rfl rfl (by simp) ?_
 refine c_seq ?_
 have E := Keep.refl (K := NoK) w
 replace HS1 := HS1.all
 replace HS2 := HS2.all
 refine wp_reg zd (l_to (to_box (zvA rfl) ?_))
 rintro b1 w1 zb1 HB1 e1 z1
 have := e1.size
 try simp only [Value.cells] at HB1
 obtain ⟨n4, hn4⟩ : ∃ n, n = w.heap.size := ⟨_, rfl⟩
 refine l_v (v_assign rfl) (l_nil (n_then (c_seq (wp_any zk ?_))))
 have e101 : Ext w1 { w1 with drawn := w1.drawn + 1 } := Keep.drawn _ _
 generalize hw101 : ({ w1 with drawn := w1.drawn + 1 } : World) = w101 at e101 ⊢
 clear hw101
 have := e101.size
 refine r_cut 20 rfl zd zd zd ?_
 refine wp_regdW (NoK) zd zd ?_
 refine rt_v (fun vals w hR hd => v_fieldAddr (off := 0) (ft := 2) zk rfl) ?_
 replace HB1 := HB1.ext e101
 refine rt_v (fun vals w hR hd => v_load zk (hd 0 rfl) (by first | exact (HB1.ext hR).pv 0 _ rfl | assumption)) ?_
 refine rt_to (fun v W => Bv W AllB v (wNum n.toNat)) (fun v w w' h k => h.ext k) (fun vals w hR hd => to_f1 zk (hd 1 rfl) (CallsR.mono (numL_c zo zo) fun v w1 ⟨h, _, e⟩ => ⟨e, h.view.allB⟩)) ?_
 refine rt_v (fun vals w hR hd => v_fieldAddr (off := 1) (ft := 24) zk rfl) ?_
 refine rt_v (fun vals w hR hd => v_load zk (hd 3 rfl) (by first | exact (HB1.ext hR).pv 1 _ rfl | assumption)) ?_
 replace HS1 := (HS1.ext e1).ext e101
 refine rt_to (fun v W => Bv W AllB v (wBytes f)) (fun v w w' h k => h.ext k) (fun vals w hR hd => to_f1 zk (hd 4 rfl) (CallsR.mono (Bytes_c (HS1.ext hR) zo) fun v w1 ⟨h, _, e⟩ => ⟨e, h.view.allB⟩)) ?_
 refine rt_v (fun vals w hR hd => v_fieldAddr (off := 3) (ft := 4) zk rfl) ?_
 refine rt_v (fun vals w hR hd => v_load zk (hd 6 rfl) (by first | exact (HB1.ext hR).pv 3 _ rfl | assumption)) ?_
 refine rt_to (fun v W => Bv W AllB v (wFlag d)) (fun v w w' h k => h.ext k) (fun vals w hR hd => to_f1 zk (hd 7 rfl) (CallsR.mono (Flag_c) fun v w1 ⟨h, _, e⟩ => ⟨e, h.view.allB⟩)) ?_
 refine rt_v (fun vals w hR hd => v_fieldAddr (off := 2) (ft := 24) zk rfl) ?_
 refine rt_v (fun vals w hR hd => v_load zk (hd 9 rfl) (by first | exact (HB1.ext hR).pv 2 _ rfl | assumption)) ?_
 replace HS2 := (HS2.ext e1).ext e101
 refine rt_to (fun v W => Bv W AllB v (wBytes t)) (fun v w w' h k => h.ext k) (fun vals w hR hd => to_f1 zk (hd 10 rfl) (CallsR.mono (Bytes_c (HS2.ext hR) zo) fun v w1 ⟨h, _, e⟩ => ⟨e, h.view.allB⟩)) ?_
 refine rt_v (fun vals w hR hd => v_fieldAddr (off := 4) (ft := 3) zk rfl) ?_
 refine rt_v (fun vals w hR hd => v_load zk (hd 12 rfl) (by first | exact (HB1.ext hR).pv 4 _ rfl | assumption)) ?_
 refine rt_to (fun v W => Bv W AllB v (wNum og.toNat)) (fun v w w' h k => h.ext k) (fun vals w hR hd => to_f1 zk (hd 13 rfl) (CallsR.mono (numI_c zo zo) fun v w1 ⟨h, _, e⟩ => ⟨e, h.view.allB⟩)) ?_
 refine rt_v (fun vals w hR hd => v_fieldAddr (off := 5) (ft := 3) zk rfl) ?_
 refine rt_v (fun vals w hR hd => v_load zk (hd 15 rfl) (by first | exact (HB1.ext hR).pv 5 _ rfl | assumption)) ?_
 refine rt_to (fun v W => Bv W AllB v (wNum ng.toNat)) (fun v w w' h k => h.ext k) (fun vals w hR hd => to_f1 zk (hd 16 rfl) (CallsR.mono (numI_c zo zo) fun v w1 ⟨h, _, e⟩ => ⟨e, h.view.allB⟩)) ?_
 refine rt_to (fun v W => SlV (tSl tU8) W AllB v [wNum n.toNat, wBytes f, wFlag d, wBytes t, wNum og.toNat, wNum ng.toNat]) (fun v w w' h k => h.ext k) (fun vals w hR hd => to_bytes6' (et := 24) (bytes := 24) (z := .slice none 0 0) zk (by unfold kZeros; kernel_rfl) (show _ = vals 2 from rfl) (show _ = vals 5 from rfl) (show _ = vals 8 from rfl) (show _ = vals 11 from rfl) (show _ = vals 14 from rfl) (show _ = vals 17 from rfl) (show Bv _ AllB _ (wNum n.toNat) from hd 2 rfl) (show Bv _ AllB _ (wBytes f) from hd 5 rfl) (show Bv _ AllB _ (wFlag d) from hd 8 rfl) (show Bv _ AllB _ (wBytes t) from hd 11 rfl) (show Bv _ AllB _ (wNum og.toNat) from hd 14 rfl) (show Bv _ AllB _ (wNum ng.toNat) from hd 17 rfl) (fun b w1 hb HO e z => ⟨e, HO.view.allB⟩)) ?_
 refine rt_to (fun v W => (∃ q c, v = .slice (some q) (mvW (n, f, t, d, og, ng)).length c) ∧ OwV tU8 nU8 W n4 NoK v (mvW (n, f, t, d, og, ng))) (fun v w w' h k => ⟨h.1, h.2.ext k⟩) (fun vals w hR hd => to_f1 zk (show _ = vals 18 from rfl) (CallsR.mono (Join_c (show SlV (tSl tU8) _ AllB _ [wNum n.toNat, wBytes f, wFlag d, wBytes t, wNum og.toNat, wNum ng.toNat] from hd 18 rfl) (by have := hlen; simp only [mvW, List.length_append] at this; simp; omega)) fun v w1 ⟨h, ⟨q, c, hv⟩, e⟩ => ⟨e, by have h9 : [wNum n.toNat, wBytes f, wFlag d, wBytes t, wNum og.toNat, wNum ng.toNat].flatten = mvW (n, f, t, d, og, ng) := (by simp [mvW]); rw [h9] at h hv; exact ⟨⟨q, c, hv⟩, h.base (by have := hR.size; omega)⟩⟩)) ?_
 refine rt_nil (fun w102 e102 => ?_)
 rintro _ rfl _ rfl v5 hs5 _ rfl _ rfl v8 hs8 _ rfl _ rfl v11 hs11 _ rfl _ rfl v14 hs14 _ rfl _ rfl v17 hs17 _ rfl _ rfl v20 hs20 v21 hs21 v22 hs22
 have := e102.size
 have hs22 : (∃ q c, v22 = .slice (some q) (mvW (n, f, t, d, og, ng)).length c) ∧ OwV tU8 nU8 _ n4 NoK v22 (mvW (n, f, t, d, og, ng)) := hs22
 obtain ⟨⟨q22, c22, rfl⟩, HO22⟩ := hs22
 refine fin_nil (n_then (r_one zd rfl ?_))
 refine l_v (zaS rfl) (l_nil (n_then (c_ret (ret1v rfl zq (zvS rfl) ?_))))
 replace E := ((E.trans e1.keep).trans e101.keep).trans e102.keep
 exact ⟨⟨q22, c22, rfl⟩, hn4 ▸ HO22, E⟩
theorem ask_c {w : World} {F : Nat → Prop} {v : Value} {a : AkV} (HG1 : AgV tAk w F v a) (hm : mayAk a = true) : CallsR Tryz.prog 22 #[v] w (fun r w' => ∃ a' c', r = .slice a' (akW a).length c' ∧ Bv w' (fun i => w.heap.size ≤ i) r (akW a) ∧ Ext w w') := by
 obtain ⟨k, key, to, val, was, no, most⟩ := a
 obtain ⟨a1, c1, a2, c2, a3, c3, a4, c4, rfl, HS1, HS2, HS3, HS4, hi1, hi2⟩ := HG1.ak
 clear HG1
 simp only [] at HS1 HS2 HS3 HS4 hi1 hi2 ⊢
 obtain ⟨g1, g2, g3, g4, g5, g6, g7, g8⟩ := mayAk_b hm
 have q0 := wNum_len10 (n := k.toNat) zo
 have q1 := wBy_le (l := key) zo
 have q2 := wBy_le (l := to) zo
 have q3 := wBy_le (l := val) zo
 have q4 := wBy_le (l := was) zo
 have q5 := wFl_le no
 have q6 := wNum_len10 (n := most.toNat) zo
 have o1 := optW_le (b := (nmT k).2.1) (l := [wBytes to].flatten)
 have o2 := optW_le (b := (nmT k).2.2.1) (l := [wBytes val].flatten)
 have o3 := optW_le (b := (nmT k).2.2.2.1) (l := [wBytes was, wFlag no].flatten)
 have o4 := optW_le (b := (nmT k).2.2.2.2) (l := [wNum most.toNat].flatten)
 have p3 : ([wBytes was, wFlag no].flatten).length ≤ 60 := by simp; omega
 refine enter 55 Tryz.func22 rfl rfl (by simp) ?_
 refine c_seq ?_
 have E := Keep.refl (K := NoK) w
 replace HS1 := HS1.all
 replace HS2 := HS2.all
 replace HS3 := HS3.all
 replace HS4 := HS4.all
 refine wp_reg zd (l_to (to_box (zvA rfl) ?_))
 rintro b1 w1 zb1 HB1 e1 z1
 have := e1.size
 try simp only [Value.cells] at HB1
 refine l_v (v_assign rfl) (l_nil (n_then (c_seq (wp_any zk ?_))))
 have e101 : Ext w1 { w1 with drawn := w1.drawn + 1 } := Keep.drawn _ _
 generalize hw101 : ({ w1 with drawn := w1.drawn + 1 } : World) = w101 at e101 ⊢
 clear hw101
 have := e101.size
 refine r_cut 5 rfl zd zd zd ?_
 refine wp_regJW (fun k => w101.heap.size ≤ k) (AlJ w101.heap.size [⟨4, none, 95, ([.bool false, .bool false, .bool false, .bool false, .bool false] : List Value), ([.bool false, .bool false, .bool false, .bool false, .bool false] : List Value)⟩]) zd zd (fun vals done hd => AlJ.start (Nat.le_refl _) (fun a ha => hd a.al (al_lt (n := 5) rfl a ha))) ?_
 refine rj_vfJ (fun done vals w hR hcl hdk hJ hdn hd => to_f0 zk (asks_c)) (fun done vals w w1 hdk hJ e => hJ.src e rfl) ?_
 refine rj_vJ (fun done vals w hR hcl hdk hJ hdn hd => v_fieldAddr (off := 0) (ft := 23) zk rfl) (fun _ _ _ _ j => j.src (Keep.refl _) rfl) ?_
 replace HB1 := HB1.ext e101
 refine rj_vJ (fun done vals w hR hcl hdk hJ hdn hd => v_load zk (hd 1 rfl) (by first | exact (HB1.keep hR dj4).pv 0 _ rfl | assumption)) (fun _ _ _ _ j => j.src (Keep.refl _) rfl) ?_
 refine rj_vJ (fun done vals w hR hcl hdk hJ hdn hd => v_indexA (et := 95) (n := 6) (sz := 5) (k := k.toNat) zk zk (hd 0 rfl) (hd 2 rfl) zo zo (Value.agg.inj (nmC_at zo zo))) (fun _ _ _ _ j => j.src (Keep.refl _) rfl) ?_
 refine rj_d (fun done vals w hR hcl hdk hJ hdn hd => to_alloc (z := .agg #[.bool false, .bool false, .bool false, .bool false, .bool false]) (by unfold kZero; kernel_rfl) fun b w1 hb hB e hz => ⟨Ext.keep e, hJ.al (i := 0) rfl rfl hdk hcl (fun m a hm he => alOne_al (i := 0) (m := m) rfl rfl hm he) (fun a ha => alSt_ne rfl ha (List.mem_of_getElem? (i := 0) rfl)) (fun s hs => by cases hs) hb hB e⟩) ?_
 refine rj_nil (fun vals w102 k102 J102 => ?_)
 rintro _ - rfl _ - rfl _ - rfl _ - rfl v3 qv3 -
 have := k102.size
 obtain ⟨b3, hb3, zb3, HB3⟩ := J102.fin (i := 0) rfl
 try dsimp only at HB3
 have zl3 := HB3.lt
 obtain rfl := qv3.trans hb3
 refine fin_nilJ (n_then (r_one zd rfl ?_))
 refine l_to (to_storeA (n := 5) rfl rfl (zvA rfl) zk rfl dj6 HB3 dj5 ?_)
 rintro w103 HX103 k103 z103
 have := k103.size
 replace HB3 := HX103
 clear HX103
 try simp only [zS, Nat.zero_add, Nat.reduceAdd, List.drop_nil] at HB3
 refine l_nil (n_then (c_seq (wp_any zk ?_)))
 have e104 : Ext w103 { w103 with drawn := w103.drawn + 1 } := Keep.drawn _ _
 replace E := (((E.trans e1.keep).trans e101.keep).step k102 dj3).step k103 dj3
 replace HS1 := (((HS1.ext e1).ext e101).keep k102 dj1).keep k103 dj1
 replace HS2 := (((HS2.ext e1).ext e101).keep k102 dj1).keep k103 dj1
 replace HS3 := (((HS3.ext e1).ext e101).keep k102 dj1).keep k103 dj1
 replace HS4 := (((HS4.ext e1).ext e101).keep k102 dj1).keep k103 dj1
 replace HB1 := (HB1.keep k102 dj4).keep k103 dj4
 generalize hw104 : ({ w103 with drawn := w103.drawn + 1 } : World) = w104 at e104 ⊢
 clear hw104
 have := e104.size
 refine r_cut 9 rfl zd zd zd ?_
 obtain ⟨n4, hn4⟩ : ∃ n, n = w104.heap.size := ⟨_, rfl⟩
 refine wp_regdW (NoK) zd zd ?_
 refine rt_v (fun vals w hR hd => v_fieldAddr (off := 0) (ft := 23) zk rfl) ?_
 replace HB1 := HB1.ext e104
 replace HB3 := HB3.ext e104
 refine rt_v (fun vals w hR hd => v_load zk (hd 0 rfl) (by first | exact (HB3.ext hR).pv 0 _ rfl | exact (HB1.ext hR).pv 0 _ rfl | assumption)) ?_
 refine rt_to (fun v W => Bv W AllB v (wNum k.toNat)) (fun v w w' h k => h.ext k) (fun vals w hR hd => to_f1 zk (hd 1 rfl) (CallsR.mono (numA_c zo zo) fun v w1 ⟨h, _, e⟩ => ⟨e, h.view.allB⟩)) ?_
 refine rt_v (fun vals w hR hd => v_fieldAddr (off := 1) (ft := 24) zk rfl) ?_
 refine rt_v (fun vals w hR hd => v_load zk (hd 3 rfl) (by first | exact (HB3.ext hR).pv 1 _ rfl | exact (HB1.ext hR).pv 1 _ rfl | assumption)) ?_
 replace HS1 := HS1.ext e104
 refine rt_to (fun v W => Bv W AllB v (wBytes key)) (fun v w w' h k => h.ext k) (fun vals w hR hd => to_f1 zk (hd 4 rfl) (CallsR.mono (Bytes_c (HS1.ext hR) zo) fun v w1 ⟨h, _, e⟩ => ⟨e, h.view.allB⟩)) ?_
 refine rt_to (fun v W => SlV (tSl tU8) W AllB v [wNum k.toNat, wBytes key]) (fun v w w' h k => h.ext k) (fun vals w hR hd => to_bytes2' (et := 24) (bytes := 24) (z := .slice none 0 0) zk (by unfold kZeros; kernel_rfl) (show _ = vals 2 from rfl) (show _ = vals 5 from rfl) (show Bv _ AllB _ (wNum k.toNat) from hd 2 rfl) (show Bv _ AllB _ (wBytes key) from hd 5 rfl) (fun b w1 hb HO e z => ⟨e, HO.view.allB⟩)) ?_
 refine rt_to (fun v W => (∃ q c, v = .slice (some q) (wNum k.toNat ++ wBytes key).length c) ∧ OwV tU8 nU8 W n4 NoK v (wNum k.toNat ++ wBytes key)) (fun v w w' h k => ⟨h.1, h.2.ext k⟩) (fun vals w hR hd => to_f1 zk (show _ = vals 6 from rfl) (CallsR.mono (Join_c (show SlV (tSl tU8) _ AllB _ [wNum k.toNat, wBytes key] from hd 6 rfl) (by simp; omega)) fun v w1 ⟨h, ⟨q, c, hv⟩, e⟩ => ⟨e, by have h9 : [wNum k.toNat, wBytes key].flatten = wNum k.toNat ++ wBytes key := (by simp); rw [h9] at h hv; exact ⟨⟨q, c, hv⟩, h.base (by have := hR.size; omega)⟩⟩)) ?_
 refine rt_to (fun v W => ∃ b, v = .pointer (some ⟨b, 0, none⟩) ∧ Blk W b [.slice none 0 0] 24 ∧ n4 ≤ b) (fun v w w' h k => by obtain ⟨b, h1, h2, h3⟩ := h; exact ⟨b, h1, h2.ext k, h3⟩) (fun vals w hR hd => to_alloc (z := .slice none 0 0) (by unfold kZero; kernel_rfl) (fun b w1 hb hB e hz => ⟨e, b, rfl, hB, by have := hR.size; omega⟩)) ?_
 refine rt_nil (fun w105 e105 => ?_)
 rintro _ rfl _ rfl v12 hs12 _ rfl _ rfl v15 hs15 v16 hs16 v17 hs17 v4 hz4
 have := e105.size
 have hs17 : (∃ q c, v17 = .slice (some q) (wNum k.toNat ++ wBytes key).length c) ∧ OwV tU8 nU8 _ n4 NoK v17 (wNum k.toNat ++ wBytes key) := hs17
 obtain ⟨⟨q17, c17, rfl⟩, HO17⟩ := hs17
 have hz4 : ∃ b, v4 = .pointer (some ⟨b, 0, none⟩) ∧ Blk _ b [.slice none 0 0] 24 ∧ n4 ≤ b := hz4
 obtain ⟨b4, rfl, HB4, hb4⟩ := hz4
 have hne := HO17.ne_blk HB4 zq
 have zl4 := HB4.lt
 have HS33 := HO17.view.just
 have zq33 := (HO17.own_lt (b := q17.block) rfl).1
 refine fin_nil (n_then (r_one zd rfl ?_))
 refine l_to (to_store rfl rfl (zvS rfl) rfl zk HB4 (by simp) ?_)
 rintro w33 HB4 k33 z33
 have := k33.size
 try simp only [List.set_cons_zero, List.set_cons_succ] at HB4
 replace HS33 := HS33.mono (F' := fun i => i ≠ b4 ∧ w.heap.size ≤ i) (fun i _ h => by have := zq33; omega)
 refine l_nil (n_then (c_seq (wp_reg zd (l_v (v_makeFunc (by simp [ev]; rfl) (by simp [ev]; rfl)) ?_))))
 refine l_v (v_assign rfl) (l_nil (n_then (c_seq (wp_any zk ?_))))
 have e106 : Ext w33 { w33 with drawn := w33.drawn + 1 } := Keep.drawn _ _
 replace E := ((E.trans e104.keep).trans e105.keep).step k33 dj3
 replace HS2 := ((HS2.ext e104).ext e105).keep k33 dj1
 replace HS3 := ((HS3.ext e104).ext e105).keep k33 dj1
 replace HS4 := ((HS4.ext e104).ext e105).keep k33 dj1
 replace HS1 := (HS1.ext e105).keep k33 dj1
 replace HB1 := (HB1.ext e105).keep k33 dj4
 replace HB3 := (HB3.ext e105).keep k33 dj4
 replace HO17 := HO17.keep k33 (by intro i ho he; have he0 := he; have ho0 := ho; (try dsimp only [NoK] at he); (try simp only [Value.ownBlock, Option.some.injEq, reduceCtorEq] at ho); (try simp only [Value.ownBlock, Option.some.injEq, reduceCtorEq] at he); first | exact he.elim | exact ho.elim | omega | (have := zo_HO17 _ ho0; omega)) (by intro i _ hi _ he; have he0 := he; have hi := hi; have he := he; (try dsimp only [NoK, AllB] at hi he); (try simp only [Value.ownBlock, Option.some.injEq, reduceCtorEq] at he); all_goals first | exact hi.elim | exact hi.1.elim | exact he.elim | omega | (rcases hi with hi | hi <;> omega) | (rcases he with he | he <;> omega))
 replace HS33 := HS33.keep k33 dj1
 generalize hw106 : ({ w33 with drawn := w33.drawn + 1 } : World) = w106 at e106 ⊢
 clear hw106
 have := e106.size
 refine r_cut 7 rfl zd zd zd ?_
 refine wp_regdW (NoK) zd zd ?_
 refine rt_v (fun vals w hR hd => v_move rfl) ?_
 refine rt_v (fun vals w hR hd => v_fieldAddr (off := 1) (ft := 4) zk rfl) ?_
 replace HB1 := HB1.ext e106
 replace HB3 := HB3.ext e106
 replace HB4 := HB4.ext e106
 refine rt_v (fun vals w hR hd => v_load zk (hd 1 rfl) (by first | exact (HB4.ext hR).pv 1 _ rfl | exact (HB3.ext hR).pv 1 _ rfl | exact (HB1.ext hR).pv 1 _ rfl | assumption)) ?_
 refine rt_v (fun vals w hR hd => v_fieldAddr (off := 2) (ft := 24) zk rfl) ?_
 refine rt_v (fun vals w hR hd => v_load zk (hd 3 rfl) (by first | exact (HB4.ext hR).pv 2 _ rfl | exact (HB3.ext hR).pv 2 _ rfl | exact (HB1.ext hR).pv 2 _ rfl | assumption)) ?_
 replace HS2 := HS2.ext e106
 refine rt_to (fun v W => Bv W AllB v (wBytes to)) (fun v w w' h k => h.ext k) (fun vals w hR hd => to_f1 zk (hd 4 rfl) (CallsR.mono (Bytes_c (HS2.ext hR) zo) fun v w1 ⟨h, _, e⟩ => ⟨e, h.view.allB⟩)) ?_
 refine rt_to (fun v W => SlV (tSl tU8) W AllB v [wBytes to]) (fun v w w' h k => h.ext k) (fun vals w hR hd => to_slice1 (t := tSl tU8) (et := 24) (bytes := 24) zk zq (show _ = vals 5 from rfl) (rep_one (show Bv _ AllB _ (wBytes to) from hd 5 rfl)) (fun b w1 hb HO e z => ⟨e, HO.view.allB⟩)) ?_
 refine rt_nil (fun w107 e107 => ?_)
 rintro _ rfl _ rfl _ rfl _ rfl _ rfl v24 hs24 v25 hs25
 have := e107.size
 have hs25 : SlV (tSl tU8) _ AllB v25 [wBytes to] := hs25
 obtain ⟨a25, c25, rfl⟩ := hs25.shape
 refine fin_nil (n_then (r_one zd rfl ?_))
 replace HS33 := (HS33.ext e106).ext e107
 replace HB4 := HB4.ext e107
 refine l_to (to_call2 zk rfl (zvB rfl) (zvS rfl) (CallsR.mono (more_c (n0 := w.heap.size) (ls := [wBytes to]) HB4 HS33 hs25 zo (by simp only [List.length_append, List.flatten_cons, List.flatten_nil, List.append_nil] at o1 o2 o3 o4 p3 ⊢; omega)) ?_))
 rintro _ w26 ⟨⟨a26, c26, HB4, HS33⟩, k26⟩
 have := k26.size
 refine l_nil (n_then (c_seq (wp_any zk ?_)))
 have e108 : Ext w26 { w26 with drawn := w26.drawn + 1 } := Keep.drawn _ _
 replace E := ((E.trans e106.keep).trans e107.keep).step k26 dj3
 replace HS1 := ((HS1.ext e106).ext e107).keep k26 dj1
 replace HS3 := ((HS3.ext e106).ext e107).keep k26 dj1
 replace HS4 := ((HS4.ext e106).ext e107).keep k26 dj1
 replace HO17 := ((HO17.ext e106).ext e107).keep k26 (by intro i ho he; have he0 := he; have ho0 := ho; (try dsimp only [NoK] at he); (try simp only [Value.ownBlock, Option.some.injEq, reduceCtorEq] at ho); (try simp only [Value.ownBlock, Option.some.injEq, reduceCtorEq] at he); first | exact he.elim | exact ho.elim | omega | (have := zo_HO17 _ ho0; omega)) (by intro i _ hi _ he; have he0 := he; have hi := hi; have he := he; (try dsimp only [NoK, AllB] at hi he); (try simp only [Value.ownBlock, Option.some.injEq, reduceCtorEq] at he); all_goals first | exact hi.elim | exact hi.1.elim | exact he.elim | omega | (rcases hi with hi | hi <;> omega) | (rcases he with he | he <;> omega))
 replace HS2 := (HS2.ext e107).keep k26 dj1
 replace HB1 := (HB1.ext e107).keep k26 dj4
 replace HB3 := (HB3.ext e107).keep k26 dj4
 generalize hw108 : ({ w26 with drawn := w26.drawn + 1 } : World) = w108 at e108 ⊢
 clear hw108
 have := e108.size
 refine r_cut 7 rfl zd zd zd ?_
 refine wp_regdW (NoK) zd zd ?_
 refine rt_v (fun vals w hR hd => v_move rfl) ?_
 refine rt_v (fun vals w hR hd => v_fieldAddr (off := 2) (ft := 4) zk rfl) ?_
 replace HB1 := HB1.ext e108
 replace HB3 := HB3.ext e108
 replace HB4 := HB4.ext e108
 refine rt_v (fun vals w hR hd => v_load zk (hd 1 rfl) (by first | exact (HB4.ext hR).pv 2 _ rfl | exact (HB3.ext hR).pv 2 _ rfl | exact (HB1.ext hR).pv 2 _ rfl | assumption)) ?_
 refine rt_v (fun vals w hR hd => v_fieldAddr (off := 3) (ft := 24) zk rfl) ?_
 refine rt_v (fun vals w hR hd => v_load zk (hd 3 rfl) (by first | exact (HB4.ext hR).pv 3 _ rfl | exact (HB3.ext hR).pv 3 _ rfl | exact (HB1.ext hR).pv 3 _ rfl | assumption)) ?_
 replace HS3 := HS3.ext e108
 refine rt_to (fun v W => Bv W AllB v (wBytes val)) (fun v w w' h k => h.ext k) (fun vals w hR hd => to_f1 zk (hd 4 rfl) (CallsR.mono (Bytes_c (HS3.ext hR) zo) fun v w1 ⟨h, _, e⟩ => ⟨e, h.view.allB⟩)) ?_
 refine rt_to (fun v W => SlV (tSl tU8) W AllB v [wBytes val]) (fun v w w' h k => h.ext k) (fun vals w hR hd => to_slice1 (t := tSl tU8) (et := 24) (bytes := 24) zk zq (show _ = vals 5 from rfl) (rep_one (show Bv _ AllB _ (wBytes val) from hd 5 rfl)) (fun b w1 hb HO e z => ⟨e, HO.view.allB⟩)) ?_
 refine rt_nil (fun w109 e109 => ?_)
 rintro _ rfl _ rfl _ rfl _ rfl _ rfl v32 hs32 v33 hs33
 have := e109.size
 have hs33 : SlV (tSl tU8) _ AllB v33 [wBytes val] := hs33
 obtain ⟨a33, c33, rfl⟩ := hs33.shape
 refine fin_nil (n_then (r_one zd rfl ?_))
 replace HS33 := (HS33.ext e108).ext e109
 replace HB4 := HB4.ext e109
 refine l_to (to_call2 zk rfl (zvB rfl) (zvS rfl) (CallsR.mono (more_c (n0 := w.heap.size) (ls := [wBytes val]) HB4 HS33 hs33 zo (by simp only [List.length_append, List.flatten_cons, List.flatten_nil, List.append_nil] at o1 o2 o3 o4 p3 ⊢; omega)) ?_))
 rintro _ w34 ⟨⟨a34, c34, HB4, HS33⟩, k34⟩
 have := k34.size
 refine l_nil (n_then (c_seq (wp_any zk ?_)))
 have e110 : Ext w34 { w34 with drawn := w34.drawn + 1 } := Keep.drawn _ _
 replace E := ((E.trans e108.keep).trans e109.keep).step k34 dj3
 replace HS1 := ((HS1.ext e108).ext e109).keep k34 dj1
 replace HS2 := ((HS2.ext e108).ext e109).keep k34 dj1
 replace HS4 := ((HS4.ext e108).ext e109).keep k34 dj1
 replace HO17 := ((HO17.ext e108).ext e109).keep k34 (by intro i ho he; have he0 := he; have ho0 := ho; (try dsimp only [NoK] at he); (try simp only [Value.ownBlock, Option.some.injEq, reduceCtorEq] at ho); (try simp only [Value.ownBlock, Option.some.injEq, reduceCtorEq] at he); first | exact he.elim | exact ho.elim | omega | (have := zo_HO17 _ ho0; omega)) (by intro i _ hi _ he; have he0 := he; have hi := hi; have he := he; (try dsimp only [NoK, AllB] at hi he); (try simp only [Value.ownBlock, Option.some.injEq, reduceCtorEq] at he); all_goals first | exact hi.elim | exact hi.1.elim | exact he.elim | omega | (rcases hi with hi | hi <;> omega) | (rcases he with he | he <;> omega))
 replace HS3 := (HS3.ext e109).keep k34 dj1
 replace HB1 := (HB1.ext e109).keep k34 dj4
 replace HB3 := (HB3.ext e109).keep k34 dj4
 generalize hw110 : ({ w34 with drawn := w34.drawn + 1 } : World) = w110 at e110 ⊢
 clear hw110
 have := e110.size
 refine r_cut 10 rfl zd zd zd ?_
 refine wp_regdW (NoK) zd zd ?_
 refine rt_v (fun vals w hR hd => v_move rfl) ?_
 refine rt_v (fun vals w hR hd => v_fieldAddr (off := 3) (ft := 4) zk rfl) ?_
 replace HB1 := HB1.ext e110
 replace HB3 := HB3.ext e110
 replace HB4 := HB4.ext e110
 refine rt_v (fun vals w hR hd => v_load zk (hd 1 rfl) (by first | exact (HB4.ext hR).pv 3 _ rfl | exact (HB3.ext hR).pv 3 _ rfl | exact (HB1.ext hR).pv 3 _ rfl | assumption)) ?_
 refine rt_v (fun vals w hR hd => v_fieldAddr (off := 4) (ft := 24) zk rfl) ?_
 refine rt_v (fun vals w hR hd => v_load zk (hd 3 rfl) (by first | exact (HB4.ext hR).pv 4 _ rfl | exact (HB3.ext hR).pv 4 _ rfl | exact (HB1.ext hR).pv 4 _ rfl | assumption)) ?_
 replace HS4 := HS4.ext e110
 refine rt_to (fun v W => Bv W AllB v (wBytes was)) (fun v w w' h k => h.ext k) (fun vals w hR hd => to_f1 zk (hd 4 rfl) (CallsR.mono (Bytes_c (HS4.ext hR) zo) fun v w1 ⟨h, _, e⟩ => ⟨e, h.view.allB⟩)) ?_
 refine rt_v (fun vals w hR hd => v_fieldAddr (off := 5) (ft := 4) zk rfl) ?_
 refine rt_v (fun vals w hR hd => v_load zk (hd 6 rfl) (by first | exact (HB4.ext hR).pv 5 _ rfl | exact (HB3.ext hR).pv 5 _ rfl | exact (HB1.ext hR).pv 5 _ rfl | assumption)) ?_
 refine rt_to (fun v W => Bv W AllB v (wFlag no)) (fun v w w' h k => h.ext k) (fun vals w hR hd => to_f1 zk (hd 7 rfl) (CallsR.mono (Flag_c) fun v w1 ⟨h, _, e⟩ => ⟨e, h.view.allB⟩)) ?_
 refine rt_to (fun v W => SlV (tSl tU8) W AllB v [wBytes was, wFlag no]) (fun v w w' h k => h.ext k) (fun vals w hR hd => to_bytes2' (et := 24) (bytes := 24) (z := .slice none 0 0) zk (by unfold kZeros; kernel_rfl) (show _ = vals 5 from rfl) (show _ = vals 8 from rfl) (show Bv _ AllB _ (wBytes was) from hd 5 rfl) (show Bv _ AllB _ (wFlag no) from hd 8 rfl) (fun b w1 hb HO e z => ⟨e, HO.view.allB⟩)) ?_
 refine rt_nil (fun w111 e111 => ?_)
 rintro _ rfl _ rfl _ rfl _ rfl _ rfl v40 hs40 _ rfl _ rfl v43 hs43 v44 hs44
 have := e111.size
 have hs44 : SlV (tSl tU8) _ AllB v44 [wBytes was, wFlag no] := hs44
 obtain ⟨a44, c44, rfl⟩ := hs44.shape
 refine fin_nil (n_then (r_one zd rfl ?_))
 replace HS33 := (HS33.ext e110).ext e111
 replace HB4 := HB4.ext e111
 refine l_to (to_call2 zk rfl (zvB rfl) (zvS rfl) (CallsR.mono (more_c (n0 := w.heap.size) (ls := [wBytes was, wFlag no]) HB4 HS33 hs44 zo (by simp only [List.length_append, List.flatten_cons, List.flatten_nil, List.append_nil] at o1 o2 o3 o4 p3 ⊢; omega)) ?_))
 rintro _ w45 ⟨⟨a45, c45, HB4, HS33⟩, k45⟩
 have := k45.size
 refine l_nil (n_then (c_seq (wp_any zk ?_)))
 have e112 : Ext w45 { w45 with drawn := w45.drawn + 1 } := Keep.drawn _ _
 replace E := ((E.trans e110.keep).trans e111.keep).step k45 dj3
 replace HS1 := ((HS1.ext e110).ext e111).keep k45 dj1
 replace HS2 := ((HS2.ext e110).ext e111).keep k45 dj1
 replace HS3 := ((HS3.ext e110).ext e111).keep k45 dj1
 replace HO17 := ((HO17.ext e110).ext e111).keep k45 (by intro i ho he; have he0 := he; have ho0 := ho; (try dsimp only [NoK] at he); (try simp only [Value.ownBlock, Option.some.injEq, reduceCtorEq] at ho); (try simp only [Value.ownBlock, Option.some.injEq, reduceCtorEq] at he); first | exact he.elim | exact ho.elim | omega | (have := zo_HO17 _ ho0; omega)) (by intro i _ hi _ he; have he0 := he; have hi := hi; have he := he; (try dsimp only [NoK, AllB] at hi he); (try simp only [Value.ownBlock, Option.some.injEq, reduceCtorEq] at he); all_goals first | exact hi.elim | exact hi.1.elim | exact he.elim | omega | (rcases hi with hi | hi <;> omega) | (rcases he with he | he <;> omega))
 replace HS4 := (HS4.ext e111).keep k45 dj1
 replace HB1 := (HB1.ext e111).keep k45 dj4
 replace HB3 := (HB3.ext e111).keep k45 dj4
 generalize hw112 : ({ w45 with drawn := w45.drawn + 1 } : World) = w112 at e112 ⊢
 clear hw112
 have := e112.size
 refine r_cut 7 rfl zd zd zd ?_
 refine wp_regdW (NoK) zd zd ?_
 refine rt_v (fun vals w hR hd => v_move rfl) ?_
 refine rt_v (fun vals w hR hd => v_fieldAddr (off := 4) (ft := 4) zk rfl) ?_
 replace HB1 := HB1.ext e112
 replace HB3 := HB3.ext e112
 replace HB4 := HB4.ext e112
 refine rt_v (fun vals w hR hd => v_load zk (hd 1 rfl) (by first | exact (HB4.ext hR).pv 4 _ rfl | exact (HB3.ext hR).pv 4 _ rfl | exact (HB1.ext hR).pv 4 _ rfl | assumption)) ?_
 refine rt_v (fun vals w hR hd => v_fieldAddr (off := 6) (ft := 3) zk rfl) ?_
 refine rt_v (fun vals w hR hd => v_load zk (hd 3 rfl) (by first | exact (HB4.ext hR).pv 6 _ rfl | exact (HB3.ext hR).pv 6 _ rfl | exact (HB1.ext hR).pv 6 _ rfl | assumption)) ?_
 refine rt_to (fun v W => Bv W AllB v (wNum most.toNat)) (fun v w w' h k => h.ext k) (fun vals w hR hd => to_f1 zk (hd 4 rfl) (CallsR.mono (numI_c zo zo) fun v w1 ⟨h, _, e⟩ => ⟨e, h.view.allB⟩)) ?_
 refine rt_to (fun v W => SlV (tSl tU8) W AllB v [wNum most.toNat]) (fun v w w' h k => h.ext k) (fun vals w hR hd => to_slice1 (t := tSl tU8) (et := 24) (bytes := 24) zk zq (show _ = vals 5 from rfl) (rep_one (show Bv _ AllB _ (wNum most.toNat) from hd 5 rfl)) (fun b w1 hb HO e z => ⟨e, HO.view.allB⟩)) ?_
 refine rt_nil (fun w113 e113 => ?_)
 rintro _ rfl _ rfl _ rfl _ rfl _ rfl v51 hs51 v52 hs52
 have := e113.size
 have hs52 : SlV (tSl tU8) _ AllB v52 [wNum most.toNat] := hs52
 obtain ⟨a52, c52, rfl⟩ := hs52.shape
 refine fin_nil (n_then (r_one zd rfl ?_))
 replace HS33 := (HS33.ext e112).ext e113
 replace HB4 := HB4.ext e113
 refine l_to (to_call2 zk rfl (zvB rfl) (zvS rfl) (CallsR.mono (more_c (n0 := w.heap.size) (ls := [wNum most.toNat]) HB4 HS33 hs52 zo (by simp only [List.length_append, List.flatten_cons, List.flatten_nil, List.append_nil] at o1 o2 o3 o4 p3 ⊢; omega)) ?_))
 rintro _ w53 ⟨⟨a53, c53, HB4, HS33⟩, k53⟩
 have := k53.size
 replace HB1 := (HB1.ext e113).keep k53 dj4
 replace HB3 := (HB3.ext e113).keep k53 dj4
 refine l_nil (n_then (c_seq (wp_reg zd (l_v (v_load zk rfl (by first | exact HB4.cell rfl | exact HB3.cell rfl | exact HB1.cell rfl | assumption)) ?_))))
 refine l_v (zaS rfl) (l_nil (n_then (c_ret (ret1v rfl zq (zvS rfl) ?_))))
 have h9 : wNum k.toNat ++ wBytes key ++ optW (nmT k).2.1 [wBytes to].flatten ++ optW (nmT k).2.2.1 [wBytes val].flatten ++ optW (nmT k).2.2.2.1 [wBytes was, wFlag no].flatten ++ optW (nmT k).2.2.2.2 [wNum most.toNat].flatten = akW (k, key, to, val, was, no, most) := by simp [akW]
 rw [h9] at HS33 ⊢
 replace E := ((E.trans e112.keep).trans e113.keep).step k53 dj3
 exact ⟨_, _, rfl, HS33.mono fun i _ h => h.2, E⟩
end Go.Proofs.YtogafjlbpodgjaaGreat

namespace Go.Proofs.YtogafjlbpodgjaaGreat
open Go.Vc
set_option linter.unusedVariables false
set_option linter.unusedSimpArgs false
set_option maxRecDepth 100000

theorem iBytes_c {w : World} {F : Nat → Prop} {v : Value} {a : IkV} (HG1 : AgV tIk w F v a) (hm : mayIk a = true) : CallsR Tryz.prog 68 #[v] w (fun r w' => (∃ q c, r = .tuple #[.slice (some q) (ikW a).length c, .int .i64 0] ∧ OwV tU8 nU8 w' w.heap.size NoK (.slice (some q) (ikW a).length c) (ikW a)) ∧ Ext w w') := by
 have hlen := ikW_le hm
 obtain ⟨key, seq, kind, val⟩ := a
 have hm2 := hm
 simp only [mayIk, Bool.and_eq_true, decide_eq_true_eq, Bool.or_eq_true] at hm2
 obtain ⟨⟨⟨⟨⟨g1, g2⟩, g3⟩, g4⟩, g5⟩, g6⟩ := hm2
 obtain ⟨a1, c1, a2, c2, rfl, HS1, HS2, hi1, hi2⟩ := HG1.ik
 simp only [] at HS1 HS2
 obtain ⟨sq, rfl⟩ := Int.eq_ofNat_of_zero_le (show 0 ≤ seq by omega)
 obtain ⟨kd, rfl⟩ := Int.eq_ofNat_of_zero_le (show 0 ≤ kind by rcases g6 with h | ⟨h, _⟩ <;> omega)
 have hkd : kd ≤ 2 := by rcases g6 with h | ⟨h, _⟩ <;> omega
 have q1 := wBy_le (l := key) zo
 have q2 := wBy_le (l := val) zo
 have q3 := wNum_len10 (n := sq) zo
 have q4 := wNum_len10 (n := kd) zo
 refine enter 31 Tryz.func68 rfl rfl (by simp) ?_
 refine c_seq ?_
 have E := Keep.refl (K := NoK) w
 replace HG1 := HG1.all
 replace HS1 := HS1.all
 replace HS2 := HS2.all
 refine wp_reg zd (l_to (to_box (zvA rfl) ?_))
 rintro b1 w1 zb1 HB1 e1 z1
 have := e1.size
 try simp only [Value.cells] at HB1
 refine l_v (v_assign rfl) (l_v (v_assign rfl) (l_nil (n_then (c_seq (c_seq (wp_reg zd (l_v (v_loadA zk rfl (by first | exact HB1.pv | assumption) rfl) ?_)))))))
 replace HG1 := HG1.ext e1
 refine l_to (to_f1 zk (zvA rfl) (CallsR.mono (iMay_b HG1 hm) ?_))
 rintro _ w101 ⟨rfl, e101⟩
 have := e101.size
 refine l_v (v_not rfl) ?_
 replace E := (E.trans e1.keep).trans e101.keep
 replace HS1 := (HS1.ext e1).ext e101
 replace HS2 := (HS2.ext e1).ext e101
 replace HG1 := HG1.ext e101
 replace HB1 := HB1.ext e101
 refine l_nil (n_then (c_cond rfl rfl (fun hc => ?_) (fun hc => ?_)))
 ·
  cases hc
 refine c_skip (n_then (c_seq (wp_any zk ?_)))
 have e102 : Ext w101 { w101 with drawn := w101.drawn + 1 } := Keep.drawn _ _
 generalize hw102 : ({ w101 with drawn := w101.drawn + 1 } : World) = w102 at e102 ⊢
 clear hw102
 have := e102.size
 refine r_cut 10 rfl zd zd zd ?_
 refine wp_regdW (NoK) zd zd ?_
 refine rt_v (fun vals w hR hd => v_fieldAddr (off := 0) (ft := 24) zk rfl) ?_
 replace HB1 := HB1.ext e102
 refine rt_v (fun vals w hR hd => v_load zk (hd 0 rfl) (by first | exact (HB1.ext hR).pv 0 _ rfl | assumption)) ?_
 replace HS1 := HS1.ext e102
 refine rt_to (fun v W => Bv W AllB v (wBytes key)) (fun v w w' h k => h.ext k) (fun vals w hR hd => to_f1 zk (hd 1 rfl) (CallsR.mono (Bytes_c (HS1.ext hR) zo) fun v w1 ⟨h, _, e⟩ => ⟨e, h.view.allB⟩)) ?_
 refine rt_v (fun vals w hR hd => v_fieldAddr (off := 1) (ft := 2) zk rfl) ?_
 refine rt_v (fun vals w hR hd => v_load zk (hd 3 rfl) (by first | exact (HB1.ext hR).pv 1 _ rfl | assumption)) ?_
 refine rt_v (fun vals w hR hd => v_conv (ds := .int .i64) zk zk (hd 4 rfl) (by first | exact wr_u64 zo zo | rfl)) ?_
 refine rt_to (fun v W => Bv W AllB v (wNum sq)) (fun v w w' h k => h.ext k) (fun vals w hR hd => to_f1 zk (hd 5 rfl) (CallsR.mono (Number_c (n := sq) zo) fun v w1 ⟨h, _, e⟩ => ⟨e, h.view.allB⟩)) ?_
 refine rt_v (fun vals w hR hd => v_fieldAddr (off := 2) (ft := 91) zk rfl) ?_
 refine rt_v (fun vals w hR hd => v_load zk (hd 7 rfl) (by first | exact (HB1.ext hR).pv 2 _ rfl | assumption)) ?_
 refine rt_v (fun vals w hR hd => v_conv (ds := .int .i64) zk zk (hd 8 rfl) (by first | exact wr_u64 zo zo | rfl)) ?_
 refine rt_nil (fun w103 e103 => ?_)
 rintro _ rfl _ rfl v10 HS10 _ rfl _ rfl _ rfl v14 HS14 _ rfl _ rfl _ rfl
 have := e103.size
 obtain ⟨a10, d10, rfl⟩ := HS10.shape
 obtain ⟨a14, d14, rfl⟩ := HS14.shape
 refine fin_nil (n_then (r_cut 1 rfl zd zd zd ?_))
 refine r_one zd rfl ?_
 refine l_to (to_f1 zk (zvI rfl) (CallsR.mono (Number_c (n := kd) zo) ?_))
 rintro _ w18 ⟨HO18, ⟨q18, c18, rfl⟩, e18⟩
 have := e18.size
 have zo_HO18 := fun (b : Nat) h => HO18.own_lt (b := b) h
 refine l_nil (n_then (r_cut 1 rfl zd zd zd ?_))
 refine r_one zd rfl ?_
 replace HS10 := HS10.ext e18
 replace HS14 := HS14.ext e18
 refine l_to (to_sliceN (t := tSl tU8) (xs := [wBytes key, wNum sq, wNum kd]) (et := 24) (bytes := 24) (zl := [.slice none 0 0, .slice none 0 0, .slice none 0 0]) zk zq zq (by unfold kZeros; kernel_rfl) rfl (cells := [_, _, _]) rfl rfl rfl ((repsB3 HS10 HS14 HO18.view.allB)) ?_)
 rintro b19 w19 zb19 HO19 e19 z19
 have := e19.size
 have zo_HO19 := fun (b : Nat) h => HO19.own_lt (b := b) h
 refine l_nil (n_then (r_cut 1 rfl zd zd zd ?_))
 refine r_one zd rfl ?_
 refine l_to (to_f1 zk (zvS rfl) (CallsR.mono (Join_c HO19.view (by simp; omega)) ?_))
 rintro _ w20 ⟨HO20, ⟨q20, c20, rfl⟩, e20⟩
 have := e20.size
 have zo_HO20 := fun (b : Nat) h => HO20.own_lt (b := b) h
 refine l_nil (n_then (r_one zd rfl ?_))
 replace HB1 := (((HB1.ext e103).ext e18).ext e19).ext e20
 refine l_v (zaS rfl) (l_nil (n_then (c_seq (c_seq (wp_reg zd (l_v (v_fieldAddr (off := 2) (ft := 91) zk rfl) (l_v (v_load zk rfl (by first | exact HB1.pv 2 _ rfl | assumption)) ?_)))))))
 refine l_v (v_eql rfl rfl) ?_
 replace E := ((((E.trans e102.keep).trans e103.keep).trans e18.keep).trans e19.keep).trans e20.keep
 replace HG1 := ((((HG1.ext e102).ext e103).ext e18).ext e19).ext e20
 replace HS2 := ((((HS2.ext e102).ext e103).ext e18).ext e19).ext e20
 replace HS1 := (((HS1.ext e103).ext e18).ext e19).ext e20
 replace HS10 := (HS10.ext e19).ext e20
 replace HS14 := (HS14.ext e19).ext e20
 replace HO18 := (HO18.ext e19).ext e20
 replace HO19 := HO19.ext e20
 refine l_nil (n_then (c_cond rfl rfl (fun hk => ?_) (fun hk => ?_)))
 ·
  refine wp_reg zd (l_v (zmS rfl) (l_v (v_fieldAddr (off := 3) (ft := 24) zk rfl) (l_v (v_load zk rfl (by first | exact HB1.pv 3 _ rfl | assumption)) ?_)))
  refine l_to (to_f1 zk (zvS rfl) (CallsR.mono (Bytes_c HS2 zo) ?_))
  rintro _ w27 ⟨HO27, ⟨q27, c27, rfl⟩, e27⟩
  have := e27.size
  have zo_HO27 := fun (b : Nat) h => HO27.own_lt (b := b) h
  replace HO20 := HO20.ext e27
  refine l_to (to_sliceN (t := tSl tU8) (xs := [[wBytes key, wNum sq, wNum kd].flatten, wBytes val]) (et := 24) (bytes := 24) (zl := [.slice none 0 0, .slice none 0 0]) zk zq zq (by unfold kZeros; kernel_rfl) rfl (cells := [_, _]) rfl rfl rfl ((repsB2 HO20.view.allB HO27.view.allB)) ?_)
  rintro b28 w28 zb28 HO28 e28 z28
  have := e28.size
  have zo_HO28 := fun (b : Nat) h => HO28.own_lt (b := b) h
  refine l_to (to_f1 zk (zvS rfl) (CallsR.mono (Join_c HO28.view (by simp; omega)) ?_))
  rintro _ w29 ⟨HO29, ⟨q29, c29, rfl⟩, e29⟩
  have := e29.size
  have zo_HO29 := fun (b : Nat) h => HO29.own_lt (b := b) h
  refine l_v (zaS rfl) (l_nil (n_then (c_seq (wp_reg zd (l_v (zmS rfl) (l_v (zaS rfl) (l_v (v_assign rfl) (l_nil (n_then ?_)))))))))
  refine c_ret (ret2v rfl zq zq (zvS rfl) (zvI rfl) ?_)
  have h9 : [[wBytes key, wNum sq, wNum kd].flatten, wBytes val].flatten = ikW (key, sq, kd, val) := by simp [ikW, show kd = 1 from by have := dtrue hk; omega]
  rw [h9] at HO29
  simp only [h9]
  replace E := ((E.trans e27.keep).trans e28.keep).trans e29.keep
  exact ⟨⟨q29, c29, rfl, HO29.base zo⟩, E⟩
 refine c_skip (n_then (c_seq (wp_reg zd (l_v (zmS rfl) (l_v (zaS rfl) (l_v (v_assign rfl) (l_nil (n_then (c_ret ?_)))))))))
 refine ret2v rfl zq zq (zvS rfl) (zvI rfl) ?_
 have h9 : [wBytes key, wNum sq, wNum kd].flatten = ikW (key, sq, kd, val) := by
  have hk1 : ¬ ((kd : Int) = 1) := dfalse hk
  simp [ikW, hk1, show ¬ kd = 1 from by omega]
 rw [h9] at HO20
 simp only [h9]
 exact ⟨⟨q20, c20, rfl, HO20.base zo⟩, E⟩
theorem bad_d {w : World} {F : Nat → Prop} {v : Value} {a : IkV} (HG1 : AgV tIk w F v a) : CallsR Tryz.prog 63 (#[v] ++ #[]) w (fun o w' => o = .bool (!mayIk a) ∧ Ext w w') := by
  obtain ⟨a1, c1, a2, c2, rfl, _⟩ := HG1.ik
  show CallsR _ _ #[_] _ _
  refine enter 6 Tryz.func63 rfl rfl (by simp) ?_
  refine c_seq ?_
  have E := Keep.refl (K := NoK) w
  replace HG1 := HG1.all
  refine wp_reg zd (l_to (to_box (zvA rfl) ?_))
  rintro b1 w1 zb1 HB1 e1 z1
  have := e1.size
  try simp only [Value.cells] at HB1
  refine l_v (v_assign rfl) (l_nil (n_then (c_seq (wp_reg zd (l_v (v_loadA zk rfl (by first | exact HB1.pv | assumption) rfl) ?_)))))
  replace HG1 := HG1.ext e1
  refine l_to (to_f1 zk (zvA rfl) (CallsR.mono (iMay_c HG1) ?_))
  rintro _ w101 ⟨rfl, e101⟩
  have := e101.size
  refine l_v (v_not rfl) ?_
  refine l_v (zaB rfl) (l_nil (n_then (c_ret (ret1v rfl zq (zvB rfl) ?_))))
  replace E := (E.trans e1.keep).trans e101.keep
  exact ⟨rfl, E⟩
theorem spI_c {w : World} {F : Nat → Prop} {cs : List Value} {x : IkV} (hr : tIk.rep w F cs x) (hm : mayIk x = true) : CallsR Tryz.prog 67 (#[.agg cs.toArray] ++ #[]) w (fun r w2 => OwV tU8 nU8 w2 w.heap.size NoK r (spI x) ∧ Ext w w2) := by
  have hlen := ikW_le hm
  have HG1 : AgV tIk w F (.agg cs.toArray) x := ⟨cs, rfl, hr⟩
  obtain ⟨a1, c1, a2, c2, rfl, _⟩ := tIk_cells hr
  show CallsR _ _ #[_] _ _
  refine enter 12 Tryz.func67 rfl rfl (by simp) ?_
  refine c_seq ?_
  have E := Keep.refl (K := NoK) w
  replace HG1 := HG1.all
  refine wp_reg zd (l_to (to_box (zvA rfl) ?_))
  rintro b1 w1 zb1 HB1 e1 z1
  have := e1.size
  try simp only [Value.cells] at HB1
  refine l_v (v_assign rfl) (l_nil (n_then (c_seq (wp_reg zd (l_v (v_loadA zk rfl (by first | exact HB1.pv | assumption) rfl) ?_)))))
  replace HG1 := HG1.ext e1
  refine l_to (to_f1 zk (zvA rfl) (CallsR.mono (iBytes_c HG1 hm) ?_))
  rintro _ w2 ⟨⟨q2, c2', rfl, HO2⟩, e2⟩
  have := e2.size
  have zo_HO2 := fun (b : Nat) h => HO2.own_lt (b := b) h
  refine l_v (zmT rfl) (l_v (v_extract (t := .slice _ _ _) rfl rfl) (l_v (v_extract (t := .int _ _) rfl rfl) (l_v (zaS rfl) (l_v (zaI rfl) (l_nil (n_then (c_seq (wp_reg zd (l_v (zmS rfl) ?_)))))))))
  refine l_to (to_f1 zk (zvS rfl) (CallsR.mono (Bytes_c HO2.view zo) ?_))
  rintro _ w3 ⟨HO3, ⟨q3, c3, rfl⟩, e3⟩
  have := e3.size
  have zo_HO3 := fun (b : Nat) h => HO3.own_lt (b := b) h
  refine l_v (zaS rfl) (l_nil (n_then (c_ret (ret1v rfl zq (zvS rfl) ?_))))
  replace E := ((E.trans e1.keep).trans e2.keep).trans e3.keep
  exact ⟨HO3.base zo, E⟩
theorem putI_c {w : World} {v : Value} {F : Nat → Prop} {xs : List (IkV)} {fr : Nat} {cap : Array Value} (hv : SlV (tIk) w F v xs) (hb : kBody Tryz.prog fr = true) (sp : IkV → List UInt8)
    (hform : ∀ (w1 : World) (cs : List Value) (x : IkV), Ext w w1 → (tIk).rep w1 F cs x → x ∈ xs → CallsR Tryz.prog fr (#[.agg cs.toArray] ++ cap) w1 (fun r w2 => OwV tU8 nU8 w2 w1.heap.size NoK r (sp x) ∧ Ext w1 w2))
    (hl : (wList sp xs).length ≤ 140737488355300) (hn : xs.length ≤ 5000000000000) :
    CallsR Tryz.prog 66 #[v, .func (.func fr) #[] cap] w (fun r w' => ∃ q c, r = .tuple #[.slice (some q) (wList sp xs).length c, .int .i64 0] ∧ OwV tU8 nU8 w' w.heap.size NoK (.slice (some q) (wList sp xs).length c) (wList sp xs) ∧ Ext w w') := by
 obtain ⟨a, c, rfl⟩ := hv.shape
 obtain ⟨w0, rfl⟩ : ∃ x, x = w := ⟨w, rfl⟩
 refine enter 32 Tryz.func66 rfl rfl (by simp) ?_
 refine c_seq (wp_reg zd (l_v (v_assign rfl) (l_v (v_assign rfl) (l_nil (n_then (c_seq (c_seq (wp_reg zd (l_v (zmF rfl) ?_)))))))))
 refine l_v (v_feqlnil (ps := #[93]) (rs := #[24]) (v := false) zk rfl rfl) ?_
 refine l_nil (n_then (c_cond rfl rfl (fun hc => ?_) (fun hc => ?_)))
 ·
  cases hc
 refine c_skip (n_then (c_seq (wp_reg zd (l_v (zmS rfl) (l_v (v_len (et := 93) zk rfl) ?_)))))
 refine l_v (v_conv (ds := .int .i64) zk zk rfl (by first | exact wr_u64 zo zo | rfl)) ?_
 refine l_to (to_f1 zk (zvI rfl) (CallsR.mono (Number_c (n := xs.length) zo) ?_))
 rintro _ w1 ⟨o1, ⟨q1, c1, rfl⟩, e1⟩
 have := e1.size
 refine l_to (to_slice1 (t := tSl tU8) (et := 24) (bytes := 24) zk zq (zvS rfl) ((show (tSl tU8).rep _ _ [_] _ from ⟨_, rfl, o1.view⟩)) ?_)
 rintro b2 w2 rfl o2 e2 z2
 have := e2.size
 refine l_v (zaS rfl) (l_nil (n_then (c_seq (c_seq (wp_reg zd (l_v (zmS rfl) (l_v (v_len (et := 93) zk rfl) ?_)))))))
 refine l_v (v_move rfl) (l_nil (n_then (c_block (c_loop (τ := Option Addr × Nat × Nat) [6, 7, 17, 18, 19, 20, 21, 22, 23, 24, 25, 26, 27, 28, 29] (fun (a1, c1, k) => [(6, .slice a1 (k + 1) c1), (17, .int .i64 k)]) (fun (a1, c1, k) w => OwV (tSl tU8) nSl w w0.heap.size (fun b => w0.heap.size ≤ b) (.slice a1 (k + 1) c1) (wNum xs.length :: (xs.take k).map sp) ∧ Ext w0 w ∧ k ≤ xs.length) (fun (a1, c1, k) => xs.length - k) (some ⟨w1.heap.size, 0, none⟩, 1, 0) (by exact ⟨rfl, rfl, trivial⟩) (by exact ⟨(o2.base zo).mono (fun b _ h => by rcases h.1 with h | h; exact h; exact h.elim), e1.trans e2, Nat.zero_le _⟩) ?_))))
 rintro ⟨a1, c1, k⟩ w3 j ⟨o3, e3, h3⟩
 refine c_seq (wp_reg zd (l_v (v_lss rfl rfl) ?_))
 refine l_nil (n_then (c_seq (c_cond rfl rfl (fun hc2 => ?_) (fun hc2 => ?_))))
 ·
  have hc2 := dtrue hc2
  have := e3.size
  obtain ⟨x, hx⟩ : ∃ x, xs[k]? = some x := ⟨xs[k]'zo, by simp [show k < xs.length by omega]⟩
  have hlk : (wNum xs.length :: (xs.take k).map sp).length = k + 1 := by simp; omega
  refine c_skip (n_then (c_seq (c_block (c_seq (wp_reg zd (l_v (zmI rfl) (l_v (zaI rfl) (l_nil (n_then ?_)))))))))
  refine wp_reg zd (l_v (zmS rfl) (l_v (zmF rfl) (l_v (zmS rfl) (l_v (zmI rfl) (l_to (to_index (et := 93) zk zk (zvS rfl) (hv.ext e3) (zvI rfl) rfl hx ?_))))))
  rintro q cs hF hp hr
  skip
  refine l_v (v_loadA (n := 4) zk rfl hp (tIk.len hr)) ?_
  refine l_to (to_call1 hb rfl (zvA rfl) (CallsR.mono ((hform w3 _ x e3 hr (List.mem_of_getElem? hx))) ?_))
  rintro _ w4 ⟨o4, e4⟩
  have := e4.size
  obtain ⟨a4, c4, rfl⟩ := o4.shape
  refine l_to (to_slice1 (t := tSl tU8) (et := 24) (bytes := 24) zk zq (zvS rfl) ((show (tSl tU8).rep _ _ [_] _ from ⟨_, rfl, o4.view⟩)) ?_)
  rintro b5 w5 rfl o5 e5 z5
  have := e5.size
  refine l_to (to_append (et := 24) (bytes := 24) zk (zvS rfl) (o3.ext (e4.trans e5)) (zvS rfl) o5.view ((OwV_sep o3 (by intro b hb; simp only [NoK, or_false] at hb; omega) zo)) (by first | omega | (simp; done) | (simp; omega)) (by simp only [maxLen]; first | omega | (simp; done) | (simp; omega)) zo ?_)
  rintro a6 n6 c6 w6 o6 hn6 k6 b6 i6
  have := k6.size
  have hlk2 : ((wNum xs.length :: (xs.take k).map sp) ++ [sp x]).length = k + 1 + 1 := by simp; omega
  rw [hlk2] at hn6
  subst hn6
  have e6 : Ext w0 w6 := ((e3.trans e4).trans e5).step k6 fun b hb h => by have := (o3.own_lt h).1; omega
  have htk : (xs.take (k + 1)).map sp = (xs.take k).map sp ++ [sp x] := by rw [List.take_add_one, hx]; simp
  refine l_v (zaS rfl) (l_nil (n_blk (n_then (wp_reg zd (l_v (v_add rfl rfl (by first | exact wr_i64 zo zo | rfl)) ?_)))))
  refine l_v (zmI rfl) (l_nil (n_then (⟨(a6, c6, k + 1), _, rfl, by (repeat (first | exact Off.of_over _ _ _ | refine Off.upd ?_ zq _ | refine Off.overs ?_ zq _)), ⟨by first | rfl | exact congrArg (Value.int _) zo | (simp; done), by first | rfl | exact congrArg (Value.int _) zo | (simp; done), trivial⟩, ?_, ?_⟩)))
  ·
   exact ⟨by rw [htk]; exact o6, e6, by omega⟩
  dsimp only; omega
 have hc2 := dfalse hc2
 obtain rfl : k = xs.length := by omega
 rw [List.take_length] at o3
 have := e3.size
 refine c_exit (x_then (x_then (x_hit (n_then (c_seq (wp_reg zd (l_v (zmS rfl) (l_to (to_f1 zk (zvS rfl) (CallsR.mono (Join_c o3.view (by simpa [wList] using hl)) ?_))))))))))
 rintro _ w4 ⟨o4, ⟨q4, c4, rfl⟩, e4⟩
 have := e4.size
 refine l_v (zaS rfl) (l_v (v_assign rfl) (l_nil (n_then (c_ret (ret2 rfl zq zq ?_)))))
 have hfl : (wNum xs.length :: xs.map sp).flatten = wList sp xs := by simp [wList]
 rw [hfl] at o4 ⊢
 exact ⟨q4, c4, rfl, o4.base zo, e3.trans e4⟩
theorem List_c {w : World} {F : Nat → Prop} {v : Value} {l : List IkV} (HS1 : SlV tIk w F v l) (hm : ∀ e ∈ l, mayIk e = true) (hl : l.length ≤ 65536) : CallsR Tryz.prog 24 #[v] w (fun r w' => (∃ q c, r = .tuple #[.slice (some q) (wList spI l).length c, .int .i64 0] ∧ OwV tU8 nU8 w' w.heap.size NoK (.slice (some q) (wList spI l).length c) (wList spI l)) ∧ Ext w w') := by
 obtain ⟨a, c, rfl⟩ := HS1.shape
 have hlen := lsW_le hm hl
 have hany : (l.any fun e => !mayIk e) = false := by
  rw [List.any_eq_false]; intro x hx; simp [hm x hx]
 refine enter 17 Tryz.func24 rfl rfl (by simp) ?_
 refine c_seq ?_
 have E := Keep.refl (K := NoK) w
 replace HS1 := HS1.all
 refine wp_reg zd (l_v (v_assign rfl) (l_v (v_assign rfl) (l_nil (n_then (c_seq (wp_reg zd (l_v (v_assign rfl) (l_nil (n_then ?_)))))))))
 refine c_seq (c_seq (wp_reg zd (l_v (zmS rfl) (l_v (v_len (et := 93) zk rfl) ?_))))
 refine l_v (v_gtr rfl rfl) ?_
 refine l_v (zmB rfl) (l_g1 rfl rfl (fun hG => zmS rfl) (l_g1 rfl rfl (fun hG => v_move rfl) (l_g1f rfl rfl (fun hG => to_f2 zk (gd hG rfl) (gd hG rfl) (ContainsFuncI_c HS1 zk (fun W u r e h _ => bad_d h))) ?_)))
 rintro w101 e101
 have := e101.size
 refine l_v (v_or rfl rfl) ?_
 replace E := E.trans e101.keep
 replace HS1 := HS1.ext e101
 refine l_nil (n_then (c_cond rfl rfl (fun hc => ?_) (fun hc => ?_)))
 ·
  rw [hany] at hc; simp at hc; omega
 refine c_skip (n_then (c_seq (wp_reg zd (l_v (zmS rfl) (l_to (to_f2 zk (zvS rfl) rfl (CallsR.mono (putI_c (cap := #[]) HS1 zk spI (fun w1 cs x e1 hr hx => spI_c hr (hm x hx)) zo zo) ?_)))))))
 rintro _ w14 ⟨q14, c14, rfl, HO14, e14⟩
 have := e14.size
 have zo_HO14 := fun (b : Nat) h => HO14.own_lt (b := b) h
 refine l_v (v_extract (t := .slice _ _ _) rfl rfl) (l_v (v_extract (t := .int _ _) rfl rfl) (l_v (zaS rfl) (l_v (zaI rfl) (l_nil (n_then (c_ret (ret2v rfl zq zq (zvS rfl) (zvI rfl) ?_)))))))
 replace E := E.trans e14.keep
 exact ⟨⟨q14, c14, rfl, HO14.base zo⟩, E⟩
end Go.Proofs.YtogafjlbpodgjaaGreat
