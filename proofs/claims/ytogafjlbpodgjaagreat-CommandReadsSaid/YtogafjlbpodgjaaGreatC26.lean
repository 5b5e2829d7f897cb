/- A part of the proof: steps and lemmas for the walks through the given program. -/
import Derived.Test.YtogafjlbpodgjaaGreatC25
namespace Go.Proofs.YtogafjlbpodgjaaGreat
open Go.Vc
set_option linter.unusedVariables false
set_option linter.unusedSimpArgs false
set_option maxRecDepth 100000

theorem refiBytes_c {w : World} {F : Nat → Prop} {v : Value} {a : IkV} (HG1 : AgV tIk w F v a) (hm : mayIk a = true) : CallsR Tryz.prog 77 #[v] w (fun r w' => (∃ q c, r = .slice q (ikW a).length c) ∧ OwV tU8 nU8 w' w.heap.size NoK r (ikW a) ∧ Ext w w') := by
 have hlen := ikW_le hm
 obtain ⟨key, seq, kind, val⟩ := a
 have hm2 := hm
 simp only [mayIk, Bool.and_eq_true, decide_eq_true_eq, Bool.or_eq_true] at hm2
 obtain ⟨⟨⟨⟨⟨g1, g2⟩, g3⟩, g4⟩, g5⟩, g6⟩ := hm2
 obtain ⟨a1, c1, a2, c2, rfl, HS1, HS2, hi1, hi2⟩ := HG1.ik
 simp only [] at HS1 HS2
 obtain ⟨sq, rfl⟩ := Int.eq_ofNat_of_zero_le (show 0 ≤ seq by omega)
 obtain ⟨kd, rfl⟩ := Int.eq_ofNat_of_zero_le (show 0 ≤ kind by rcases g6 with h | ⟨h, _⟩ <;> omega)
 have hkd : kd ≤ 2 := by rcases g6 with h | ⟨h, _⟩ <;> omega
 have q1 := wBy_le (l := key) zo
 have q2 := wBy_le (l := val) zo
 have q3 := wNum_len10 (n := sq) zo
 have q4 := wNum_len10 (n := kd) zo
 refine enter 27 Tryz.func77 rfl rfl (by simp) ?_
 refine c_seq ?_
 have E := Keep.refl (K := NoK) w
 replace HG1 := HG1.all
 replace HS1 := HS1.all
 replace HS2 := HS2.all
 refine wp_reg zd (l_to (to_box (zvA rfl) ?_))
 rintro b1 w1 zb1 HB1 e1 z1
 have := e1.size
 try simp only [Value.cells] at HB1
 obtain ⟨n4, hn4⟩ : ∃ n, n = w1.heap.size := ⟨_, rfl⟩
 refine l_v (v_assign rfl) (l_nil (n_then (c_seq (wp_any zk ?_))))
 have e101 : Ext w1 { w1 with drawn := w1.drawn + 1 } := Keep.drawn _ _
 generalize hw101 : ({ w1 with drawn := w1.drawn + 1 } : World) = w101 at e101 ⊢
 clear hw101
 have := e101.size
 refine r_cut 7 rfl zd zd zd ?_
 refine wp_regdW (NoK) zd zd ?_
 refine rt_v (fun vals w hR hd => v_fieldAddr (off := 0) (ft := 24) zk rfl) ?_
 replace HB1 := HB1.ext e101
 refine rt_v (fun vals w hR hd => v_load zk (hd 0 rfl) (by first | exact (HB1.ext hR).pv 0 _ rfl | assumption)) ?_
 replace HS1 := (HS1.ext e1).ext e101
 refine rt_to (fun v W => (∃ q c, v = .slice (some q) (wBytes key).length c) ∧ OwV tU8 nU8 W n4 NoK v (wBytes key)) (fun v w w' h k => ⟨h.1, h.2.ext k⟩) (fun vals w hR hd => to_f1 zk (hd 1 rfl) (CallsR.mono (refBytes_c (HS1.ext hR) zo) fun v w1 ⟨h, hv, e⟩ => ⟨e, hv, h.base (by have := hR.size; omega)⟩)) ?_
 refine rt_v (fun vals w hR hd => v_fieldAddr (off := 1) (ft := 2) zk rfl) ?_
 refine rt_v (fun vals w hR hd => v_load zk (hd 3 rfl) (by first | exact (HB1.ext hR).pv 1 _ rfl | assumption)) ?_
 refine rt_v (fun vals w hR hd => v_conv (ds := .int .i64) zk zk (hd 4 rfl) (by first | exact wr_u64 zo zo | rfl)) ?_
 refine rt_to (fun v W => Bv W AllB v (wNum sq)) (fun v w w' h k => h.ext k) (fun vals w hR hd => to_f1 zk (hd 5 rfl) (CallsR.mono (refNumber_c (n := sq) rfl zo) fun v w1 ⟨h, _, e⟩ => ⟨e, h.view.allB⟩)) ?_
 refine rt_nil (fun w102 e102 => ?_)
 rintro _ rfl _ rfl v6 hs6 _ rfl _ rfl _ rfl v10 HS10
 have := e102.size
 have hs6 : (∃ q c, v6 = .slice (some q) (wBytes key).length c) ∧ OwV tU8 nU8 _ n4 NoK v6 (wBytes key) := hs6
 obtain ⟨⟨q6, c6, rfl⟩, HO6⟩ := hs6
 replace HS10 : Bv _ AllB v10 (wNum sq) := HS10
 obtain ⟨a10, d10, rfl⟩ := HS10.shape
 refine fin_nil (n_then (r_cut 1 rfl zd zd zd ?_))
 refine r_one zd rfl ?_
 have zo_HO6 := fun (b : Nat) h => HO6.own_lt (b := b) h
 refine l_to (to_append (et := 5) (bytes := 1) zk (zvS rfl) HO6 (zvS rfl) HS10 (flat_u8.to) (by first | omega | (simp; done) | (simp; omega)) (by simp only [maxLen]; first | omega | (simp; done) | (simp; omega)) zo ?_)
 rintro a11 n11 c11 w11 HO11 hn11 k11 h11 i11
 have := k11.size
 subst hn11
 have zo_HO11 := fun (b : Nat) h => HO11.own_lt (b := b) h
 refine l_nil (n_then (r_one zd rfl ?_))
 replace HB1 := (HB1.ext e102).keep k11 (by intro h; have he0 := h; (try dsimp only at h); (try simp only [Value.ownBlock, Option.some.injEq] at h); first | omega | (have := (HO6).own_lt he0; omega) | (have := zo_HO6 _ he0; omega))
 refine l_v (zaS rfl) (l_nil (n_then (c_seq (wp_reg zd (l_v (zmS rfl) (l_v (v_fieldAddr (off := 2) (ft := 91) zk rfl) (l_v (v_load zk rfl (by first | exact HB1.pv 2 _ rfl | assumption)) ?_)))))))
 refine l_v (v_conv (ds := .int .i64) zk zk rfl (by first | exact wr_u64 zo zo | rfl)) ?_
 refine l_to (to_f1 zk (zvI rfl) (CallsR.mono (refNumber_c (n := kd) rfl zo) ?_))
 replace E := (((E.trans e1.keep).trans e101.keep).trans e102.keep).step k11 (by intro i hi he; have he0 := he; (try dsimp only [NoK] at hi he ⊢); (try simp only [Value.ownBlock, Option.some.injEq] at he); first | exact he.elim | omega | exact he | (have := (HO6).own_lt he0; omega) | (have := zo_HO6 _ he0; omega) | (have := (HO6).own_lt he0; rcases hi with hi | hi <;> omega))
 replace HG1 := (((HG1.ext e1).ext e101).ext e102).keep k11 (by intro i _ hi he; have he0 := he; (try dsimp only [NoK, AllB] at hi he); (try simp only [Value.ownBlock, Option.some.injEq] at he); first | exact hi.elim | exact he.elim | omega | (rcases hi with hi | hi <;> omega) | (rcases he with he | he <;> omega) | (have := (HO6).own_lt he0; omega) | (have := zo_HO6 _ he0; omega) | (have := (HO6).own_lt he0; rcases hi with hi | hi <;> omega))
 replace HS2 := (((HS2.ext e1).ext e101).ext e102).keep k11 (by intro i _ hi he; have he0 := he; (try dsimp only [NoK, AllB] at hi he); (try simp only [Value.ownBlock, Option.some.injEq] at he); first | exact hi.elim | exact he.elim | omega | (rcases hi with hi | hi <;> omega) | (rcases he with he | he <;> omega) | (have := (HO6).own_lt he0; omega) | (have := zo_HO6 _ he0; omega) | (have := (HO6).own_lt he0; rcases hi with hi | hi <;> omega))
 replace HS1 := (HS1.ext e102).keep k11 (by intro i _ hi he; have he0 := he; (try dsimp only [NoK, AllB] at hi he); (try simp only [Value.ownBlock, Option.some.injEq] at he); first | exact hi.elim | exact he.elim | omega | (rcases hi with hi | hi <;> omega) | (rcases he with he | he <;> omega) | (have := (HO6).own_lt he0; omega) | (have := zo_HO6 _ he0; omega) | (have := (HO6).own_lt he0; rcases hi with hi | hi <;> omega))
 rintro _ w16 ⟨HO16, ⟨q16, c16, rfl⟩, e16⟩
 have := e16.size
 have zo_HO16 := fun (b : Nat) h => HO16.own_lt (b := b) h
 replace HO11 := HO11.ext e16
 refine l_to (to_append (et := 5) (bytes := 1) zk (zvS rfl) HO11 (zvS rfl) HO16.view (flat_u8.to) (by first | omega | (simp; done) | (simp; omega)) (by simp only [maxLen]; first | omega | (simp; done) | (simp; omega)) zo ?_)
 rintro a17 n17 c17 w17 HO17 hn17 k17 h17 i17
 have := k17.size
 subst hn17
 have zo_HO17 := fun (b : Nat) h => HO17.own_lt (b := b) h
 replace HB1 := (HB1.ext e16).keep k17 (by intro h; have he0 := h; (try dsimp only at h); (try simp only [Value.ownBlock, Option.some.injEq] at h); first | omega | (have := (HO11).own_lt he0; omega) | (have := zo_HO11 _ he0; omega))
 refine l_v (zaS rfl) (l_nil (n_then (c_seq (c_seq (wp_reg zd (l_v (v_fieldAddr (off := 2) (ft := 91) zk rfl) (l_v (v_load zk rfl (by first | exact HB1.pv 2 _ rfl | assumption)) ?_)))))))
 refine l_v (v_eql rfl rfl) ?_
 replace E := (E.trans e16.keep).step k17 (by intro i hi he; have he0 := he; (try dsimp only [NoK] at hi he ⊢); (try simp only [Value.ownBlock, Option.some.injEq] at he); first | exact he.elim | omega | exact he | (have := (HO11).own_lt he0; omega) | (have := zo_HO11 _ he0; omega) | (have := (HO11).own_lt he0; rcases hi with hi | hi <;> omega))
 replace HG1 := (HG1.ext e16).keep k17 (by intro i _ hi he; have he0 := he; (try dsimp only [NoK, AllB] at hi he); (try simp only [Value.ownBlock, Option.some.injEq] at he); first | exact hi.elim | exact he.elim | omega | (rcases hi with hi | hi <;> omega) | (rcases he with he | he <;> omega) | (have := (HO11).own_lt he0; omega) | (have := zo_HO11 _ he0; omega) | (have := (HO11).own_lt he0; rcases hi with hi | hi <;> omega))
 replace HS1 := (HS1.ext e16).keep k17 (by intro i _ hi he; have he0 := he; (try dsimp only [NoK, AllB] at hi he); (try simp only [Value.ownBlock, Option.some.injEq] at he); first | exact hi.elim | exact he.elim | omega | (rcases hi with hi | hi <;> omega) | (rcases he with he | he <;> omega) | (have := (HO11).own_lt he0; omega) | (have := zo_HO11 _ he0; omega) | (have := (HO11).own_lt he0; rcases hi with hi | hi <;> omega))
 replace HS2 := (HS2.ext e16).keep k17 (by intro i _ hi he; have he0 := he; (try dsimp only [NoK, AllB] at hi he); (try simp only [Value.ownBlock, Option.some.injEq] at he); first | exact hi.elim | exact he.elim | omega | (rcases hi with hi | hi <;> omega) | (rcases he with he | he <;> omega) | (have := (HO11).own_lt he0; omega) | (have := zo_HO11 _ he0; omega) | (have := (HO11).own_lt he0; rcases hi with hi | hi <;> omega))
 refine l_nil (n_then (c_cond rfl rfl (fun hk => ?_) (fun hk => ?_)))
 ·
  refine wp_reg zd (l_v (zmS rfl) (l_v (v_fieldAddr (off := 3) (ft := 24) zk rfl) (l_v (v_load zk rfl (by first | exact HB1.pv 3 _ rfl | assumption)) ?_)))
  refine l_to (to_f1 zk (zvS rfl) (CallsR.mono (refBytes_c HS2 zo) ?_))
  rintro _ w24 ⟨HO24, ⟨q24, c24, rfl⟩, e24⟩
  have := e24.size
  have zo_HO24 := fun (b : Nat) h => HO24.own_lt (b := b) h
  replace HO17 := HO17.ext e24
  refine l_to (to_append (et := 5) (bytes := 1) zk (zvS rfl) HO17 (zvS rfl) HO24.view (flat_u8.to) (by first | omega | (simp; done) | (simp; omega)) (by simp only [maxLen]; first | omega | (simp; done) | (simp; omega)) zo ?_)
  rintro a25 n25 c25 w25 HO25 hn25 k25 h25 i25
  have := k25.size
  subst hn25
  have zo_HO25 := fun (b : Nat) h => HO25.own_lt (b := b) h
  refine l_v (zaS rfl) (l_nil (n_then (c_seq (wp_reg zd (l_v (zmS rfl) (l_v (zaS rfl) (l_nil (n_then (c_ret ?_)))))))))
  refine ret1v rfl zq (zvS rfl) ?_
  have h9 : wBytes key ++ wNum sq ++ wNum kd ++ wBytes val = ikW (key, sq, kd, val) := by simp [ikW, show kd = 1 from by have := dtrue hk; omega]
  rw [h9] at HO25 ⊢
  replace E := (E.trans e24.keep).step k25 (by intro i hi he; have he0 := he; (try dsimp only [NoK] at hi he ⊢); (try simp only [Value.ownBlock, Option.some.injEq] at he); first | exact he.elim | omega | exact he | (have := (HO17).own_lt he0; omega) | (have := zo_HO17 _ he0; omega) | (have := (HO17).own_lt he0; rcases hi with hi | hi <;> omega))
  exact ⟨⟨_, _, rfl⟩, HO25.base zo, E⟩
 refine c_skip (n_then (c_seq (wp_reg zd (l_v (zmS rfl) (l_v (zaS rfl) (l_nil (n_then (c_ret (ret1v rfl zq (zvS rfl) ?_)))))))))
 have h9 : wBytes key ++ wNum sq ++ wNum kd = ikW (key, sq, kd, val) := by
  have hk1 : ¬ ((kd : Int) = 1) := dfalse hk
  simp [ikW, hk1, show ¬ kd = 1 from by omega]
 rw [h9] at HO17 ⊢
 exact ⟨⟨_, _, rfl⟩, HO17.base zo, E⟩
theorem spI_take {l : List IkV} {k : Nat} {x : IkV} (hx : l[k]? = some x) : ((l.take (k + 1)).map spI).flatten = ((l.take k).map spI).flatten ++ spI x := by
  rw [List.take_add_one, hx]; simp
theorem spI_len {l : List IkV} (h : ∀ e ∈ l, mayIk e = true) (k : Nat) : (((l.take k).map spI).flatten).length ≤ (wList spI l).length := by
  have : ∀ (k : Nat) (m : List IkV), (((m.take k).map spI).flatten).length ≤ ((m.map spI).flatten).length := by
    intro k
    induction k with
    | zero => intro m; simp
    | succ k ih => intro m; cases m with
      | nil => simp
      | cons e m => have := ih m; simp only [List.take_succ_cons, List.map_cons, List.flatten_cons, List.length_append]; omega
  have := this k l
  rw [wList, List.length_append]; omega
theorem refiList_c {w : World} {F : Nat → Prop} {v : Value} {l : List IkV} (HS1 : SlV tIk w F v l) (hm : ∀ e ∈ l, mayIk e = true) (hl : l.length ≤ 65536) : CallsR Tryz.prog 32 #[v] w (fun r w' => (∃ q c, r = .slice q (wList spI l).length c) ∧ OwV tU8 nU8 w' w.heap.size NoK r (wList spI l) ∧ Ext w w') := by
 obtain ⟨a, c, rfl⟩ := HS1.shape
 have hlen := lsW_le hm hl
 have hnl := wNum_len10 (n := l.length) zo
 refine enter 24 Tryz.func32 rfl rfl (by simp) ?_
 refine c_seq ?_
 have E := Keep.refl (K := NoK) w
 replace HS1 := HS1.all
 refine wp_reg zd (l_v (v_assign rfl) (l_nil (n_then (c_seq (wp_reg zd (l_v (zmS rfl) (l_v (v_len (et := 93) zk rfl) ?_)))))))
 refine l_v (v_conv (ds := .int .i64) zk zk rfl (by first | exact wr_u64 zo zo | rfl)) ?_
 refine l_to (to_f1 zk (zvI rfl) (CallsR.mono (refNumber_c (n := l.length) rfl zo) ?_))
 rintro _ w3 ⟨HO3, ⟨q3, c3, rfl⟩, e3⟩
 have := e3.size
 have zo_HO3 := fun (b : Nat) h => HO3.own_lt (b := b) h
 refine l_v (zaS rfl) (l_nil (n_then (c_seq (c_seq (wp_reg zd (l_v (v_assign rfl) (l_nil (n_then (c_block ?_)))))))))
 replace E := E.trans e3.keep
 refine c_loop (τ := Option Addr × Nat × Nat) [3, 4, 9, 10, 11, 12, 13, 14, 15, 16, 17, 18, 19, 20, 21, 22] (fun (a2, c2, k) => [(3, .slice a2 (wNum l.length ++ ((l.take k).map spI).flatten).length c2), (4, .int .i64 k)]) (fun (a2, c2, k) W => Ext w W ∧ Keep (fun b => w.heap.size ≤ b) w3 W ∧ OwV tU8 nU8 W w.heap.size NoK (.slice a2 (wNum l.length ++ ((l.take k).map spI).flatten).length c2) (wNum l.length ++ ((l.take k).map spI).flatten) ∧ k ≤ l.length) (fun (a2, c2, k) => l.length - k) (some q3, c3, 0) (by exact ⟨(show (_ : Value) = .slice (some q3) (wNum l.length).length c3 from rfl).trans (by simp), rfl, trivial⟩) (by exact ⟨E, Keep.refl _, (by simpa using HO3.base zo), Nat.zero_le _⟩) ?_
 rintro ⟨a2, c2, k⟩ w101 j ⟨E, EL1, HO2, h2⟩
 have := EL1.size
 have zo_HO2 := fun (b : Nat) h => HO2.own_lt (b := b) h
 refine c_seq (c_seq (wp_reg zd (l_v (zmI rfl) (l_v (zmS rfl) (l_v (v_len (et := 93) zk rfl) ?_)))))
 refine l_v (v_lss rfl rfl) ?_
 replace HS1 := (HS1.ext e3).keep EL1 dj1
 refine l_nil (n_then (c_cond rfl rfl (fun hc => ?_) (fun hc => ?_)))
 ·
  have hc := dtrue hc
  obtain ⟨x, hx, _⟩ := getE (l := l) (i := k) zo
  have hs := spI_take hx
  have hs2 := spI_len hm (k + 1)
  rw [hs, List.length_append] at hs2
  have hs4 := spI_len hm k
  have hs5 : (wNum l.length ++ ((l.take k).map spI).flatten).length = (wNum l.length).length + (((l.take k).map spI).flatten).length := List.length_append
  have hs6 : (spI x).length = (wBytes (ikW x)).length := rfl
  have hmx := hm x (List.mem_of_getElem? hx)
  have hxl := ikW_le hmx
  have hxb := wBy_le (l := ikW x) zo
  obtain ⟨q, cs, hq, hF, _, HPq, hr⟩ := HS1.el hx
  subst hq
  have HGq : AgV tIk _ _ _ x := ⟨cs, rfl, hr⟩
  obtain ⟨x1, y1, x2, y2, rfl, _⟩ := tIk_cells hr
  refine c_skip (n_then (c_seq (c_block (wp_reg zd (l_v (zmS rfl) (l_v (zmS rfl) (l_v (zmI rfl) (l_v (v_indexAddr (et := 93) (sz := 4) (k := k) zk zk rfl rfl (by first | rfl | omega) zo) ?_))))))))
  refine l_v (v_loadA zk rfl (by first | exact HPq | assumption) rfl) ?_
  refine l_to (to_f1 zk (zvA rfl) (CallsR.mono (refiBytes_c HGq hmx) ?_))
  rintro _ w20 ⟨⟨q20, c20, rfl⟩, HO20, e20⟩
  have := e20.size
  have zo_HO20 := fun (b : Nat) h => HO20.own_lt (b := b) h
  refine l_to (to_f1 zk (zvS rfl) (CallsR.mono (refBytes_c HO20.view zo) ?_))
  rintro _ w21 ⟨HO21, ⟨q21, c21, rfl⟩, e21⟩
  have := e21.size
  have zo_HO21 := fun (b : Nat) h => HO21.own_lt (b := b) h
  replace HO2 := (HO2.ext e20).ext e21
  refine l_to (to_append (et := 5) (bytes := 1) zk (zvS rfl) HO2 (zvS rfl) HO21.view (flat_u8.to) (by first | omega | (simp; done) | (simp; omega)) (by simp only [maxLen]; first | omega | (simp; done) | (simp; omega)) zo ?_)
  rintro a22 n22 c22 w22 HO22 hn22 k22 h22 i22
  have := k22.size
  subst hn22
  rw [List.append_assoc, show wBytes (ikW x) = spI x from rfl, ← hs] at HO22 ⊢
  have zo_HO22 := fun (b : Nat) h => HO22.own_lt (b := b) h
  refine l_v (zaS rfl) (l_nil (n_blk (n_then (wp_reg zd (l_v (zmI rfl) (l_v (v_add rfl rfl (by first | exact wr_i64 zo zo | rfl)) ?_))))))
  replace E := ((E.trans e20.keep).trans e21.keep).step k22 (by intro i hi he; have he0 := he; (try dsimp only [NoK] at hi he ⊢); (try simp only [Value.ownBlock, Option.some.injEq] at he); first | exact he.elim | omega | exact he | (have := (HO2).own_lt he0; omega) | (have := zo_HO2 _ he0; omega) | (have := (HO2).own_lt he0; rcases hi with hi | hi <;> omega))
  replace HS1 := ((HS1.ext e20).ext e21).keep k22 (by intro i _ hi he; have he0 := he; (try dsimp only [NoK, AllB] at hi he); (try simp only [Value.ownBlock, Option.some.injEq] at he); first | exact hi.elim | exact he.elim | omega | (rcases hi with hi | hi <;> omega) | (rcases he with he | he <;> omega) | (have := (HO2).own_lt he0; omega) | (have := zo_HO2 _ he0; omega) | (have := (HO2).own_lt he0; rcases hi with hi | hi <;> omega))
  replace EL1 := ((EL1.trans e20.keep).trans e21.keep).step k22 (by intro i hi he; have he0 := he; (try dsimp only [NoK] at hi he ⊢); (try simp only [Value.ownBlock, Option.some.injEq] at he); first | exact he.elim | omega | exact he | (have := (HO2).own_lt he0; omega) | (have := zo_HO2 _ he0; omega) | (have := (HO2).own_lt he0; rcases hi with hi | hi <;> omega))
  replace HPq := ((HPq.ext e20).ext e21).keep k22 (by intro h; have he0 := h; (try dsimp only at h); (try simp only [Value.ownBlock, Option.some.injEq] at h); (try simp only [add_block] at h); (try simp only [add_block] at he0); first | omega | (have := (HO2).own_lt he0; omega) | (have := zo_HO2 _ he0; omega))
  replace HGq := ((HGq.ext e20).ext e21).keep k22 (by intro i _ hi he; have he0 := he; (try dsimp only [NoK, AllB] at hi he); (try simp only [Value.ownBlock, Option.some.injEq] at he); first | exact hi.elim | exact he.elim | omega | (rcases hi with hi | hi <;> omega) | (rcases he with he | he <;> omega) | (have := (HO2).own_lt he0; omega) | (have := zo_HO2 _ he0; omega) | (have := (HO2).own_lt he0; rcases hi with hi | hi <;> omega))
  replace HO20 := HO20.ext e21
  refine l_v (zaI rfl) (l_nil (n_then (⟨(a22, c22, k + 1), _, rfl, by (repeat (first | exact Off.of_over _ _ _ | refine Off.upd ?_ zq _ | refine Off.overs ?_ zq _)), ⟨by first | rfl | exact congrArg (Value.int _) zo | (simp; done), by first | rfl | exact congrArg (Value.int _) zo | (simp; done), trivial⟩, ⟨E, EL1, ?_⟩, ?_⟩)))
  ·
   exact ⟨HO22, by omega⟩
  (dsimp only; omega)
 refine c_exit (x_then (x_then (x_hit (n_then (c_seq (wp_reg zd (l_v (zmS rfl) (l_v (zaS rfl) (l_nil ?_)))))))))
 refine n_then (c_ret (ret1v rfl zq (zvS rfl) ?_))
 have hk : k = l.length := by have := dfalse hc; omega
 subst hk
 rw [List.take_length] at HO2 ⊢
 exact ⟨⟨_, _, rfl⟩, HO2, E⟩
end Go.Proofs.YtogafjlbpodgjaaGreat
