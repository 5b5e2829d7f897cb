/- A part of the proof: steps and lemmas for the walks through the given program. -/
import Derived.Test.YtogafjlbpodgjaaGreatC34
import Derived.Test.YtogafjlbpodgjaaGreatVc36
import Derived.Test.YtogafjlbpodgjaaGreatGy
import Derived.Test.YtogafjlbpodgjaaGreatGz
namespace Go.Proofs.YtogafjlbpodgjaaGreat
open Go.Vc
set_option linter.unusedVariables false
set_option linter.unusedSimpArgs false
set_option maxRecDepth 100000

theorem BvF.poke {w w' : World} {F : Nat → Prop} {a : Option Addr} {n c : Nat} {l : List UInt8} (h : BvF w F (.slice a n c) l) (p : Poke w w') (hl : l.length = n) : ∃ l' : List UInt8, l'.length = n ∧ BvF w' F (.slice a n c) l' := by
  obtain ⟨l', h'⟩ := pk_by _ _ _ _ _ _ h p (CsR.refl _)
  refine ⟨l', ?_, h'⟩
  have h2 : BvF w' F (.slice a n c) l' := h'
  obtain ⟨a', c', hs⟩ := h2.bv.shape
  cases hs; rfl
/-- the cells of a command whose bytes may be written -/
theorem _root_.Go.Vc.AgV.cmF {w : World} {F : Nat → Prop} {v : Value} {x : CmV} (h : AgV tCmF w F v x) : ∃ y0 y1 y2 y3 y4 y5 y7 y8 y9 m0 m1 m2 m3 m4 m5 en g a6 c6 a17 c17 a18 c18, v = .agg #[y0, y1, y2, y3, y4, y5, .slice a6 x.2.1.2.2.2.2.2.1.length c6, y7, y8, y9, m0, m1, m2, m3, m4, m5, en, .slice a17 x.2.2.2.2.1.length c17, .slice a18 x.2.2.2.2.2.1.length c18, g] ∧ BvF w F (.slice a6 x.2.1.2.2.2.2.2.1.length c6) x.2.1.2.2.2.2.2.1 ∧ BvF w F (.slice a17 x.2.2.2.2.1.length c17) x.2.2.2.2.1 ∧ BvF w F (.slice a18 x.2.2.2.2.2.1.length c18) x.2.2.2.2.2.1 := by
  obtain ⟨cs, rfl, hr⟩ := h
  obtain ⟨_, _, rfl, ⟨rfl, _⟩, _, _, rfl, h1, _, _, rfl, h2, _, _, rfl, ⟨v3, rfl, h3⟩, _, _, rfl, h4, _, _, rfl, h5, rfl, _⟩ := hr
  obtain ⟨_, _, rfl, ⟨rfl, _⟩, _, _, rfl, ⟨rfl, _⟩, h6⟩ := h1
  obtain ⟨a1, c1, a2, c2, a3, c3, a4, c4, rfl, _, _, h9, _⟩ := tAkF_cells h6
  obtain ⟨a5, c5, a6, c6, rfl, _⟩ := tMv_cells h2
  obtain ⟨a8, c8, rfl, _⟩ := byF_cells h4
  obtain ⟨a9, c9, rfl, _⟩ := byF_cells h5
  exact ⟨_, _, _, _, _, _, _, _, _, _, _, _, _, _, _, _, _, a3, c3, a8, c8, a9, c9, rfl, h9, h4, h5⟩
theorem refCSame_self {w : World} {F G : Nat → Prop} {v u : Value} {a b : CmV} (HG1 : AgV tCm w F v a) (HG2 : AgV tCm w G u b) (h : a = b) : CallsR Tryz.prog 13 #[v, u] w (fun o w' => o = .bool true ∧ Ext w w') := by subst h; exact CallsR.mono (refCSame_c HG1 HG2) fun o w' ⟨h1, h2⟩ => ⟨by rw [h1]; simp, h2⟩
set_option maxHeartbeats 16000000 in
theorem CommandReads_c {w : World} {F0 : Nat → Prop} {v : Value} {l : List UInt8} (HS1 : Bv w F0 v l) : CallsR Tryz.prog 4 #[v] w (fun o w' => o = .bool true ∧ Ext w w') := by
 obtain ⟨a1, c1, rfl⟩ := HS1.shape
 refine enter 88 Tryz.func4 rfl rfl (by simp) ?_
 refine c_seq ?_
 have E := Keep.refl (K := NoK) w
 replace HS1 := HS1.all
 refine wp_reg zd (l_v (v_assign rfl) (l_nil (n_then (c_seq (c_seq (wp_reg zd (l_v (zmS rfl) (l_v (v_len (et := 5) zk rfl) ?_))))))))
 refine l_v (v_gtr rfl rfl) ?_
 refine l_nil (n_then (c_cond rfl rfl (fun hc => ?_) (fun hc => ?_)))
 ·
  refine c_seq (wp_reg zd (l_to (to_f0 zk (CallsR.mono (known_c) ?_))))
  rintro _ w101 ⟨rfl, e101⟩
  have := e101.size
  refine l_v (zaB rfl) (l_nil (n_then (c_ret (r_then (ret1v rfl zq (zvB rfl) ?_)))))
  replace E := E.trans e101.keep
  exact ⟨rfl, E⟩
 have hc := dfalse hc
 have hl : l.length ≤ 60000 := by omega
 refine c_skip (n_then (c_seq (wp_reg zd (l_v (zmS rfl) (l_to (to_appNil (et := 5) (bytes := 1) (F := NoK) zk rfl (zvS rfl) HS1 (fun cs z h => h) zo ?_))))))
 rintro v5 w5 HO5 e5
 have := e5.size
 obtain ⟨a5, c5, rfl⟩ := HO5.shape
 have zo_HO5 := fun (b : Nat) h => HO5.own_lt (b := b) h
 refine l_to (to_slice1 (t := tU8) (et := 5) (bytes := 1) zk zq (zvI rfl) (rep_u8 (F := NoK) (119 : UInt8) rfl) ?_)
 rintro b6 w6 zb6 HO6 e6 z6
 have := e6.size
 have zo_HO6 := fun (b : Nat) h => HO6.own_lt (b := b) h
 replace HO5 := HO5.ext e6
 refine l_to (to_append (et := 5) (bytes := 1) zk (zvS rfl) HO5 (zvS rfl) HO6.view (fun cs z h => h) (by first | omega | (simp; done) | (simp; omega)) (by simp only [maxLen]; first | omega | (simp; done) | (simp; omega)) zo ?_)
 rintro a7 n7 c7 w7 HO7 hn7 k7 h7 i7
 have := k7.size
 have zo_HO7 := fun (b : Nat) h => HO7.own_lt (b := b) h
 have hn7 : n7 = l.length + 1 := by rw [hn7]; simp
 have HS7 : Bv w7 (fun b => b < w7.heap.size) (.slice a7 n7 c7) (l ++ [119]) := HO7.view.all
 replace E := ((E.trans e5.keep).trans e6.keep).step k7 (by intro i hi he; have he0 := he; (try dsimp only [NoK] at hi he ⊢); (try simp only [Value.ownBlock, Option.some.injEq] at he); first | exact he.elim | omega | exact he | (have := (HO5).own_lt he0; omega) | (have := zo_HO5 _ he0; omega) | (have := (HO5).own_lt he0; rcases hi with hi | hi <;> omega))
 replace HS1 := ((HS1.ext e5).ext e6).keep k7 (by intro i _ hi he; have he0 := he; (try dsimp only [NoK, AllB] at hi he); (try simp only [Value.ownBlock, Option.some.injEq] at he); first | exact hi.elim | exact he.elim | omega | (rcases hi with hi | hi <;> omega) | (rcases he with he | he <;> omega) | (have := (HO5).own_lt he0; omega) | (have := zo_HO5 _ he0; omega) | (have := (HO5).own_lt he0; rcases hi with hi | hi <;> omega))
 replace HO6 := HO6.keep k7 (by intro i ho he; have he0 := he; have ho0 := ho; (try dsimp only [NoK] at he); (try simp only [Value.ownBlock, Option.some.injEq, reduceCtorEq] at ho); (try simp only [Value.ownBlock, Option.some.injEq, reduceCtorEq] at he); first | exact he.elim | exact ho.elim | omega | (have := zo_HO6 _ ho0; omega) | (have := (HO5).own_lt he0; omega) | (have := zo_HO5 _ he0; omega) | (have := zo_HO6 _ ho0; have := (HO5).own_lt he0; omega)) (by intro i _ hi _ he; have he0 := he; have hi := hi; have he := he; (try dsimp only [NoK, AllB] at hi he); (try simp only [Value.ownBlock, Option.some.injEq, reduceCtorEq] at he); all_goals first | exact hi.elim | exact hi.1.elim | exact he.elim | omega | (rcases hi with hi | hi <;> omega) | (rcases he with he | he <;> omega) | (have := (HO5).own_lt he0; omega) | (have := zo_HO5 _ he0; omega) | (have := (HO5).own_lt he0; rcases hi with hi | hi <;> omega))
 obtain ⟨n1, hn1⟩ : ∃ n, n = w7.heap.size := ⟨_, rfl⟩
 have hcap7 := HS7.cap
 have hpre : ((l ++ [119]).take l.length).drop 0 = l := by simp
 have HS8 := HS7.sub (l := 0) (h := l.length) zo (by simp)
 rw [hpre] at HS8
 refine l_v (zaS rfl) (l_nil (n_then (c_seq (wp_reg zd (l_v (zmS rfl) (l_v (zmS rfl) (l_v (v_len (et := 5) zk rfl) ?_)))))))
 refine l_v (v_slice (et := 5) (sz := 1) (l := 0) (h := l.length) zk zk rfl rfl ⟨.i64, ((show _ = Value.int _ _ from rfl)).trans (congrArg (Value.int _) zo)⟩ zo zo) ?_
 refine l_to (to_f1 zk (zvS rfl) (CallsR.mono (CRead_c HS8 zo) ?_))
 rintro _ w9 ⟨⟨u9, x9, er9, rfl, HG9, hx9⟩, e9⟩
 have := e9.size
 replace HG9 := HG9.mono (F' := fun i => n1 ≤ i ∧ i < w9.heap.size) fun b hb h => ⟨by omega, hb⟩
 obtain ⟨n2, hn2⟩ : ∃ n, n = w9.heap.size := ⟨_, rfl⟩
 rw [← hn2] at HG9
 obtain ⟨y0, y1, y2, y3, y4, y5, y7, y8, y9, m0, m1, m2, m3, m4, m5, en, g, a6, c6, a17, c17, a18, c18, rfl, HF6, HF17, HF18⟩ := HG9.cmF
 have hmx6 := HF6.bv.len_max
 have hmx17 := HF17.bv.len_max
 have hmx18 := HF18.bv.len_max
 have HG9' := AgV.imp imp_cm HG9
 have hr9 := AgV.rep (cs := [y0, y1, y2, y3, y4, y5, .slice a6 x9.2.1.2.2.2.2.2.1.length c6, y7, y8, y9, m0, m1, m2, m3, m4, m5, en, .slice a17 x9.2.2.2.2.1.length c17, .slice a18 x9.2.2.2.2.2.1.length c18, g]) HG9'
 refine l_v (zmT rfl) (l_v (v_extract (t := .agg _) rfl rfl) (l_v (v_extract (t := .int _ _) rfl rfl) (l_to (to_alloc (z := (.agg #[.int .i64 0, .int .i64 0, .int .i64 0, .int .i64 0, .slice none 0 0, .slice none 0 0, .slice none 0 0, .slice none 0 0, .bool false, .int .i64 0, .int .i64 0, .slice none 0 0, .slice none 0 0, .bool false, .int .i64 0, .int .i64 0, .slice none 0 0, .slice none 0 0, .slice none 0 0, .int .i64 0])) (by unfold kZero; kernel_rfl) ?_))))
 rintro b10 w10 zb10 HB10 e10 z10
 have := e10.size
 try simp only [Value.cells] at HB10
 refine l_to (to_storeA (n := 20) rfl rfl (zvA rfl) zk (tCm.len hr9) (tCm.one hr9) HB10 dj5 ?_)
 rintro w101 HB10 k101 z101
 have := k101.size
 try simp only [zS, Nat.zero_add, Nat.reduceAdd, List.drop_nil] at HB10
 replace HS1 := ((HS1.ext e9).ext e10).keep k101 dj1
 refine l_v (zaI rfl) (l_nil (n_then (c_seq (wp_reg zd (l_v (zmS rfl) (l_to (to_f1 zk (zvS rfl) (CallsR.mono (refCRead_c HS1 zo) ?_))))))))
 replace HS7 := ((HS7.ext e9).ext e10).keep k101 dj1
 replace HG9' := (HG9'.ext e10).keep k101 dj1
 replace HF6 := (HF6.ext e10).keep k101 dj2
 replace HF17 := (HF17.ext e10).keep k101 dj2
 replace HF18 := (HF18.ext e10).keep k101 dj2
 rintro _ w11 ⟨⟨u11, x11, er11, rfl, HG11, hx11⟩, e11⟩
 have := e11.size
 replace E := ((E.trans e9.keep).trans e10.keep).step k101 dj3
 replace HG11 := HG11.mono (F' := fun i => i < w11.heap.size) fun b hb h => hb
 replace HS8 := HS8.ext e9
 obtain ⟨hxx, hee⟩ : x9 = x11 ∧ er9 = er11 := by
  rcases hx9 with ⟨h1, h2⟩ | ⟨h1, h2, h3⟩ <;> rcases hx11 with ⟨h4, h5⟩ | ⟨h4, h5, h6⟩
  ·
   rw [h2] at h5; cases h5; exact ⟨rfl, h1.trans h4.symm⟩
  ·
   rw [h2] at h6; cases h6
  ·
   rw [h3] at h5; cases h5
  exact ⟨h2.trans h5.symm, h1.trans h4.symm⟩
 subst hee
 obtain ⟨p0, p1, p2, p3, p4, p5, p6, p7, p8, p9, p10, p11, p12, p13, p14, p15, p16, p17, p18, p19, rfl⟩ := HG11.cm20
 have hr11 := AgV.rep (cs := [p0, p1, p2, p3, p4, p5, p6, p7, p8, p9, p10, p11, p12, p13, p14, p15, p16, p17, p18, p19]) HG11
 refine l_v (zmT rfl) (l_v (v_extract (t := .agg _) rfl rfl) (l_v (v_extract (t := .int _ _) rfl rfl) (l_to (to_alloc (z := (.agg #[.int .i64 0, .int .i64 0, .int .i64 0, .int .i64 0, .slice none 0 0, .slice none 0 0, .slice none 0 0, .slice none 0 0, .bool false, .int .i64 0, .int .i64 0, .slice none 0 0, .slice none 0 0, .bool false, .int .i64 0, .int .i64 0, .slice none 0 0, .slice none 0 0, .slice none 0 0, .int .i64 0])) (by unfold kZero; kernel_rfl) ?_))))
 rintro b14 w14 zb14 HB14 e14 z14
 have := e14.size
 try simp only [Value.cells] at HB14
 refine l_to (to_storeA (n := 20) rfl rfl (zvA rfl) zk (tCm.len hr11) (tCm.one hr11) HB14 dj5 ?_)
 rintro w141 HB14 k141 z141
 have := k141.size
 try simp only [zS, Nat.zero_add, Nat.reduceAdd, List.drop_nil] at HB14
 replace HB10 := ((HB10.ext e11).ext e14).keep k141 dj4
 refine l_v (zaI rfl) (l_nil (n_then (c_seq (c_seq (wp_reg zd (l_v (v_loadA zk rfl (by first | exact HB14.pv | exact HB10.pv | assumption) rfl) ?_))))))
 refine l_v (v_loadA zk rfl (by first | exact HB14.pv | exact HB10.pv | assumption) rfl) ?_
 replace HG9' := ((HG9'.ext e11).ext e14).keep k141 dj1
 replace HG11 := (HG11.ext e14).keep k141 dj1
 refine l_to (to_f2 zk (zvA rfl) (zvA rfl) (CallsR.mono (refCSame_self HG9' HG11 hxx) ?_))
 replace HS1 := ((HS1.ext e11).ext e14).keep k141 dj1
 replace HS7 := ((HS7.ext e11).ext e14).keep k141 dj1
 replace HF6 := ((HF6.ext e11).ext e14).keep k141 dj2
 replace HF17 := ((HF17.ext e11).ext e14).keep k141 dj2
 replace HF18 := ((HF18.ext e11).ext e14).keep k141 dj2
 rintro _ w102 ⟨rfl, e102⟩
 have := e102.size
 refine l_v (v_not rfl) ?_
 refine l_v (zmB rfl) (l_g1 rfl rfl (fun hG => zmI rfl) (l_g1f rfl rfl (fun hG => to_f1 zk (gd hG rfl) (num_c)) ?_))
 rintro w103 e103
 have := e103.size
 refine l_g1 rfl rfl (fun hG => zmI rfl) (l_g1 rfl rfl (fun hG => v_neq (gd hG rfl) (gd hG rfl)) ?_)
 refine l_v (v_or rfl rfl) ?_
 replace E := ((((E.trans e11.keep).trans e14.keep).step k141 dj3).trans e102.keep).trans e103.keep
 replace HS1 := (HS1.ext e102).ext e103
 replace HS7 := (HS7.ext e102).ext e103
 replace HG9' := (HG9'.ext e102).ext e103
 replace HF6 := (HF6.ext e102).ext e103
 replace HF17 := (HF17.ext e102).ext e103
 replace HF18 := (HF18.ext e102).ext e103
 replace HB10 := (HB10.ext e102).ext e103
 replace HG11 := (HG11.ext e102).ext e103
 replace HB14 := (HB14.ext e102).ext e103
 refine l_nil (n_then (c_cond rfl rfl (fun hs => ?_) (fun hs => ?_)))
 ·
  simp at hs
 refine c_skip (n_then (c_seq (c_seq (wp_reg zd (l_v (v_assign rfl) (l_nil (n_then (c_block (c_loop (τ := Nat × List UInt8 × List UInt8 × List UInt8) [8, 42, 43, 44, 45, 46, 47, 48, 49, 50, 51, 52] (fun (i, s18, s17, s6) => [(8, .int .i64 i)]) (fun (i, s18, s17, s6) W => Ext w W ∧ Keep (fun i => n1 ≤ i ∧ i < n2) w103 W ∧ i ≤ x9.2.2.2.2.2.1.length ∧ s18.length = x9.2.2.2.2.2.1.length ∧ s17.length = x9.2.2.2.2.1.length ∧ s6.length = x9.2.1.2.2.2.2.2.1.length ∧ BvF W (fun i => n1 ≤ i ∧ i < n2) (.slice a18 x9.2.2.2.2.2.1.length c18) s18 ∧ BvF W (fun i => n1 ≤ i ∧ i < n2) (.slice a17 x9.2.2.2.2.1.length c17) s17 ∧ BvF W (fun i => n1 ≤ i ∧ i < n2) (.slice a6 x9.2.1.2.2.2.2.2.1.length c6) s6) (fun (i, s18, s17, s6) => x9.2.2.2.2.2.1.length - i) (0, x9.2.2.2.2.2.1, x9.2.2.2.2.1, x9.2.1.2.2.2.2.2.1) (by exact ⟨rfl, trivial⟩) (by exact ⟨E, Keep.refl _, Nat.zero_le _, rfl, rfl, rfl, HF18, HF17, HF6⟩) ?_)))))))))
 rintro ⟨i, s18, s17, s6⟩ w104 j ⟨E, EL1, h1, hs18, hs17, hs6, HF18, HF17, HF6⟩
 have := EL1.size
 replace HB10 := HB10.keep EL1 dj4
 refine c_seq (c_seq (wp_reg zd (l_v (zmI rfl) (l_v (v_fieldAddr (off := 18) (ft := 24) zk rfl) (l_v (v_load zk rfl (by first | exact HB10.pv 18 _ rfl | assumption)) ?_)))))
 refine l_v (v_len (et := 5) zk rfl) ?_
 refine l_v (v_lss rfl rfl) ?_
 replace HS1 := HS1.keep EL1 dj1
 replace HS7 := HS7.keep EL1 dj1
 refine l_nil (n_then (c_cond rfl rfl (fun hlt => ?_) (fun hlt => ?_)))
 ·
  have hlt := dtrue hlt
  obtain ⟨r, hx, _⟩ := getE (l := s18) (i := i) zo
  obtain ⟨q1, cs1, hq1, hF1, _, _, _⟩ := HF18.bv.el hx
  subst hq1
  refine c_skip (n_then (c_seq (c_block (wp_reg zd (l_v (v_fieldAddr (off := 18) (ft := 24) zk rfl) (l_v (v_load zk rfl (by first | exact HB10.pv 18 _ rfl | assumption)) ?_))))))
  refine l_v (zmI rfl) (l_v (v_indexAddr (et := 5) (sz := 1) (k := i) zk zk rfl rfl (by first | rfl | omega) zo) ?_)
  refine l_to (to_poke (k := i) (z := 102) rfl rfl (zvI rfl) zk HF18 zo ?_)
  rintro w20 p20 k20 z20
  have := k20.size
  obtain ⟨t18, ht18, HF218⟩ := BvF.poke HF18 p20 hs18
  obtain ⟨t17, ht17, HF217⟩ := BvF.poke HF17 p20 hs17
  obtain ⟨t6, ht6, HF26⟩ := BvF.poke HF6 p20 hs6
  refine l_nil (n_blk (n_then (wp_reg zd (l_v (zmI rfl) (l_v (v_add rfl rfl (by first | exact wr_i64 zo zo | rfl)) ?_)))))
  replace E := E.step k20 dj3
  replace HS1 := HS1.keep k20 dj1
  replace HS7 := HS7.keep k20 dj1
  replace HB10 := HB10.keep k20 dj4
  replace EL1 := EL1.step k20 dj3
  refine l_v (zaI rfl) (l_nil (n_then (⟨(i + 1, t18, t17, t6), _, rfl, by (repeat (first | exact Off.of_over _ _ _ | refine Off.upd ?_ zq _ | refine Off.overs ?_ zq _)), ⟨by first | rfl | exact congrArg (Value.int _) zo | (simp; done), trivial⟩, ⟨E, EL1, ?_⟩, ?_⟩)))
  ·
   exact ⟨by omega, ht18, ht17, ht6, HF218, HF217, HF26⟩
  (dsimp only; omega)
 refine c_exit (x_then (x_then (x_hit (n_then (c_seq (c_seq (wp_reg zd (l_v (v_assign rfl) (l_nil ?_)))))))))
 refine n_then (c_block (c_loop (τ := Nat × List UInt8 × List UInt8) [9, 53, 54, 55, 56, 57, 58, 59, 60, 61, 62, 63] (fun (i, s17, s6) => [(9, .int .i64 i)]) (fun (i, s17, s6) W => Ext w W ∧ Keep (fun i => n1 ≤ i ∧ i < n2) w104 W ∧ i ≤ x9.2.2.2.2.1.length ∧ s17.length = x9.2.2.2.2.1.length ∧ s6.length = x9.2.1.2.2.2.2.2.1.length ∧ BvF W (fun i => n1 ≤ i ∧ i < n2) (.slice a17 x9.2.2.2.2.1.length c17) s17 ∧ BvF W (fun i => n1 ≤ i ∧ i < n2) (.slice a6 x9.2.1.2.2.2.2.2.1.length c6) s6) (fun (i, s17, s6) => x9.2.2.2.2.1.length - i) (0, s17, s6) (by exact ⟨rfl, trivial⟩) (by exact ⟨E, Keep.refl _, Nat.zero_le _, hs17, hs6, HF17, HF6⟩) ?_))
 rintro ⟨i, s17, s6⟩ w105 j ⟨E, EL2, h1, hs17, hs6, HF17, HF6⟩
 have := EL2.size
 replace HB10 := HB10.keep EL2 dj4
 refine c_seq (c_seq (wp_reg zd (l_v (zmI rfl) (l_v (v_fieldAddr (off := 17) (ft := 24) zk rfl) (l_v (v_load zk rfl (by first | exact HB10.pv 17 _ rfl | assumption)) ?_)))))
 refine l_v (v_len (et := 5) zk rfl) ?_
 refine l_v (v_lss rfl rfl) ?_
 replace HS1 := HS1.keep EL2 dj1
 replace HS7 := HS7.keep EL2 dj1
 refine l_nil (n_then (c_cond rfl rfl (fun hlt => ?_) (fun hlt => ?_)))
 ·
  have hlt := dtrue hlt
  obtain ⟨r, hx, _⟩ := getE (l := s17) (i := i) zo
  obtain ⟨q1, cs1, hq1, hF1, _, _, _⟩ := HF17.bv.el hx
  subst hq1
  refine c_skip (n_then (c_seq (c_block (wp_reg zd (l_v (v_fieldAddr (off := 17) (ft := 24) zk rfl) (l_v (v_load zk rfl (by first | exact HB10.pv 17 _ rfl | assumption)) ?_))))))
  refine l_v (zmI rfl) (l_v (v_indexAddr (et := 5) (sz := 1) (k := i) zk zk rfl rfl (by first | rfl | omega) zo) ?_)
  refine l_to (to_poke (k := i) (z := 102) rfl rfl (zvI rfl) zk HF17 zo ?_)
  rintro w20 p20 k20 z20
  have := k20.size
  obtain ⟨t17, ht17, HF217⟩ := BvF.poke HF17 p20 hs17
  obtain ⟨t6, ht6, HF26⟩ := BvF.poke HF6 p20 hs6
  refine l_nil (n_blk (n_then (wp_reg zd (l_v (zmI rfl) (l_v (v_add rfl rfl (by first | exact wr_i64 zo zo | rfl)) ?_)))))
  replace E := E.step k20 dj3
  replace HS1 := HS1.keep k20 dj1
  replace HS7 := HS7.keep k20 dj1
  replace HB10 := HB10.keep k20 dj4
  replace EL2 := EL2.step k20 dj3
  refine l_v (zaI rfl) (l_nil (n_then (⟨(i + 1, t17, t6), _, rfl, by (repeat (first | exact Off.of_over _ _ _ | refine Off.upd ?_ zq _ | refine Off.overs ?_ zq _)), ⟨by first | rfl | exact congrArg (Value.int _) zo | (simp; done), trivial⟩, ⟨E, EL2, ?_⟩, ?_⟩)))
  ·
   exact ⟨by omega, ht17, ht6, HF217, HF26⟩
  (dsimp only; omega)
 refine c_exit (x_then (x_then (x_hit (n_then (c_seq (c_seq (wp_reg zd (l_v (v_assign rfl) (l_nil ?_)))))))))
 refine n_then (c_block (c_loop (τ := Nat × List UInt8) [10, 64, 65, 66, 67, 68, 69, 70, 71, 72, 73, 74, 75, 76, 77, 78] (fun (i, s6) => [(10, .int .i64 i)]) (fun (i, s6) W => Ext w W ∧ Keep (fun i => n1 ≤ i ∧ i < n2) w105 W ∧ i ≤ x9.2.1.2.2.2.2.2.1.length ∧ s6.length = x9.2.1.2.2.2.2.2.1.length ∧ BvF W (fun i => n1 ≤ i ∧ i < n2) (.slice a6 x9.2.1.2.2.2.2.2.1.length c6) s6) (fun (i, s6) => x9.2.1.2.2.2.2.2.1.length - i) (0, s6) (by exact ⟨rfl, trivial⟩) (by exact ⟨E, Keep.refl _, Nat.zero_le _, hs6, HF6⟩) ?_))
 rintro ⟨i, s6⟩ w106 j ⟨E, EL3, h1, hs6, HF6⟩
 have := EL3.size
 replace HB10 := HB10.keep EL3 dj4
 refine c_seq (c_seq (wp_reg zd (l_v (zmI rfl) (l_v (v_fieldAddr (off := 1) (ft := 28) zk rfl) (l_v (v_fieldAddr (off := 2) (ft := 26) zk rfl) (l_v (v_fieldAddr (off := 3) (ft := 24) zk rfl) (l_v (v_load zk rfl (by first | exact HB10.pv 6 _ rfl | exact HB10.pv 3 _ rfl | assumption)) ?_)))))))
 refine l_v (v_len (et := 5) zk rfl) ?_
 refine l_v (v_lss rfl rfl) ?_
 replace HS1 := HS1.keep EL3 dj1
 replace HS7 := HS7.keep EL3 dj1
 refine l_nil (n_then (c_cond rfl rfl (fun hlt => ?_) (fun hlt => ?_)))
 ·
  have hlt := dtrue hlt
  obtain ⟨r, hx, _⟩ := getE (l := s6) (i := i) zo
  obtain ⟨q1, cs1, hq1, hF1, _, _, _⟩ := HF6.bv.el hx
  subst hq1
  refine c_skip (n_then (c_seq (c_block (wp_reg zd (l_v (v_fieldAddr (off := 1) (ft := 28) zk rfl) (l_v (v_fieldAddr (off := 2) (ft := 26) zk rfl) (l_v (v_fieldAddr (off := 3) (ft := 24) zk rfl) (l_v (v_load zk rfl (by first | exact HB10.pv 6 _ rfl | exact HB10.pv 3 _ rfl | assumption)) ?_))))))))
  refine l_v (zmI rfl) (l_v (v_indexAddr (et := 5) (sz := 1) (k := i) zk zk rfl rfl (by first | rfl | omega) zo) ?_)
  refine l_to (to_poke (k := i) (z := 102) rfl rfl (zvI rfl) zk HF6 zo ?_)
  rintro w20 p20 k20 z20
  have := k20.size
  obtain ⟨t6, ht6, HF26⟩ := BvF.poke HF6 p20 hs6
  refine l_nil (n_blk (n_then (wp_reg zd (l_v (zmI rfl) (l_v (v_add rfl rfl (by first | exact wr_i64 zo zo | rfl)) ?_)))))
  replace E := E.step k20 dj3
  replace HS1 := HS1.keep k20 dj1
  replace HS7 := HS7.keep k20 dj1
  replace HB10 := HB10.keep k20 dj4
  replace EL3 := EL3.step k20 dj3
  refine l_v (zaI rfl) (l_nil (n_then (⟨(i + 1, t6), _, rfl, by (repeat (first | exact Off.of_over _ _ _ | refine Off.upd ?_ zq _ | refine Off.overs ?_ zq _)), ⟨by first | rfl | exact congrArg (Value.int _) zo | (simp; done), trivial⟩, ⟨E, EL3, ?_⟩, ?_⟩)))
  ·
   exact ⟨by omega, ht6, HF26⟩
  (dsimp only; omega)
 refine c_exit (x_then (x_then (x_hit (n_then (c_seq (wp_reg zd (l_v (zmS rfl) (l_v (v_b2s (et := 5) zk zk zk rfl (by first | exact HS7 | exact HS1 | assumption)) ?_))))))))
 refine l_v (zmS rfl) (l_v (v_b2s (et := 5) zk zk zk rfl (by first | exact HS7 | exact HS1 | assumption)) ?_)
 refine l_v (v_scat rfl rfl (by first | omega | (simp; omega))) ?_
 refine l_v (v_seq rfl rfl) ?_
 refine l_v (zmB rfl) (l_g1f rfl rfl (fun hG => to_f0 zk (known_c)) ?_)
 rintro w107 e107
 have := e107.size
 refine l_v (v_and rfl rfl) ?_
 refine l_v (zaB rfl) (l_nil (n_then (c_ret (ret1v rfl zq (zvB rfl) ?_))))
 replace E := E.trans e107.keep
 refine ⟨?_, E⟩
 simp
end Go.Proofs.YtogafjlbpodgjaaGreat
