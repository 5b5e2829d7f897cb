/- A part of the proof: steps and lemmas for the walks through the given program. -/
import Derived.Test.YtifnkmflmgnfjaaJ28
import Derived.Test.YtifnkmflmgnfjaaJk
import Derived.Test.YtifnkmflmgnfjaaVc55
namespace Go.Proofs.Ytifnkmflmgnfjaa
open Go.Vc
set_option linter.unusedVariables false
set_option linter.unusedSimpArgs false
set_option maxRecDepth 100000

set_option maxHeartbeats 4000000 in
theorem JudgeDoes_c {w : World} {F : Nat → Prop} {v va : Value} {m : MapV} {a : AkV} (HSm : SlV tPr w F v m) (HGa : AgV tAk w F va a) : CallsR Try.prog 8 #[v, va] w (fun o w' => o = .bool true ∧ Ext w w') := by
 obtain ⟨am, cm, rfl⟩ := HSm.shape
 obtain ⟨a1, c1, a2, c2, a3, c3, a4, c4, rfl, _⟩ := HGa.ak
 obtain ⟨n0, hn0⟩ : ∃ n, n = w.heap.size := ⟨_, rfl⟩
 replace HSm := HSm.lt
 replace HGa := HGa.mono (F' := fun b => F b ∧ b < w.heap.size) fun b hb h => ⟨h, hb⟩
 rw [← hn0] at HSm HGa
 refine enter 118 Try.func8 rfl rfl (by simp) ?_
 refine c_seq ?_
 have E := Keep.refl (K := NoK) w
 refine wp_reg zd (l_to (to_box (zvA rfl) ?_))
 rintro b1 w1 zb1 HB1 e1 z1
 have := e1.size
 try simp only [Value.cells] at HB1
 replace HSm := HSm.ext e1
 refine l_v (v_assign rfl) (l_nil (n_then (c_seq (c_seq (wp_reg zd (l_v (zmS rfl) (l_to (to_f1 zk (zvS rfl) (CallsR.mono (long_c HSm) ?_)))))))))
 rintro _ w101 ⟨rfl, e101⟩
 have := e101.size
 replace HB1 := HB1.ext e101
 refine l_v (zmB rfl) (l_g1 rfl rfl (fun hG => v_loadA zk rfl (by first | exact HB1.pv | assumption) rfl) ?_)
 replace HGa := (HGa.ext e1).ext e101
 refine l_g1f rfl rfl (fun hG => to_f2 zk (gd hG rfl) (zvI rfl) (LongAsk_k HGa)) ?_
 rintro w102 e102
 have := e102.size
 refine l_v (v_or rfl rfl) ?_
 replace E := ((E.trans e1.keep).trans e101.keep).trans e102.keep
 replace HSm := (HSm.ext e101).ext e102
 replace HGa := HGa.ext e102
 replace HB1 := HB1.ext e102
 refine l_nil (n_then (c_cond rfl rfl (fun hc => ?_) (fun hc => ?_)))
 ·
  refine c_seq (wp_reg zd (l_to (to_f0 zk (CallsR.mono (known_c) ?_))))
  rintro _ w103 ⟨rfl, e103⟩
  have := e103.size
  refine l_v (zaB rfl) (l_nil (n_then (c_ret (r_then (ret1v rfl zq (zvB rfl) ?_)))))
  replace E := E.trans e103.keep
  exact ⟨rfl, E⟩
 have hml : muchA 9000 (0, m, []) = false := by cases h : muchA 9000 (0, m, []) <;> simp_all
 have hmo := muchA_ok hml
 simp only [] at hmo
 obtain ⟨hm1, _, hm3⟩ := hmo
 refine c_skip (n_then (c_seq (wp_reg zd (l_v (zmS rfl) (l_v (v_build (pl := [(0, 1), (1, 1), (2, 1)]) (z := .agg #[.int .i64 0, .slice none 0 0, .slice none 0 0]) (zl := [.int .i64 0, .slice none 0 0, .slice none 0 0]) zk (by unfold kZero; kernel_rfl) rfl rfl (cells := [_, _, _]) rfl) ?_)))))
 refine l_to (to_f1 zk (zvA rfl) (CallsR.mono (CopyAnswer_c (AgV.mkAn HSm (SlV.nil _ _ _) ⟨by decide, by decide⟩) (by simp only []; omega) (by simp) (fun p hp => by have := hm3 p hp; omega)) ?_))
 rintro _ w2 ⟨HGo, e2⟩
 have := e2.size
 obtain ⟨o1, d1, o2, d2, rfl, HSo, HFo, _⟩ := HGo.anF
 have HSo : SlV tPr _ _ _ m := Imp.sl (Imp.pair Imp.by Imp.by) HSo
 obtain ⟨n9, hn9⟩ : ∃ n, n = w2.heap.size := ⟨_, rfl⟩
 replace HSo := HSo.mono (F' := fun b => n0 ≤ b ∧ b < n9) fun b hb h => ⟨by omega, by omega⟩
 refine l_v (v_field (off := 1) (ft := 22) zk zk rfl rfl) ?_
 replace HB1 := HB1.ext e2
 refine l_v (zaS rfl) (l_nil (n_then (c_seq (wp_reg zd (l_v (zmS rfl) (l_v (v_loadA zk rfl (by first | exact HB1.pv | assumption) rfl) ?_))))))
 replace HGa := HGa.ext e2
 refine l_to (to_f2 zk (zvS rfl) (zvA rfl) (CallsR.mono (DoB_c (F := fun b => b < n9) (HSo.mono fun b _ h => h.2) (HGa.mono fun b hb h => by omega) zo) ?_))
 rintro _ w3 ⟨u, x, mo, xo, en, rfl, HSu, HGx, hbad, hgood, e3⟩
 have := e3.size
 obtain ⟨u1, u2, rfl⟩ := HSu.shape
 obtain ⟨x1, y1, x2, y2, rfl, _⟩ := HGx.an
 have hmu := HSu.len_max
 obtain ⟨n10, hn10⟩ : ∃ n, n = w3.heap.size := ⟨_, rfl⟩
 replace HSu := HSu.mono (F' := fun b => n9 ≤ b ∧ b < n10) fun b hb h => ⟨by omega, by omega⟩
 have HSr := Imp.sl (Imp.pair Imp.by Imp.by) HSu
 replace HGx := HGx.mono (F' := fun b => b < n10) fun b hb h => by omega
 refine l_v (zmT rfl) (l_v (v_extract (t := .slice _ _ _) rfl rfl) (l_v (v_extract (t := .agg _) rfl rfl) (l_v (v_extract (t := .int _ _) rfl rfl) (l_to (to_alloc (z := (.agg #[.int .i64 0, .slice none 0 0, .slice none 0 0])) (by unfold kZero; kernel_rfl) ?_)))))
 rintro b4 w4 zb4 HB4 e4 z4
 have := e4.size
 try simp only [Value.cells] at HB4
 refine l_v (zaS rfl) (l_to (to_storeA (n := 3) rfl rfl (zvA rfl) zk rfl dj6 HB4 dj5 ?_))
 rintro w104 HX104 k104 z104
 have := k104.size
 replace HB4 := HX104
 clear HX104
 try simp only [zS, Nat.zero_add, Nat.reduceAdd, List.drop_nil] at HB4
 replace HSm := (((HSm.ext e2).ext e3).ext e4).keep k104 dj1
 replace HSo := ((HSo.ext e3).ext e4).keep k104 dj1
 refine l_v (zaI rfl) (l_nil (n_then (c_seq (c_seq (wp_reg zd (l_v (zmS rfl) (l_v (zmS rfl) (l_to (to_f2 zk (zvS rfl) (zvS rfl) (CallsR.mono (SameMap_c HSo HSm) ?_))))))))))
 replace HGa := ((HGa.ext e3).ext e4).keep k104 dj1
 replace HSu := (HSu.ext e4).keep k104 dj1
 replace HGx := (HGx.ext e4).keep k104 dj1
 replace HSr := (HSr.ext e4).keep k104 dj1
 rintro _ w105 ⟨rfl, e105⟩
 have := e105.size
 refine l_v (v_not rfl) ?_
 replace E := ((((E.trans e2.keep).trans e3.keep).trans e4.keep).step k104 dj3).trans e105.keep
 replace HB1 := (((HB1.ext e3).ext e4).keep k104 dj4).ext e105
 replace HSm := HSm.ext e105
 replace HGa := HGa.ext e105
 replace HSo := HSo.ext e105
 replace HSu := HSu.ext e105
 replace HGx := HGx.ext e105
 replace HSr := HSr.ext e105
 replace HB4 := HB4.ext e105
 refine l_nil (n_then (c_cond rfl rfl (fun hc2 => ?_) (fun hc2 => ?_)))
 ·
  simp at hc2
 refine c_skip (n_then (c_seq (c_seq (wp_reg zd (l_v (zmS rfl) (l_to (to_f1 zk (zvS rfl) (CallsR.mono (refMayMap_c HSm) ?_))))))))
 rintro _ w106 ⟨rfl, e106⟩
 have := e106.size
 refine l_v (v_not rfl) ?_
 replace HB1 := HB1.ext e106
 replace HB4 := HB4.ext e106
 refine l_v (zmB rfl) (l_g1 rfl rfl (fun hG => v_loadA zk rfl (by first | exact HB4.pv | exact HB1.pv | assumption) rfl) ?_)
 replace HGa := HGa.ext e106
 refine l_g1f rfl rfl (fun hG => to_f1 zk (gd hG rfl) (refMayAsk_c HGa)) ?_
 rintro w107 e107
 have := e107.size
 refine l_g1 rfl rfl (fun hG => v_not (gd hG rfl)) ?_
 refine l_v (v_or rfl rfl) ?_
 replace E := (E.trans e106.keep).trans e107.keep
 replace HSm := (HSm.ext e106).ext e107
 replace HSo := (HSo.ext e106).ext e107
 replace HSu := (HSu.ext e106).ext e107
 replace HGx := (HGx.ext e106).ext e107
 replace HSr := (HSr.ext e106).ext e107
 replace HGa := HGa.ext e107
 replace HB1 := HB1.ext e107
 replace HB4 := HB4.ext e107
 refine l_nil (n_then (c_cond rfl rfl (fun hc3 => ?_) (fun hc3 => ?_)))
 ·
  obtain ⟨rfl, rfl, rfl⟩ := hbad hc3
  refine c_seq (wp_reg zd (l_v (zmS rfl) (l_v (v_len (et := 50) zk rfl) ?_)))
  refine l_v (v_eql rfl rfl) ?_
  refine l_v (zmB rfl) (l_g1 rfl rfl (fun hG => v_loadA zk rfl (by first | exact HB4.pv | exact HB1.pv | assumption) rfl) ?_)
  refine l_g1 rfl rfl (fun hG => v_build (pl := [(0, 1), (1, 1), (2, 1)]) (z := .agg #[.int .i64 0, .slice none 0 0, .slice none 0 0]) (zl := [.int .i64 0, .slice none 0 0, .slice none 0 0]) zk (by unfold kZero; kernel_rfl) rfl rfl (cells := [_, _, _]) rfl) ?_
  refine l_g1f rfl rfl (fun hG => to_f2 zk (gd hG rfl) (gd hG rfl) (refSameAnswer_c HGx (an0_ag (F := NoK)))) ?_
  rintro w108 e108
  have := e108.size
  refine l_v (v_and rfl rfl) ?_
  refine l_v (zmB rfl) (l_g1 rfl rfl (fun hG => zmI rfl) (l_g1f rfl rfl (fun hG => to_f1 zk (gd hG rfl) (num_c)) ?_))
  rintro w109 e109
  have := e109.size
  refine l_g1 rfl rfl (fun hG => v_eql (gd hG rfl) rfl) ?_
  refine l_v (v_and rfl rfl) ?_
  refine l_v (zmB rfl) (l_g1f rfl rfl (fun hG => to_f0 zk (known_c)) ?_)
  rintro w110 e110
  have := e110.size
  refine l_v (v_and rfl rfl) ?_
  refine l_v (zaB rfl) (l_nil (n_then (c_ret (r_then (ret1v rfl zq (zvB rfl) ?_)))))
  replace E := ((E.trans e108.keep).trans e109.keep).trans e110.keep
  exact ⟨rfl, E⟩
 obtain ⟨hmm, hma, rfl, rfl, rfl⟩ := hgood (by simpa using hc3)
 refine c_skip (n_then (c_seq (wp_reg zd (l_v (zmS rfl) (l_v (v_loadA zk rfl (by first | exact HB4.pv | exact HB1.pv | assumption) rfl) ?_)))))
 refine l_to (to_f2 zk (zvS rfl) (zvA rfl) (CallsR.mono (refDo_c HSm HGa hmm zo hma) ?_))
 rintro _ w7 ⟨p, y, rfl, HSp, HGy, e7⟩
 have := e7.size
 obtain ⟨p1, p2, rfl⟩ := HSp.shape
 obtain ⟨y1, z1, y2, z2, rfl, _⟩ := HGy.an
 obtain ⟨n11, hn11⟩ : ∃ n, n = w7.heap.size := ⟨_, rfl⟩
 replace HSp := HSp.mono (F' := fun b => b < n11) fun b hb h => by omega
 replace HGy := HGy.mono (F' := fun b => b < n11) fun b hb h => by omega
 refine l_v (zmT rfl) (l_v (v_extract (t := .slice _ _ _) rfl rfl) (l_v (v_extract (t := .agg _) rfl rfl) (l_to (to_alloc (z := (.agg #[.int .i64 0, .slice none 0 0, .slice none 0 0])) (by unfold kZero; kernel_rfl) ?_))))
 rintro b5 w5 zb5 HB5 e5 z5
 have := e5.size
 try simp only [Value.cells] at HB5
 refine l_v (zaS rfl) (l_to (to_storeA (n := 3) rfl rfl (zvA rfl) zk rfl dj6 HB5 dj5 ?_))
 rintro w111 HX111 k111 z111
 have := k111.size
 replace HB5 := HX111
 clear HX111
 try simp only [zS, Nat.zero_add, Nat.reduceAdd, List.drop_nil] at HB5
 replace HSr := ((HSr.ext e7).ext e5).keep k111 dj1
 replace HSp := (HSp.ext e5).keep k111 dj1
 refine l_nil (n_then (c_seq (c_seq (wp_reg zd (l_v (zmS rfl) (l_v (zmS rfl) (l_to (to_f2 zk (zvS rfl) (zvS rfl) (CallsR.mono (SameMap_c HSr HSp) ?_)))))))))
 replace HSm := ((HSm.ext e7).ext e5).keep k111 dj1
 replace HGa := ((HGa.ext e7).ext e5).keep k111 dj1
 replace HSo := ((HSo.ext e7).ext e5).keep k111 dj1
 replace HSu := ((HSu.ext e7).ext e5).keep k111 dj1
 replace HGx := ((HGx.ext e7).ext e5).keep k111 dj1
 replace HGy := (HGy.ext e5).keep k111 dj1
 rintro _ w112 ⟨rfl, e112⟩
 have := e112.size
 refine l_v (v_not rfl) ?_
 replace HB1 := (((HB1.ext e7).ext e5).keep k111 dj4).ext e112
 replace HB4 := (((HB4.ext e7).ext e5).keep k111 dj4).ext e112
 replace HB5 := HB5.ext e112
 refine l_v (zmB rfl) (l_g1 rfl rfl (fun hG => v_loadA zk rfl (by first | exact HB5.pv | exact HB4.pv | exact HB1.pv | assumption) rfl) ?_)
 refine l_g1 rfl rfl (fun hG => v_loadA zk rfl (by first | exact HB5.pv | exact HB4.pv | exact HB1.pv | assumption) rfl) ?_
 replace HGx := HGx.ext e112
 replace HGy := HGy.ext e112
 refine l_g1f rfl rfl (fun hG => to_f2 zk (gd hG rfl) (gd hG rfl) (refSameAnswer_c HGx HGy)) ?_
 rintro w113 e113
 have := e113.size
 refine l_g1 rfl rfl (fun hG => v_not (gd hG rfl)) ?_
 refine l_v (v_or rfl rfl) ?_
 refine l_v (zmB rfl) (l_g1 rfl rfl (fun hG => zmI rfl) (l_g1f rfl rfl (fun hG => to_f1 zk (gd hG rfl) (num_c)) ?_))
 rintro w114 e114
 have := e114.size
 refine l_g1 rfl rfl (fun hG => v_neq (gd hG rfl) rfl) ?_
 refine l_v (v_or rfl rfl) ?_
 replace E := (((((E.trans e7.keep).trans e5.keep).step k111 dj3).trans e112.keep).trans e113.keep).trans e114.keep
 replace HSm := ((HSm.ext e112).ext e113).ext e114
 replace HGa := ((HGa.ext e112).ext e113).ext e114
 replace HSo := ((HSo.ext e112).ext e113).ext e114
 replace HSu := ((HSu.ext e112).ext e113).ext e114
 replace HSr := ((HSr.ext e112).ext e113).ext e114
 replace HSp := ((HSp.ext e112).ext e113).ext e114
 replace HB1 := (HB1.ext e113).ext e114
 replace HGx := (HGx.ext e113).ext e114
 replace HB4 := (HB4.ext e113).ext e114
 replace HGy := (HGy.ext e113).ext e114
 replace HB5 := (HB5.ext e113).ext e114
 refine l_nil (n_then (c_cond rfl rfl (fun hc4 => ?_) (fun hc4 => ?_)))
 ·
  simp at hc4
 obtain ⟨o, ho⟩ : ∃ o, o = (doM m a).1 := ⟨_, rfl⟩
 rw [← ho] at HSu hmu ⊢
 refine c_skip (n_then (c_seq (c_seq (wp_reg zd (l_v (v_assign rfl) (l_nil (n_then (c_block (c_loop (τ := Nat × List PrV) [11, 12, 80, 81, 82, 83, 84, 85, 86, 87, 88, 89, 90, 91, 92, 93, 94, 95, 96, 97, 98, 99, 100, 101, 102, 103, 104, 105, 106, 107, 108, 109, 110, 111] (fun (i, ps) => [(11, .int .i64 i)]) (fun (i, ps) W => Ext w W ∧ Keep (fun b => n9 ≤ b ∧ b < n10) w114 W ∧ i ≤ o.length ∧ ps.length = o.length ∧ SlV tPrF W (fun b => n9 ≤ b ∧ b < n10) (.slice u1 o.length u2) ps) (fun (i, ps) => o.length - i) (0, o) (by exact ⟨rfl, trivial⟩) (by exact ⟨E, Keep.refl _, Nat.zero_le _, rfl, HSu⟩) ?_)))))))))
 rintro ⟨i, ps⟩ w115 j ⟨E, EL1, h1, hpl, HSu⟩
 have := EL1.size
 refine c_seq (c_seq (wp_reg zd (l_v (zmI rfl) (l_v (zmS rfl) (l_v (v_len (et := 50) zk rfl) ?_)))))
 refine l_v (v_lss rfl rfl) ?_
 replace HSm := HSm.keep EL1 (by intro i _ hi he; have he0 := he; (try dsimp only [NoK, AllB] at hi he); (try simp only [Value.ownBlock, Option.some.injEq] at he); first | exact hi.elim | exact he.elim | omega | (rcases hi with hi | hi <;> omega) | (rcases he with he | he <;> omega) | (first | omega | (subst he; exact hF3) | (obtain rfl := he; omega)))
 replace HGa := HGa.keep EL1 (by intro i _ hi he; have he0 := he; (try dsimp only [NoK, AllB] at hi he); (try simp only [Value.ownBlock, Option.some.injEq] at he); first | exact hi.elim | exact he.elim | omega | (rcases hi with hi | hi <;> omega) | (rcases he with he | he <;> omega) | (first | omega | (subst he; exact hF3) | (obtain rfl := he; omega)))
 replace HB1 := HB1.keep EL1 (by intro h; have he0 := h; (try dsimp only at h); (try simp only [Value.ownBlock, Option.some.injEq] at h); first | omega | (have he := he0; first | omega | (subst he; exact hF3) | (obtain rfl := he; omega)))
 replace HSo := HSo.keep EL1 (by intro i _ hi he; have he0 := he; (try dsimp only [NoK, AllB] at hi he); (try simp only [Value.ownBlock, Option.some.injEq] at he); first | exact hi.elim | exact he.elim | omega | (rcases hi with hi | hi <;> omega) | (rcases he with he | he <;> omega) | (first | omega | (subst he; exact hF3) | (obtain rfl := he; omega)))
 refine l_nil (n_then (c_cond rfl rfl (fun hlt => ?_) (fun hlt => ?_)))
 ·
  have hlt := dtrue hlt
  obtain ⟨r, hx, _⟩ := getE (l := ps) (i := i) zo
  obtain ⟨q1, cs1, hq1, hF1, _, HP1, hr1⟩ := HSu.el hx
  subst hq1
  obtain ⟨ad, cd, ae, ce, rfl, HFd, HFe⟩ := tPrF_cells hr1
  have hmd := HFe.bv.len_max
  refine c_skip (n_then (c_seq (c_block (c_seq (wp_reg zd (l_v (v_assign rfl) (l_nil (n_then (c_block ?_)))))))))
  refine c_loop (τ := Nat × List UInt8 × List PrV) [12, 86, 87, 88, 89, 90, 91, 92, 93, 94, 95, 96, 97, 98, 99, 100, 101, 102, 103, 104, 105, 106, 107, 108, 109, 110, 111] (fun (k, d, ps2) => [(12, .int .i64 k)]) (fun (k, d, ps2) W => Ext w W ∧ Keep (fun b => n9 ≤ b ∧ b < n10) w115 W ∧ k ≤ r.2.length ∧ d.length = r.2.length ∧ ps2.length = o.length ∧ Pv W (q1.add (i * tPrF.sz)) [.slice ad r.1.length cd, .slice ae r.2.length ce] ∧ BvF W (fun b => n9 ≤ b ∧ b < n10) (.slice ae r.2.length ce) d ∧ SlV tPrF W (fun b => n9 ≤ b ∧ b < n10) (.slice (some q1) o.length u2) ps2) (fun (k, d, ps2) => r.2.length - k) (0, r.2, ps) (by exact ⟨rfl, trivial⟩) (by exact ⟨E, Keep.refl _, Nat.zero_le _, rfl, hpl, HP1, HFe, HSu⟩) ?_
  rintro ⟨k, d, ps2⟩ w116 j ⟨E, EL2, h2, hdl, hpl2, HP2, HFd, HS2⟩
  have := EL2.size
  refine c_seq (c_seq (wp_reg zd (l_v (zmI rfl) (l_v (zmS rfl) (l_v (zmI rfl) (l_v (v_indexAddr (et := 50) (sz := 2) (k := i) zk zk rfl rfl (by first | rfl | omega) zo) ?_))))))
  replace HB1 := HB1.keep EL2 (by intro h; have he0 := h; (try dsimp only at h); (try simp only [Value.ownBlock, Option.some.injEq] at h); first | omega | (have he := he0; first | omega | (subst he; exact hF3) | (obtain rfl := he; omega)))
  refine l_v (v_fieldAddr (off := 1) (ft := 26) zk rfl) (l_v (v_load zk rfl (by first | exact HP2 1 _ rfl | exact pv_1 HP2 | exact HB1.pv 1 _ rfl | assumption)) ?_)
  refine l_v (v_len (et := 5) zk rfl) ?_
  refine l_v (v_lss rfl rfl) ?_
  replace HSm := HSm.keep EL2 (by intro i _ hi he; have he0 := he; (try dsimp only [NoK, AllB] at hi he); (try simp only [Value.ownBlock, Option.some.injEq] at he); first | exact hi.elim | exact he.elim | omega | (rcases hi with hi | hi <;> omega) | (rcases he with he | he <;> omega) | (first | omega | (subst he; exact hF3) | (obtain rfl := he; omega)))
  replace HGa := HGa.keep EL2 (by intro i _ hi he; have he0 := he; (try dsimp only [NoK, AllB] at hi he); (try simp only [Value.ownBlock, Option.some.injEq] at he); first | exact hi.elim | exact he.elim | omega | (rcases hi with hi | hi <;> omega) | (rcases he with he | he <;> omega) | (first | omega | (subst he; exact hF3) | (obtain rfl := he; omega)))
  replace HSo := HSo.keep EL2 (by intro i _ hi he; have he0 := he; (try dsimp only [NoK, AllB] at hi he); (try simp only [Value.ownBlock, Option.some.injEq] at he); first | exact hi.elim | exact he.elim | omega | (rcases hi with hi | hi <;> omega) | (rcases he with he | he <;> omega) | (first | omega | (subst he; exact hF3) | (obtain rfl := he; omega)))
  replace EL1 := EL1.step EL2 (by intro i hi he; have he0 := he; (try dsimp only [NoK] at hi he ⊢); (try simp only [Value.ownBlock, Option.some.injEq] at he); first | exact he.elim | omega | exact he | (first | omega | (subst he; exact hF3) | (obtain rfl := he; omega)))
  refine l_nil (n_then (c_cond rfl rfl (fun hlt3 => ?_) (fun hlt3 => ?_)))
  ·
   have hlt3 := dtrue hlt3
   obtain ⟨r3, hx3, _⟩ := getE (l := d) (i := k) zo
   obtain ⟨q3, cs3, hq3, hF3, _, HP9, hr9⟩ := HFd.bv.el hx3
   subst hq3
   obtain rfl : cs3 = [.int .u8 r3.toNat] := hr9
   obtain ⟨z3, hz3⟩ := xor1 r3
   refine c_skip (n_then (c_seq (c_block (wp_any zk ?_))))
   have e117 : Ext w116 { w116 with drawn := w116.drawn + 1 } := Keep.drawn _ _
   generalize hw117 : ({ w116 with drawn := w116.drawn + 1 } : World) = w117 at e117 ⊢
   clear hw117
   have := e117.size
   refine r_cut 16 rfl zd zd zd ?_
   refine wp_regdW (NoK) zd zd ?_
   refine rt_v (fun vals w hR hd => zmS rfl) ?_
   refine rt_v (fun vals w hR hd => zmI rfl) ?_
   refine rt_v (fun vals w hR hd => v_indexAddr (et := 50) (sz := 2) (k := i) zk zk (hd 0 rfl) (hd 1 rfl) (by first | rfl | omega) zo) ?_
   refine rt_v (fun vals w hR hd => v_fieldAddr (off := 1) (ft := 26) zk (hd 2 rfl)) ?_
   replace HB1 := HB1.ext e117
   replace HP2 := HP2.ext e117
   replace HP9 := HP9.ext e117
   refine rt_v (fun vals w hR hd => v_load zk (hd 3 rfl) (by first | exact (HP9.ext hR) 1 _ rfl | exact pv_1 (HP9.ext hR) | exact (HP2.ext hR) 1 _ rfl | exact pv_1 (HP2.ext hR) | exact (HB1.ext hR).pv 1 _ rfl | assumption)) ?_
   refine rt_v (fun vals w hR hd => zmI rfl) ?_
   refine rt_v (fun vals w hR hd => zmS rfl) ?_
   refine rt_v (fun vals w hR hd => zmI rfl) ?_
   refine rt_v (fun vals w hR hd => v_indexAddr (et := 50) (sz := 2) (k := i) zk zk (hd 6 rfl) (hd 7 rfl) (by first | rfl | omega) zo) ?_
   refine rt_v (fun vals w hR hd => v_fieldAddr (off := 1) (ft := 26) zk (hd 8 rfl)) ?_
   refine rt_v (fun vals w hR hd => v_load zk (hd 9 rfl) (by first | exact (HP9.ext hR) 1 _ rfl | exact pv_1 (HP9.ext hR) | exact (HP2.ext hR) 1 _ rfl | exact pv_1 (HP2.ext hR) | exact (HB1.ext hR).pv 1 _ rfl | assumption)) ?_
   refine rt_v (fun vals w hR hd => zmI rfl) ?_
   refine rt_v (fun vals w hR hd => v_indexAddr (et := 5) (sz := 1) (k := k) zk zk (hd 10 rfl) (hd 11 rfl) (by first | rfl | omega) zo) ?_
   refine rt_v (fun vals w hR hd => v_load zk (hd 12 rfl) (by first | exact pv_1 (HP9.ext hR) | exact pv_1 (HP2.ext hR) | exact (HB1.ext hR).cell rfl | assumption)) ?_
   refine rt_v (fun vals w hR hd => v_xor (t := ((z3.toNat : Nat) : Int)) (hd 13 rfl) rfl (hz3)) ?_
   refine rt_v (fun vals w hR hd => v_indexAddr (et := 5) (sz := 1) (k := k) zk zk (hd 4 rfl) (hd 5 rfl) (by first | rfl | omega) zo) ?_
   refine rt_nil (fun w118 e118 => ?_)
   rintro _ rfl _ rfl _ rfl _ rfl _ rfl _ rfl _ rfl _ rfl _ rfl _ rfl _ rfl _ rfl _ rfl _ rfl _ rfl _ rfl
   have := e118.size
   refine fin_nil (n_then (r_one zd rfl ?_))
   replace HFd := (HFd.ext e117).ext e118
   refine l_to (to_poke (k := k) (z := z3) rfl rfl (zvI rfl) zk HFd zo ?_)
   rintro w30 p30 k30 z30
   have := k30.size
   obtain ⟨d2, hd2, HF30⟩ := BvF.poke HFd p30 hdl
   replace HS2 := (HS2.ext e117).ext e118
   obtain ⟨ps3, hl3, HS30⟩ := Pk.sl pk_prF HS2 p30
   replace HP2 := HP2.ext e118
   obtain ⟨cs30, HP30, hc30⟩ := Pv.poke HP2 p30
   rw [csr_pr hc30] at HP30
   refine l_nil (n_blk (n_then (wp_reg zd (l_v (zmI rfl) (l_v (v_add rfl rfl (by first | exact wr_i64 zo zo | rfl)) ?_)))))
   replace E := ((E.trans e117.keep).trans e118.keep).step k30 (by intro i hi he; have he0 := he; (try dsimp only [NoK] at hi he ⊢); (try simp only [Value.ownBlock, Option.some.injEq] at he); first | exact he.elim | omega | exact he | (first | omega | (subst he; exact hF3) | (obtain rfl := he; omega)))
   replace HSm := ((HSm.ext e117).ext e118).keep k30 (by intro i _ hi he; have he0 := he; (try dsimp only [NoK, AllB] at hi he); (try simp only [Value.ownBlock, Option.some.injEq] at he); first | exact hi.elim | exact he.elim | omega | (rcases hi with hi | hi <;> omega) | (rcases he with he | he <;> omega) | (first | omega | (subst he; exact hF3) | (obtain rfl := he; omega)))
   replace HGa := ((HGa.ext e117).ext e118).keep k30 (by intro i _ hi he; have he0 := he; (try dsimp only [NoK, AllB] at hi he); (try simp only [Value.ownBlock, Option.some.injEq] at he); first | exact hi.elim | exact he.elim | omega | (rcases hi with hi | hi <;> omega) | (rcases he with he | he <;> omega) | (first | omega | (subst he; exact hF3) | (obtain rfl := he; omega)))
   replace HSo := ((HSo.ext e117).ext e118).keep k30 (by intro i _ hi he; have he0 := he; (try dsimp only [NoK, AllB] at hi he); (try simp only [Value.ownBlock, Option.some.injEq] at he); first | exact hi.elim | exact he.elim | omega | (rcases hi with hi | hi <;> omega) | (rcases he with he | he <;> omega) | (first | omega | (subst he; exact hF3) | (obtain rfl := he; omega)))
   replace EL1 := ((EL1.trans e117.keep).trans e118.keep).step k30 (by intro i hi he; have he0 := he; (try dsimp only [NoK] at hi he ⊢); (try simp only [Value.ownBlock, Option.some.injEq] at he); first | exact he.elim | omega | exact he | (first | omega | (subst he; exact hF3) | (obtain rfl := he; omega)))
   replace EL2 := ((EL2.trans e117.keep).trans e118.keep).step k30 (by intro i hi he; have he0 := he; (try dsimp only [NoK] at hi he ⊢); (try simp only [Value.ownBlock, Option.some.injEq] at he); first | exact he.elim | omega | exact he | (first | omega | (subst he; exact hF3) | (obtain rfl := he; omega)))
   replace HB1 := (HB1.ext e118).keep k30 (by intro h; have he0 := h; (try dsimp only at h); (try simp only [Value.ownBlock, Option.some.injEq] at h); first | omega | (have he := he0; first | omega | (subst he; exact hF3) | (obtain rfl := he; omega)))
   replace HP9 := HP9.ext e118
   refine l_v (zaI rfl) (l_nil (n_then (⟨(k + 1, d2, ps3), _, rfl, by (repeat (first | exact Off.of_over _ _ _ | refine Off.upd ?_ zq _ | refine Off.overs ?_ zq _)), ⟨by first | rfl | exact congrArg (Value.int _) zo | (simp; done), trivial⟩, ⟨E, EL2, ?_⟩, ?_⟩)))
   ·
    exact ⟨by omega, hd2, by omega, HP30, HF30, HS30⟩
   (dsimp only; omega)
  refine c_exit (x_then (x_then (x_hit (n_blk (n_then (wp_reg zd (l_v (zmI rfl) (l_v (v_add rfl rfl (by first | exact wr_i64 zo zo | rfl)) ?_))))))))
  refine l_v (zaI rfl) (l_nil (n_then (⟨(i + 1, ps2), _, rfl, by (repeat (first | exact Off.of_over _ _ _ | refine Off.upd ?_ zq _ | refine Off.overs ?_ zq _)), ⟨by first | rfl | exact congrArg (Value.int _) zo | (simp; done), trivial⟩, ⟨E, EL1, ?_⟩, ?_⟩)))
  ·
   exact ⟨by omega, hpl2, HS2⟩
  (dsimp only; omega)
 refine c_exit (x_then (x_then (x_hit (n_then (c_seq (wp_reg zd (l_v (zmS rfl) (l_v (zmS rfl) (l_to (to_f2 zk (zvS rfl) (zvS rfl) (CallsR.mono (SameMap_c HSo HSm) ?_)))))))))))
 rintro _ w119 ⟨rfl, e119⟩
 have := e119.size
 refine l_v (zmB rfl) (l_g1f rfl rfl (fun hG => to_f0 zk (known_c)) ?_)
 rintro w120 e120
 have := e120.size
 refine l_v (v_and rfl rfl) ?_
 refine l_v (zaB rfl) (l_nil (n_then (c_ret (ret1v rfl zq (zvB rfl) ?_))))
 replace E := (E.trans e119.keep).trans e120.keep
 refine ⟨?_, E⟩
 simp
end Go.Proofs.Ytifnkmflmgnfjaa
