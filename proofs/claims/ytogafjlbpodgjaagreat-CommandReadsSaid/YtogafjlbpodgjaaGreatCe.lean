/- A part of the proof: steps and lemmas for the walks through the given program. -/
import Derived.Test.YtogafjlbpodgjaaGreatC17
namespace Go.Proofs.YtogafjlbpodgjaaGreat
open Go.Vc
set_option linter.unusedVariables false
set_option linter.unusedSimpArgs false
set_option maxRecDepth 100000
theorem num_c {w : World} {n : Int} : CallsR Tryz.prog 9 #[.int .i64 n] w (fun o w' => o = .int .i64 n ∧ Ext w w') := by
  refine enter 4 Tryz.func9 rfl rfl (by simp) ?_
  refine c_seq ?_
  have E := Keep.refl (K := NoK) w
  refine wp_reg zd (l_v (v_assign rfl) (l_nil (n_then (c_seq (wp_reg zd (l_v (zmI rfl) (l_v (zaI rfl) (l_nil (n_then ?_)))))))))
  refine c_ret (ret1v rfl zq (zvI rfl) ?_)
  exact ⟨rfl, E⟩
abbrev kC1 : CmV := (1, rq0, mv0, [], [], [], 0)
abbrev kC2 : CmV := (6, rq0, mv0, [], [], [97], 0)
abbrev kC3 : CmV := (2, (1, 2, (1, [107], [], [], [], false, 0)), mv0, [], [], [], 0)
theorem kB1 : cmW kC1 = [1] := by kernel_rfl
theorem kB2 : cmW kC2 = [6, 1, 97] := by kernel_rfl
theorem kB3 : cmW kC3 = [2, 1, 2, 1, 1, 107] := by kernel_rfl
theorem kM1 : mayCm kC1 = true := by kernel_rfl
theorem kM2 : mayCm kC2 = true := by kernel_rfl
theorem kM3 : mayCm kC3 = true := by kernel_rfl
theorem kR1 : rdAll [1, 0] = none := by rfl
theorem kR2 : rdAll [11] = none := by rfl
theorem kA1 : mayAk (4, [107], [], [], [120], true, 0) = false := by kernel_rfl
theorem kA2 : mayAk (5, [], [], [], [], false, 33) = false := by kernel_rfl
theorem kV1 : mayMv (1, [97], [97], true, 1, 2) = false := by kernel_rfl
theorem CBytes_k {w : World} {F : Nat → Prop} {v : Value} {c : CmV} {l : List UInt8} (HG0 : AgV tCm w F v c) (hm : mayCm c = true) (hl : cmW c = l) : CallsR Tryz.prog 7 #[v] w (fun o w' => (∃ q d, o = .tuple #[.slice (some q) l.length d, .int .i64 0] ∧ Bv w' (fun i => w.heap.size ≤ i) (.slice (some q) l.length d) l) ∧ Ext w w') := by subst hl; exact CBytes_t HG0 hm
theorem CRead_z {w : World} {F : Nat → Prop} {v : Value} {l : List UInt8} (HS1 : Bv w F v l) (hl : l.length ≤ 1000000) (hn : rdAll l = none) : CallsR Tryz.prog 11 #[v] w (fun o w' => (∃ a1 c1 a2 c2 a3 c3 a4 c4 a5 c5 a6 c6 a7 c7 a8 c8 a9 c9, o = .tuple #[.agg #[.int .i64 0, .int .i64 0, .int .i64 0, .int .i64 0, .slice a1 0 c1, .slice a2 0 c2, .slice a3 0 c3, .slice a4 0 c4, .bool false, .int .i64 0, .int .i64 0, .slice a5 0 c5, .slice a6 0 c6, .bool false, .int .i64 0, .int .i64 0, .slice a7 0 c7, .slice a8 0 c8, .slice a9 0 c9, .int .i64 0], .int .i64 4]) ∧ Ext w w') := by
  refine CallsR.mono (CRead_c HS1 hl) fun o w' ⟨⟨u, c, e, ho, HG, h⟩, e1⟩ => ⟨?_, e1⟩
  rcases h with ⟨_, h⟩ | ⟨rfl, rfl, _⟩
  · rw [hn] at h; cases h
  · obtain ⟨a1, c1, a2, c2, a3, c3, a4, c4, a5, c5, a6, c6, a7, c7, a8, c8, a9, c9, rfl, _⟩ := AgV.cm (HG.imp imp_cm)
    exact ⟨a1, c1, a2, c2, a3, c3, a4, c4, a5, c5, a6, c6, a7, c7, a8, c8, a9, c9, ho⟩
theorem MayAsk_k {w : World} {F : Nat → Prop} {v : Value} {a : AkV} {b : Bool} (HG1 : AgV tAk w F v a) (hb : mayAk a = b) : CallsR Tryz.prog 15 #[v] w (fun o w' => o = .bool b ∧ Ext w w') := by subst hb; exact MayAsk_c HG1
theorem MayMove_k {w : World} {F : Nat → Prop} {v : Value} {a : MvV} {b : Bool} (HG1 : AgV tMv w F v a) (hb : mayMv a = b) : CallsR Tryz.prog 16 #[v] w (fun o w' => o = .bool b ∧ Ext w w') := by subst hb; exact MayMove_c HG1
set_option maxHeartbeats 8000000 in
theorem known_c {w : World} : CallsR Tryz.prog 6 #[] w (fun o w' => o = .bool true ∧ Ext w w') := by
 refine enter 103 Tryz.func6 rfl rfl (by simp) ?_
 refine c_seq ?_
 have E := Keep.refl (K := NoK) w
 refine wp_reg zd (l_v (v_assign rfl) (l_nil (n_then (c_seq (wp_reg zd (l_v (v_build (pl := [(0, 1), (1, 9), (10, 6), (16, 1), (17, 1), (18, 1), (19, 1)]) (z := .agg #[.int .i64 0, .int .i64 0, .int .i64 0, .int .i64 0, .slice none 0 0, .slice none 0 0, .slice none 0 0, .slice none 0 0, .bool false, .int .i64 0, .int .i64 0, .slice none 0 0, .slice none 0 0, .bool false, .int .i64 0, .int .i64 0, .slice none 0 0, .slice none 0 0, .slice none 0 0, .int .i64 0]) (zl := [.int .i64 0, .int .i64 0, .int .i64 0, .int .i64 0, .slice none 0 0, .slice none 0 0, .slice none 0 0, .slice none 0 0, .bool false, .int .i64 0, .int .i64 0, .slice none 0 0, .slice none 0 0, .bool false, .int .i64 0, .int .i64 0, .slice none 0 0, .slice none 0 0, .slice none 0 0, .int .i64 0]) zk (by unfold kZero; kernel_rfl) rfl rfl (cells := [_, _, _, _, _, _, _, _, _, _, _, _, _, _, _, _, _, _, _, _]) rfl) ?_))))))
 refine l_to (to_f1 zk (zvA rfl) (CallsR.mono (CBytes_k (AgV.mkCm (F := NoK) ⟨by decide, by decide⟩ rq0_ag mv0_ag (SlV.nil _ _ _) (SlV.nil _ _ _) (SlV.nil _ _ _) ⟨by decide, by decide⟩) kM1 kB1) ?_))
 rintro _ w1 ⟨⟨q1, d1, rfl, HS1⟩, e1⟩
 have := e1.size
 replace HS1 := HS1.all
 refine l_v (zmT rfl) (l_v (v_extract (t := .slice _ _ _) rfl rfl) (l_v (v_extract (t := .int _ _) rfl rfl) (l_v (zaS rfl) (l_v (zaI rfl) (l_nil (n_then (c_seq (wp_reg zd (l_to (to_slice1 (t := tU8) (et := 5) (bytes := 1) zk zq (zvI rfl) (rep_u8 (F := NoK) 97 rfl) ?_))))))))))
 rintro b2 w2 zb2 HO2 e2 z2
 have := e2.size
 have zo_HO2 := fun (b : Nat) h => HO2.own_lt (b := b) h
 refine l_to (to_cvLit (et := 5) zk zk rfl HO2 ?_)
 rintro w102 HS2 k102 z102
 have := k102.size
 refine l_v (v_build (pl := [(0, 1), (1, 9), (10, 6), (16, 1), (17, 1), (18, 1), (19, 1)]) (z := .agg #[.int .i64 0, .int .i64 0, .int .i64 0, .int .i64 0, .slice none 0 0, .slice none 0 0, .slice none 0 0, .slice none 0 0, .bool false, .int .i64 0, .int .i64 0, .slice none 0 0, .slice none 0 0, .bool false, .int .i64 0, .int .i64 0, .slice none 0 0, .slice none 0 0, .slice none 0 0, .int .i64 0]) (zl := [.int .i64 0, .int .i64 0, .int .i64 0, .int .i64 0, .slice none 0 0, .slice none 0 0, .slice none 0 0, .slice none 0 0, .bool false, .int .i64 0, .int .i64 0, .slice none 0 0, .slice none 0 0, .bool false, .int .i64 0, .int .i64 0, .slice none 0 0, .slice none 0 0, .slice none 0 0, .int .i64 0]) zk (by unfold kZero; kernel_rfl) rfl rfl (cells := [_, _, _, _, _, _, _, _, _, _, _, _, _, _, _, _, _, _, _, _]) rfl) ?_
 refine l_to (to_f1 zk (zvA rfl) (CallsR.mono (CBytes_k (AgV.mkCm ⟨by decide, by decide⟩ rq0_ag mv0_ag (SlV.nil _ _ _) (SlV.nil _ _ _) HS2 ⟨by decide, by decide⟩) kM2 kB2) ?_))
 replace HS1 := (HS1.ext e2).keep k102 dj1
 rintro _ w3 ⟨⟨q3, d3, rfl, HS3⟩, e3⟩
 have := e3.size
 replace HS3 := HS3.all
 refine l_v (zmT rfl) (l_v (v_extract (t := .slice _ _ _) rfl rfl) (l_v (v_extract (t := .int _ _) rfl rfl) (l_v (zaS rfl) (l_v (zaI rfl) (l_nil (n_then (c_seq (wp_reg zd (l_to (to_slice1 (t := tU8) (et := 5) (bytes := 1) zk zq (zvI rfl) (rep_u8 (F := NoK) 107 rfl) ?_))))))))))
 rintro b4 w4 zb4 HO4 e4 z4
 have := e4.size
 have zo_HO4 := fun (b : Nat) h => HO4.own_lt (b := b) h
 refine l_to (to_cvLit (et := 5) zk zk rfl HO4 ?_)
 rintro w104 HS4 k104 z104
 have := k104.size
 refine l_v (v_build (pl := [(0, 1), (1, 1), (2, 1), (3, 1), (4, 1), (5, 1), (6, 1)]) (z := .agg #[.int .i64 0, .slice none 0 0, .slice none 0 0, .slice none 0 0, .slice none 0 0, .bool false, .int .i64 0]) (zl := [.int .i64 0, .slice none 0 0, .slice none 0 0, .slice none 0 0, .slice none 0 0, .bool false, .int .i64 0]) zk (by unfold kZero; kernel_rfl) rfl rfl (cells := [_, _, _, _, _, _, _]) rfl) ?_
 refine l_v (v_build (pl := [(0, 1), (1, 1), (2, 7)]) (z := .agg #[.int .i64 0, .int .i64 0, .int .i64 0, .slice none 0 0, .slice none 0 0, .slice none 0 0, .slice none 0 0, .bool false, .int .i64 0]) (zl := [.int .i64 0, .int .i64 0, .int .i64 0, .slice none 0 0, .slice none 0 0, .slice none 0 0, .slice none 0 0, .bool false, .int .i64 0]) zk (by unfold kZero; kernel_rfl) rfl rfl (cells := [_, _, _, _, _, _, _, _, _]) rfl) ?_
 refine l_v (v_build (pl := [(0, 1), (1, 9), (10, 6), (16, 1), (17, 1), (18, 1), (19, 1)]) (z := .agg #[.int .i64 0, .int .i64 0, .int .i64 0, .int .i64 0, .slice none 0 0, .slice none 0 0, .slice none 0 0, .slice none 0 0, .bool false, .int .i64 0, .int .i64 0, .slice none 0 0, .slice none 0 0, .bool false, .int .i64 0, .int .i64 0, .slice none 0 0, .slice none 0 0, .slice none 0 0, .int .i64 0]) (zl := [.int .i64 0, .int .i64 0, .int .i64 0, .int .i64 0, .slice none 0 0, .slice none 0 0, .slice none 0 0, .slice none 0 0, .bool false, .int .i64 0, .int .i64 0, .slice none 0 0, .slice none 0 0, .bool false, .int .i64 0, .int .i64 0, .slice none 0 0, .slice none 0 0, .slice none 0 0, .int .i64 0]) zk (by unfold kZero; kernel_rfl) rfl rfl (cells := [_, _, _, _, _, _, _, _, _, _, _, _, _, _, _, _, _, _, _, _]) rfl) ?_
 refine l_to (to_f1 zk (zvA rfl) (CallsR.mono (CBytes_k (AgV.mkCm ⟨by decide, by decide⟩ (AgV.mkRq (tAk_mk HS4 (SlV.nil _ _ _) (SlV.nil _ _ _) (SlV.nil _ _ _) ⟨by decide, by decide⟩ ⟨by decide, by decide⟩) ⟨by decide, by decide⟩ ⟨by decide, by decide⟩) mv0_ag (SlV.nil _ _ _) (SlV.nil _ _ _) (SlV.nil _ _ _) ⟨by decide, by decide⟩) kM3 kB3) ?_))
 replace HS1 := ((HS1.ext e3).ext e4).keep k104 dj1
 replace HS3 := (HS3.ext e4).keep k104 dj1
 rintro _ w5 ⟨⟨q5, d5, rfl, HS5⟩, e5⟩
 have := e5.size
 replace HS5 := HS5.all
 refine l_v (zmT rfl) (l_v (v_extract (t := .slice _ _ _) rfl rfl) (l_v (v_extract (t := .int _ _) rfl rfl) (l_v (zaS rfl) (l_v (zaI rfl) (l_nil (n_then (c_seq (wp_reg zd (l_to (to_sliceN (t := tU8) (xs := [1, 0]) (et := 5) (bytes := 1) (zl := [.int .u8 0, .int .u8 0]) zk zq zq (by unfold kZeros; kernel_rfl) rfl (cells := [_, _]) rfl rfl rfl (reps2 (rep_u8 (F := NoK) 1 rfl) (rep_u8 (F := NoK) 0 rfl)) ?_))))))))))
 rintro b10 w10 zb10 HO10 e10 z10
 have := e10.size
 have zo_HO10 := fun (b : Nat) h => HO10.own_lt (b := b) h
 refine l_to (to_f1 zk (zvS rfl) (CallsR.mono (CRead_z HO10.view zq kR1) ?_))
 rintro _ w11 ⟨⟨a10x0, c10x0, a10x1, c10x1, a10x2, c10x2, a10x3, c10x3, a10x4, c10x4, a10x5, c10x5, a10x6, c10x6, a10x7, c10x7, a10x8, c10x8, rfl⟩, e11⟩
 have := e11.size
 refine l_v (zmT rfl) (l_v (v_extract (t := .agg _) rfl rfl) (l_v (v_extract (t := .int _ _) rfl rfl) (l_to (to_alloc (z := (.agg #[.int .i64 0, .int .i64 0, .int .i64 0, .int .i64 0, .slice none 0 0, .slice none 0 0, .slice none 0 0, .slice none 0 0, .bool false, .int .i64 0, .int .i64 0, .slice none 0 0, .slice none 0 0, .bool false, .int .i64 0, .int .i64 0, .slice none 0 0, .slice none 0 0, .slice none 0 0, .int .i64 0])) (by unfold kZero; kernel_rfl) ?_))))
 rintro b12 w12 zb12 HB12 e12 z12
 have := e12.size
 try simp only [Value.cells] at HB12
 refine l_to (to_storeA (n := 20) rfl rfl (zvA rfl) zk rfl dj6 HB12 dj5 ?_)
 rintro w101 HX101 k101 z101
 have := k101.size
 replace HB12 := HX101
 clear HX101
 try simp only [zS, Nat.zero_add, Nat.reduceAdd, List.drop_nil] at HB12
 refine l_v (zaI rfl) (l_nil (n_then (c_seq (wp_reg zd (l_to (to_slice1 (t := tU8) (et := 5) (bytes := 1) zk zq (zvI rfl) (rep_u8 (F := NoK) 11 rfl) ?_))))))
 rintro b20 w20 zb20 HO20 e20 z20
 have := e20.size
 have zo_HO20 := fun (b : Nat) h => HO20.own_lt (b := b) h
 refine l_to (to_f1 zk (zvS rfl) (CallsR.mono (CRead_z HO20.view zq kR2) ?_))
 replace HS1 := (((((HS1.ext e5).ext e10).ext e11).ext e12).keep k101 dj1).ext e20
 replace HS3 := (((((HS3.ext e5).ext e10).ext e11).ext e12).keep k101 dj1).ext e20
 replace HS5 := ((((HS5.ext e10).ext e11).ext e12).keep k101 dj1).ext e20
 rintro _ w21 ⟨⟨a20x0, c20x0, a20x1, c20x1, a20x2, c20x2, a20x3, c20x3, a20x4, c20x4, a20x5, c20x5, a20x6, c20x6, a20x7, c20x7, a20x8, c20x8, rfl⟩, e21⟩
 have := e21.size
 refine l_v (zmT rfl) (l_v (v_extract (t := .agg _) rfl rfl) (l_v (v_extract (t := .int _ _) rfl rfl) (l_to (to_alloc (z := (.agg #[.int .i64 0, .int .i64 0, .int .i64 0, .int .i64 0, .slice none 0 0, .slice none 0 0, .slice none 0 0, .slice none 0 0, .bool false, .int .i64 0, .int .i64 0, .slice none 0 0, .slice none 0 0, .bool false, .int .i64 0, .int .i64 0, .slice none 0 0, .slice none 0 0, .slice none 0 0, .int .i64 0])) (by unfold kZero; kernel_rfl) ?_))))
 rintro b22 w22 zb22 HB22 e22 z22
 have := e22.size
 try simp only [Value.cells] at HB22
 refine l_to (to_storeA (n := 20) rfl rfl (zvA rfl) zk rfl dj6 HB22 dj5 ?_)
 replace E := (((((((((((((E.trans e1.keep).trans e2.keep).step k102 dj3).trans e3.keep).trans e4.keep).step k104 dj3).trans e5.keep).trans e10.keep).trans e11.keep).trans e12.keep).step k101 dj3).trans e20.keep).trans e21.keep).trans e22.keep
 rintro w102 HX102 k102 z102
 have := k102.size
 replace HB22 := HX102
 clear HX102
 try simp only [zS, Nat.zero_add, Nat.reduceAdd, List.drop_nil] at HB22
 refine l_v (zaI rfl) (l_nil (n_then (c_seq (wp_reg zd (l_to (to_slice1 (t := tU8) (et := 5) (bytes := 1) zk zq (zvI rfl) (rep_u8 (F := NoK) 107 rfl) ?_))))))
 rintro b30 w30 zb30 HO30 e30 z30
 have := e30.size
 have zo_HO30 := fun (b : Nat) h => HO30.own_lt (b := b) h
 refine l_to (to_cvLit (et := 5) zk zk rfl HO30 ?_)
 rintro w130 HS30 k130 z130
 have := k130.size
 refine l_to (to_slice1 (t := tU8) (et := 5) (bytes := 1) zk zq (zvI rfl) (rep_u8 (F := NoK) 120 rfl) ?_)
 rintro b31 w31 zb31 HO31 e31 z31
 have := e31.size
 have zo_HO31 := fun (b : Nat) h => HO31.own_lt (b := b) h
 refine l_to (to_cvLit (et := 5) zk zk rfl HO31 ?_)
 rintro w131 HS31 k131 z131
 have := k131.size
 refine l_v (v_build (pl := [(0, 1), (1, 1), (2, 1), (3, 1), (4, 1), (5, 1), (6, 1)]) (z := .agg #[.int .i64 0, .slice none 0 0, .slice none 0 0, .slice none 0 0, .slice none 0 0, .bool false, .int .i64 0]) (zl := [.int .i64 0, .slice none 0 0, .slice none 0 0, .slice none 0 0, .slice none 0 0, .bool false, .int .i64 0]) zk (by unfold kZero; kernel_rfl) rfl rfl (cells := [_, _, _, _, _, _, _]) rfl) ?_
 refine l_to (to_alloc (z := (.agg #[.int .i64 0, .slice none 0 0, .slice none 0 0, .slice none 0 0, .slice none 0 0, .bool false, .int .i64 0])) (by unfold kZero; kernel_rfl) ?_)
 rintro b32 w32 zb32 HB32 e32 z32
 have := e32.size
 try simp only [Value.cells] at HB32
 refine l_to (to_storeA (n := 7) rfl rfl (zvA rfl) zk rfl dj6 HB32 dj5 ?_)
 rintro w103 HX103 k103 z103
 have := k103.size
 replace HB32 := HX103
 clear HX103
 try simp only [zS, Nat.zero_add, Nat.reduceAdd, List.drop_nil] at HB32
 refine l_nil (n_then (c_seq (wp_reg zd (l_to (to_slice1 (t := tU8) (et := 5) (bytes := 1) zk zq (zvI rfl) (rep_u8 (F := NoK) 97 rfl) ?_)))))
 rintro b33 w33 zb33 HO33 e33 z33
 have := e33.size
 have zo_HO33 := fun (b : Nat) h => HO33.own_lt (b := b) h
 refine l_to (to_cvLit (et := 5) zk zk rfl HO33 ?_)
 rintro w133 HS33 k133 z133
 have := k133.size
 refine l_to (to_slice1 (t := tU8) (et := 5) (bytes := 1) zk zq (zvI rfl) (rep_u8 (F := NoK) 97 rfl) ?_)
 rintro b34 w34 zb34 HO34 e34 z34
 have := e34.size
 have zo_HO34 := fun (b : Nat) h => HO34.own_lt (b := b) h
 refine l_to (to_cvLit (et := 5) zk zk rfl HO34 ?_)
 rintro w134 HS34 k134 z134
 have := k134.size
 refine l_v (v_build (pl := [(0, 1), (1, 1), (2, 1), (3, 1), (4, 1), (5, 1)]) (z := .agg #[.int .i64 0, .slice none 0 0, .slice none 0 0, .bool false, .int .i64 0, .int .i64 0]) (zl := [.int .i64 0, .slice none 0 0, .slice none 0 0, .bool false, .int .i64 0, .int .i64 0]) zk (by unfold kZero; kernel_rfl) rfl rfl (cells := [_, _, _, _, _, _]) rfl) ?_
 refine l_to (to_alloc (z := (.agg #[.int .i64 0, .slice none 0 0, .slice none 0 0, .bool false, .int .i64 0, .int .i64 0])) (by unfold kZero; kernel_rfl) ?_)
 rintro b35 w35 zb35 HB35 e35 z35
 have := e35.size
 try simp only [Value.cells] at HB35
 refine l_to (to_storeA (n := 6) rfl rfl (zvA rfl) zk rfl dj6 HB35 dj5 ?_)
 rintro w104 HX104 k104 z104
 have := k104.size
 replace HB35 := HX104
 clear HX104
 try simp only [zS, Nat.zero_add, Nat.reduceAdd, List.drop_nil] at HB35
 replace HS1 := ((((((((((((((HS1.ext e21).ext e22).keep k102 dj1).ext e30).keep k130 dj1).ext e31).keep k131 dj1).ext e32).keep k103 dj1).ext e33).keep k133 dj1).ext e34).keep k134 dj1).ext e35).keep k104 dj1
 refine l_nil (n_then (c_seq (wp_reg zd (l_v (zmS rfl) (l_v (v_b2s (et := 5) zk zk zk rfl HS1) ?_)))))
 refine l_v (OpVat.as (b := true) (v_seq rfl rfl) zq) ?_
 refine l_v (zmB rfl) (l_gt rfl rfl (OpTo.of_v (zmS rfl) ?_))
 replace HS3 := ((((((((((((((HS3.ext e21).ext e22).keep k102 dj1).ext e30).keep k130 dj1).ext e31).keep k131 dj1).ext e32).keep k103 dj1).ext e33).keep k133 dj1).ext e34).keep k134 dj1).ext e35).keep k104 dj1
 refine l_gt rfl rfl (OpTo.of_v (v_b2s (et := 5) zk zk zk rfl HS3) ?_)
 refine l_gt rfl rfl (OpTo.of_v (OpVat.as (b := true) (v_seq rfl rfl) zq) ?_)
 refine l_v (v_andT rfl rfl) ?_
 refine l_v (zmB rfl) (l_gt rfl rfl (OpTo.of_v (zmS rfl) ?_))
 replace HS5 := ((((((((((((((HS5.ext e21).ext e22).keep k102 dj1).ext e30).keep k130 dj1).ext e31).keep k131 dj1).ext e32).keep k103 dj1).ext e33).keep k133 dj1).ext e34).keep k134 dj1).ext e35).keep k104 dj1
 refine l_gt rfl rfl (OpTo.of_v (v_b2s (et := 5) zk zk zk rfl HS5) ?_)
 refine l_gt rfl rfl (OpTo.of_v (OpVat.as (b := true) (v_seq rfl rfl) zq) ?_)
 refine l_v (v_andT rfl rfl) ?_
 refine l_v (zmB rfl) (l_gt rfl rfl (OpTo.of_v (zmI rfl) ?_))
 refine l_gt rfl rfl (to_f1 zk (zvI rfl) (CallsR.mono (num_c) ?_))
 replace HS30 := (((((((((HS30.ext e31).keep k131 dj1).ext e32).keep k103 dj1).ext e33).keep k133 dj1).ext e34).keep k134 dj1).ext e35).keep k104 dj1
 replace HS31 := (((((((HS31.ext e32).keep k103 dj1).ext e33).keep k133 dj1).ext e34).keep k134 dj1).ext e35).keep k104 dj1
 replace HS33 := (((HS33.ext e34).keep k134 dj1).ext e35).keep k104 dj1
 replace HS34 := (HS34.ext e35).keep k104 dj1
 rintro _ w105 ⟨rfl, e105⟩
 have := e105.size
 refine l_gt rfl rfl (OpTo.of_v (zmI rfl) ?_)
 refine l_gt rfl rfl (to_f1 zk (zvI rfl) (CallsR.mono (num_c) ?_))
 rintro _ w106 ⟨rfl, e106⟩
 have := e106.size
 refine l_gt rfl rfl (OpTo.of_v (v_add rfl rfl (by first | exact wr_i64 zo zo | rfl)) ?_)
 refine l_gt rfl rfl (OpTo.of_v (zmI rfl) ?_)
 refine l_gt rfl rfl (to_f1 zk (zvI rfl) (CallsR.mono (num_c) ?_))
 rintro _ w107 ⟨rfl, e107⟩
 have := e107.size
 refine l_gt rfl rfl (OpTo.of_v (v_add rfl rfl (by first | exact wr_i64 zo zo | rfl)) ?_)
 refine l_gt rfl rfl (OpTo.of_v (OpVat.as (b := true) (v_eql rfl rfl) zq) ?_)
 refine l_v (v_andT rfl rfl) ?_
 refine l_v (zmB rfl) (l_gt rfl rfl (OpTo.of_v (zmI rfl) ?_))
 refine l_gt rfl rfl (to_f1 zk (zvI rfl) (CallsR.mono (num_c) ?_))
 rintro _ w108 ⟨rfl, e108⟩
 have := e108.size
 refine l_gt rfl rfl (OpTo.of_v (OpVat.as (b := true) (v_eql rfl rfl) zq) ?_)
 refine l_v (v_andT rfl rfl) ?_
 refine l_v (zmB rfl) (l_gt rfl rfl (OpTo.of_v (zmI rfl) ?_))
 refine l_gt rfl rfl (to_f1 zk (zvI rfl) (CallsR.mono (num_c) ?_))
 rintro _ w109 ⟨rfl, e109⟩
 have := e109.size
 refine l_gt rfl rfl (OpTo.of_v (OpVat.as (b := true) (v_eql rfl rfl) zq) ?_)
 refine l_v (v_andT rfl rfl) ?_
 replace HB32 := ((((((((((HB32.ext e33).keep k133 dj4).ext e34).keep k134 dj4).ext e35).keep k104 dj4).ext e105).ext e106).ext e107).ext e108).ext e109
 replace HB35 := ((((HB35.ext e105).ext e106).ext e107).ext e108).ext e109
 refine l_v (zmB rfl) (l_gt rfl rfl (OpTo.of_v (v_loadA zk rfl (by first | exact HB35.pv | exact HB32.pv | assumption) rfl) ?_))
 replace HS30 := ((((HS30.ext e105).ext e106).ext e107).ext e108).ext e109
 replace HS31 := ((((HS31.ext e105).ext e106).ext e107).ext e108).ext e109
 refine l_gt rfl rfl (to_f1 zk (zvA rfl) (CallsR.mono (MayAsk_k (⟨_, rfl, tAk_mk HS30.allB (SlV.nil _ _ _) (SlV.nil _ _ _) HS31.allB ⟨by decide, by decide⟩ ⟨by decide, by decide⟩⟩) kA1) ?_))
 rintro _ w110 ⟨rfl, e110⟩
 have := e110.size
 refine l_gt rfl rfl (OpTo.of_v (v_not rfl) ?_)
 refine l_v (v_andT rfl rfl) ?_
 refine l_v (zmB rfl) (l_gt rfl rfl (OpTo.of_v (v_build (pl := [(0, 1), (1, 1), (2, 1), (3, 1), (4, 1), (5, 1), (6, 1)]) (z := .agg #[.int .i64 0, .slice none 0 0, .slice none 0 0, .slice none 0 0, .slice none 0 0, .bool false, .int .i64 0]) (zl := [.int .i64 0, .slice none 0 0, .slice none 0 0, .slice none 0 0, .slice none 0 0, .bool false, .int .i64 0]) zk (by unfold kZero; kernel_rfl) rfl rfl (cells := [_, _, _, _, _, _, _]) rfl) ?_))
 refine l_gt rfl rfl (to_f1 zk (zvA rfl) (CallsR.mono (MayAsk_k (F := NoK) (⟨_, rfl, tAk_mk (SlV.nil _ _ _) (SlV.nil _ _ _) (SlV.nil _ _ _) (SlV.nil _ _ _) ⟨by decide, by decide⟩ ⟨by decide, by decide⟩⟩) kA2) ?_))
 rintro _ w111 ⟨rfl, e111⟩
 have := e111.size
 refine l_gt rfl rfl (OpTo.of_v (v_not rfl) ?_)
 refine l_v (v_andT rfl rfl) ?_
 replace HB32 := (HB32.ext e110).ext e111
 replace HB35 := (HB35.ext e110).ext e111
 refine l_v (zmB rfl) (l_gt rfl rfl (OpTo.of_v (v_loadA zk rfl (by first | exact HB35.pv | exact HB32.pv | assumption) rfl) ?_))
 replace HS33 := ((((((HS33.ext e105).ext e106).ext e107).ext e108).ext e109).ext e110).ext e111
 replace HS34 := ((((((HS34.ext e105).ext e106).ext e107).ext e108).ext e109).ext e110).ext e111
 refine l_gt rfl rfl (to_f1 zk (zvA rfl) (CallsR.mono (MayMove_k (⟨_, rfl, tMv_mk HS33.allB HS34.allB ⟨by decide, by decide⟩ ⟨by decide, by decide⟩ ⟨by decide, by decide⟩⟩) kV1) ?_))
 rintro _ w112 ⟨rfl, e112⟩
 have := e112.size
 refine l_gt rfl rfl (OpTo.of_v (v_not rfl) ?_)
 refine l_v (v_andT rfl rfl) ?_
 refine l_v (zaB rfl) (l_nil (n_then (c_ret (ret1v rfl zq (zvB rfl) ?_))))
 replace E := ((((((((((((((((((((E.step k102 dj3).trans e30.keep).step k130 dj3).trans e31.keep).step k131 dj3).trans e32.keep).step k103 dj3).trans e33.keep).step k133 dj3).trans e34.keep).step k134 dj3).trans e35.keep).step k104 dj3).trans e105.keep).trans e106.keep).trans e107.keep).trans e108.keep).trans e109.keep).trans e110.keep).trans e111.keep).trans e112.keep
 exact ⟨rfl, E⟩
end Go.Proofs.YtogafjlbpodgjaaGreat

namespace Go.Proofs.YtogafjlbpodgjaaGreat
open Go.Vc
set_option linter.unusedVariables false
set_option linter.unusedSimpArgs false
set_option maxRecDepth 100000
end Go.Proofs.YtogafjlbpodgjaaGreat
