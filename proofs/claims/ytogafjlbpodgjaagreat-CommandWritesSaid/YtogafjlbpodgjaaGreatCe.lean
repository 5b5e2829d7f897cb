/- A part of the proof: steps and lemmas for the walks through the given program. -/
import Derived.Test.YtogafjlbpodgjaaGreatC17
namespace Go.Proofs.YtogafjlbpodgjaaGreat
open Go.Vc
set_option linter.unusedVariables false
set_option linter.unusedSimpArgs false
set_option maxRecDepth 100000
theorem num_c {w : World} {n : Int} : CallsR Tryz.prog 9 #[.int .i64 n] w (fun o w' => o = .int .i64 n ∧ Ext w w') := by
  refine enter 4 Tryz.func9 rfl rfl (by simp) ?_
  refine c_seq ?_
  have E := Keep.refl (K := NoK) w
  refine wp_reg zd ?_
  refine l_v (v_assign rfl) ?_
  refine l_nil ?_
  refine n_then ?_
  refine c_seq ?_
  refine wp_reg zd ?_
  refine l_v (v_move (t := .int _ _) rfl) ?_
  refine l_v (v_assign (t := .int _ _) rfl) ?_
  refine l_nil ?_
  refine n_then ?_
  refine c_ret ?_
  refine ret1v rfl (by decide) (zvI rfl) ?_
  exact ⟨rfl, E⟩
abbrev kC1 : CmV := (1, rq0, mv0, [], [], [], 0)
abbrev kC2 : CmV := (6, rq0, mv0, [], [], [97], 0)
abbrev kC3 : CmV := (2, (1, 2, (1, [107], [], [], [], false, 0)), mv0, [], [], [], 0)
theorem kB1 : cmW kC1 = [1] := by kernel_rfl
theorem kB2 : cmW kC2 = [6, 1, 97] := by kernel_rfl
theorem kB3 : cmW kC3 = [2, 1, 2, 1, 1, 107] := by kernel_rfl
theorem kM1 : mayCm kC1 = true := by kernel_rfl
theorem kM2 : mayCm kC2 = true := by kernel_rfl
theorem kM3 : mayCm kC3 = true := by kernel_rfl
theorem kR1 : rdAll [1, 0] = none := by rfl
theorem kR2 : rdAll [11] = none := by rfl
theorem kA1 : mayAk (4, [107], [], [], [120], true, 0) = false := by kernel_rfl
theorem kA2 : mayAk (5, [], [], [], [], false, 33) = false := by kernel_rfl
theorem kV1 : mayMv (1, [97], [97], true, 1, 2) = false := by kernel_rfl
theorem CBytes_k {w : World} {F : Nat → Prop} {v : Value} {c : CmV} {l : List UInt8} (HG0 : AgV tCm w F v c) (hm : mayCm c = true) (hl : cmW c = l) : CallsR Tryz.prog 7 #[v] w (fun o w' => (∃ q d, o = .tuple #[.slice (some q) l.length d, .int .i64 0] ∧ Bv w' (fun i => w.heap.size ≤ i) (.slice (some q) l.length d) l) ∧ Ext w w') := by subst hl; exact CBytes_t HG0 hm
theorem CRead_z {w : World} {F : Nat → Prop} {v : Value} {l : List UInt8} (HS1 : Bv w F v l) (hl : l.length ≤ 1000000) (hn : rdAll l = none) : CallsR Tryz.prog 11 #[v] w (fun o w' => (∃ a1 c1 a2 c2 a3 c3 a4 c4 a5 c5 a6 c6 a7 c7 a8 c8 a9 c9, o = .tuple #[.agg #[.int .i64 0, .int .i64 0, .int .i64 0, .int .i64 0, .slice a1 0 c1, .slice a2 0 c2, .slice a3 0 c3, .slice a4 0 c4, .bool false, .int .i64 0, .int .i64 0, .slice a5 0 c5, .slice a6 0 c6, .bool false, .int .i64 0, .int .i64 0, .slice a7 0 c7, .slice a8 0 c8, .slice a9 0 c9, .int .i64 0], .int .i64 4]) ∧ Ext w w') := by
  refine CallsR.mono (CRead_c HS1 hl) fun o w' ⟨⟨u, c, e, ho, HG, h⟩, e1⟩ => ⟨?_, e1⟩
  rcases h with ⟨_, h⟩ | ⟨rfl, rfl, _⟩
  · rw [hn] at h; cases h
  · obtain ⟨a1, c1, a2, c2, a3, c3, a4, c4, a5, c5, a6, c6, a7, c7, a8, c8, a9, c9, rfl, _⟩ := AgV.cm (HG.imp imp_cm)
    exact ⟨a1, c1, a2, c2, a3, c3, a4, c4, a5, c5, a6, c6, a7, c7, a8, c8, a9, c9, ho⟩
theorem MayAsk_k {w : World} {F : Nat → Prop} {v : Value} {a : AkV} {b : Bool} (HG1 : AgV tAk w F v a) (hb : mayAk a = b) : CallsR Tryz.prog 15 #[v] w (fun o w' => o = .bool b ∧ Ext w w') := by subst hb; exact MayAsk_c HG1
theorem MayMove_k {w : World} {F : Nat → Prop} {v : Value} {a : MvV} {b : Bool} (HG1 : AgV tMv w F v a) (hb : mayMv a = b) : CallsR Tryz.prog 16 #[v] w (fun o w' => o = .bool b ∧ Ext w w') := by subst hb; exact MayMove_c HG1
set_option maxHeartbeats 8000000 in
theorem known_c {w : World} : CallsR Tryz.prog 6 #[] w (fun o w' => o = .bool true ∧ Ext w w') := by
 refine enter 103 Tryz.func6 rfl rfl (by simp) ?_
 refine c_seq ?_
 have E := Keep.refl (K := NoK) w
 refine wp_reg zd ?_
 refine l_v (v_assign rfl) ?_
 refine l_nil ?_
 refine n_then ?_
 refine c_seq ?_
 refine wp_reg zd ?_
 refine l_v (v_build (pl := [(0, 1), (1, 9), (10, 6), (16, 1), (17, 1), (18, 1), (19, 1)]) (z := .agg #[.int .i64 0, .int .i64 0, .int .i64 0, .int .i64 0, .slice none 0 0, .slice none 0 0, .slice none 0 0, .slice none 0 0, .bool false, .int .i64 0, .int .i64 0, .slice none 0 0, .slice none 0 0, .bool false, .int .i64 0, .int .i64 0, .slice none 0 0, .slice none 0 0, .slice none 0 0, .int .i64 0]) (zl := [.int .i64 0, .int .i64 0, .int .i64 0, .int .i64 0, .slice none 0 0, .slice none 0 0, .slice none 0 0, .slice none 0 0, .bool false, .int .i64 0, .int .i64 0, .slice none 0 0, .slice none 0 0, .bool false, .int .i64 0, .int .i64 0, .slice none 0 0, .slice none 0 0, .slice none 0 0, .int .i64 0]) zk (by unfold kZero; kernel_rfl) rfl rfl (cells := [_, _, _, _, _, _, _, _, _, _, _, _, _, _, _, _, _, _, _, _]) rfl) ?_
 refine l_to (to_f1 zk (zvA rfl) (CallsR.mono (CBytes_k (AgV.mkCm (F := NoK) ⟨by decide, by decide⟩ rq0_ag mv0_ag (SlV.nil _ _ _) (SlV.nil _ _ _) (SlV.nil _ _ _) ⟨by decide, by decide⟩) kM1 kB1) ?_))
 rintro _ w1 ⟨⟨q1, d1, rfl, HS1⟩, e1⟩
 have zs_e1 := e1.size
 replace HS1 := HS1.all
 replace E := E.trans (Ext.keep e1)
 refine l_v (v_move (t := .tuple _) rfl) ?_
 refine l_v (v_extract (t := .slice _ _ _) rfl rfl) ?_
 refine l_v (v_extract (t := .int _ _) rfl rfl) ?_
 refine l_v (v_assign (t := .slice _ _ _) rfl) ?_
 refine l_v (v_assign (t := .int _ _) rfl) ?_
 refine l_nil ?_
 refine n_then ?_
 refine c_seq ?_
 refine wp_reg zd ?_
 refine l_to (to_slice1 (t := tU8) (et := 5) (bytes := 1) zk (by decide) (zvI rfl) (rep_u8 (F := NoK) 97 rfl) ?_)
 rintro b2 w2 zb2 HO2 e2 z2
 have zs_e2 := e2.size
 replace E := E.trans (Ext.keep e2)
 replace HS1 := HS1.ext e2
 have zo_HO2 := fun (b : Nat) h => HO2.own_lt (b := b) h
 refine l_to (to_cvLit (et := 5) zk zk rfl HO2 ?_)
 rintro w102 HS2 k102 z102
 have zs_k102 := k102.size
 replace E := E.step k102 dj3
 replace HS1 := HS1.keep k102 dj1
 refine l_v (v_build (pl := [(0, 1), (1, 9), (10, 6), (16, 1), (17, 1), (18, 1), (19, 1)]) (z := .agg #[.int .i64 0, .int .i64 0, .int .i64 0, .int .i64 0, .slice none 0 0, .slice none 0 0, .slice none 0 0, .slice none 0 0, .bool false, .int .i64 0, .int .i64 0, .slice none 0 0, .slice none 0 0, .bool false, .int .i64 0, .int .i64 0, .slice none 0 0, .slice none 0 0, .slice none 0 0, .int .i64 0]) (zl := [.int .i64 0, .int .i64 0, .int .i64 0, .int .i64 0, .slice none 0 0, .slice none 0 0, .slice none 0 0, .slice none 0 0, .bool false, .int .i64 0, .int .i64 0, .slice none 0 0, .slice none 0 0, .bool false, .int .i64 0, .int .i64 0, .slice none 0 0, .slice none 0 0, .slice none 0 0, .int .i64 0]) zk (by unfold kZero; kernel_rfl) rfl rfl (cells := [_, _, _, _, _, _, _, _, _, _, _, _, _, _, _, _, _, _, _, _]) rfl) ?_
 refine l_to (to_f1 zk (zvA rfl) (CallsR.mono (CBytes_k (AgV.mkCm ⟨by decide, by decide⟩ rq0_ag mv0_ag (SlV.nil _ _ _) (SlV.nil _ _ _) HS2 ⟨by decide, by decide⟩) kM2 kB2) ?_))
 rintro _ w3 ⟨⟨q3, d3, rfl, HS3⟩, e3⟩
 have zs_e3 := e3.size
 replace HS3 := HS3.all
 replace E := E.trans (Ext.keep e3)
 replace HS1 := HS1.ext e3
 replace HS2 := HS2.ext e3
 refine l_v (v_move (t := .tuple _) rfl) ?_
 refine l_v (v_extract (t := .slice _ _ _) rfl rfl) ?_
 refine l_v (v_extract (t := .int _ _) rfl rfl) ?_
 refine l_v (v_assign (t := .slice _ _ _) rfl) ?_
 refine l_v (v_assign (t := .int _ _) rfl) ?_
 refine l_nil ?_
 refine n_then ?_
 refine c_seq ?_
 refine wp_reg zd ?_
 refine l_to (to_slice1 (t := tU8) (et := 5) (bytes := 1) zk (by decide) (zvI rfl) (rep_u8 (F := NoK) 107 rfl) ?_)
 rintro b4 w4 zb4 HO4 e4 z4
 have zs_e4 := e4.size
 replace E := E.trans (Ext.keep e4)
 replace HS1 := HS1.ext e4
 replace HS3 := HS3.ext e4
 have zo_HO4 := fun (b : Nat) h => HO4.own_lt (b := b) h
 refine l_to (to_cvLit (et := 5) zk zk rfl HO4 ?_)
 rintro w104 HS4 k104 z104
 have zs_k104 := k104.size
 replace E := E.step k104 dj3
 replace HS1 := HS1.keep k104 dj1
 replace HS3 := HS3.keep k104 dj1
 refine l_v (v_build (pl := [(0, 1), (1, 1), (2, 1), (3, 1), (4, 1), (5, 1), (6, 1)]) (z := .agg #[.int .i64 0, .slice none 0 0, .slice none 0 0, .slice none 0 0, .slice none 0 0, .bool false, .int .i64 0]) (zl := [.int .i64 0, .slice none 0 0, .slice none 0 0, .slice none 0 0, .slice none 0 0, .bool false, .int .i64 0]) zk (by unfold kZero; kernel_rfl) rfl rfl (cells := [_, _, _, _, _, _, _]) rfl) ?_
 refine l_v (v_build (pl := [(0, 1), (1, 1), (2, 7)]) (z := .agg #[.int .i64 0, .int .i64 0, .int .i64 0, .slice none 0 0, .slice none 0 0, .slice none 0 0, .slice none 0 0, .bool false, .int .i64 0]) (zl := [.int .i64 0, .int .i64 0, .int .i64 0, .slice none 0 0, .slice none 0 0, .slice none 0 0, .slice none 0 0, .bool false, .int .i64 0]) zk (by unfold kZero; kernel_rfl) rfl rfl (cells := [_, _, _, _, _, _, _, _, _]) rfl) ?_
 refine l_v (v_build (pl := [(0, 1), (1, 9), (10, 6), (16, 1), (17, 1), (18, 1), (19, 1)]) (z := .agg #[.int .i64 0, .int .i64 0, .int .i64 0, .int .i64 0, .slice none 0 0, .slice none 0 0, .slice none 0 0, .slice none 0 0, .bool false, .int .i64 0, .int .i64 0, .slice none 0 0, .slice none 0 0, .bool false, .int .i64 0, .int .i64 0, .slice none 0 0, .slice none 0 0, .slice none 0 0, .int .i64 0]) (zl := [.int .i64 0, .int .i64 0, .int .i64 0, .int .i64 0, .slice none 0 0, .slice none 0 0, .slice none 0 0, .slice none 0 0, .bool false, .int .i64 0, .int .i64 0, .slice none 0 0, .slice none 0 0, .bool false, .int .i64 0, .int .i64 0, .slice none 0 0, .slice none 0 0, .slice none 0 0, .int .i64 0]) zk (by unfold kZero; kernel_rfl) rfl rfl (cells := [_, _, _, _, _, _, _, _, _, _, _, _, _, _, _, _, _, _, _, _]) rfl) ?_
 refine l_to (to_f1 zk (zvA rfl) (CallsR.mono (CBytes_k (AgV.mkCm ⟨by decide, by decide⟩ (AgV.mkRq (tAk_mk HS4 (SlV.nil _ _ _) (SlV.nil _ _ _) (SlV.nil _ _ _) ⟨by decide, by decide⟩ ⟨by decide, by decide⟩) ⟨by decide, by decide⟩ ⟨by decide, by decide⟩) mv0_ag (SlV.nil _ _ _) (SlV.nil _ _ _) (SlV.nil _ _ _) ⟨by decide, by decide⟩) kM3 kB3) ?_))
 rintro _ w5 ⟨⟨q5, d5, rfl, HS5⟩, e5⟩
 have zs_e5 := e5.size
 replace HS5 := HS5.all
 replace E := E.trans (Ext.keep e5)
 replace HS1 := HS1.ext e5
 replace HS3 := HS3.ext e5
 replace HS4 := HS4.ext e5
 refine l_v (v_move (t := .tuple _) rfl) ?_
 refine l_v (v_extract (t := .slice _ _ _) rfl rfl) ?_
 refine l_v (v_extract (t := .int _ _) rfl rfl) ?_
 refine l_v (v_assign (t := .slice _ _ _) rfl) ?_
 refine l_v (v_assign (t := .int _ _) rfl) ?_
 refine l_nil ?_
 refine n_then ?_
 refine c_seq ?_
 refine wp_reg zd ?_
 refine l_to (to_sliceN (t := tU8) (xs := [1, 0]) (et := 5) (bytes := 1) (zl := [.int .u8 0, .int .u8 0]) zk (by decide) (by decide) (by unfold kZeros; kernel_rfl) rfl (cells := [_, _]) rfl rfl rfl (reps2 (rep_u8 (F := NoK) 1 rfl) (rep_u8 (F := NoK) 0 rfl)) ?_)
 rintro b10 w10 zb10 HO10 e10 z10
 have zs_e10 := e10.size
 replace E := E.trans (Ext.keep e10)
 replace HS1 := HS1.ext e10
 replace HS3 := HS3.ext e10
 replace HS5 := HS5.ext e10
 have zo_HO10 := fun (b : Nat) h => HO10.own_lt (b := b) h
 refine l_to (to_f1 zk (zvS rfl) (CallsR.mono (CRead_z HO10.view (by decide) kR1) ?_))
 rintro _ w11 ⟨⟨a10x0, c10x0, a10x1, c10x1, a10x2, c10x2, a10x3, c10x3, a10x4, c10x4, a10x5, c10x5, a10x6, c10x6, a10x7, c10x7, a10x8, c10x8, rfl⟩, e11⟩
 have zs_e11 := e11.size
 replace E := E.trans (Ext.keep e11)
 replace HS1 := HS1.ext e11
 replace HS3 := HS3.ext e11
 replace HS5 := HS5.ext e11
 replace HO10 := HO10.ext e11
 refine l_v (v_move (t := .tuple _) rfl) ?_
 refine l_v (v_extract (t := .agg _) rfl rfl) ?_
 refine l_v (v_extract (t := .int _ _) rfl rfl) ?_
 refine l_to (to_alloc (z := (.agg #[.int .i64 0, .int .i64 0, .int .i64 0, .int .i64 0, .slice none 0 0, .slice none 0 0, .slice none 0 0, .slice none 0 0, .bool false, .int .i64 0, .int .i64 0, .slice none 0 0, .slice none 0 0, .bool false, .int .i64 0, .int .i64 0, .slice none 0 0, .slice none 0 0, .slice none 0 0, .int .i64 0])) (by unfold kZero; kernel_rfl) ?_)
 rintro b12 w12 zb12 HB12 e12 z12
 have zs_e12 := e12.size
 replace E := E.trans (Ext.keep e12)
 replace HS1 := HS1.ext e12
 replace HS3 := HS3.ext e12
 replace HS5 := HS5.ext e12
 replace HO10 := HO10.ext e12
 try simp only [Value.cells] at HB12
 refine l_to (to_storeA (n := 20) rfl rfl (zvA rfl) zk rfl dj6 HB12 dj5 ?_)
 rintro w101 HX101 k101 z101
 have zs_k101 := k101.size
 replace E := E.step k101 dj3
 replace HS1 := HS1.keep k101 dj1
 replace HS3 := HS3.keep k101 dj1
 replace HS5 := HS5.keep k101 dj1
 replace HB12 := HX101
 clear HX101
 try simp only [zS, Nat.zero_add, Nat.reduceAdd, List.drop_nil] at HB12
 refine l_v (v_assign (t := .int _ _) rfl) ?_
 refine l_nil ?_
 refine n_then ?_
 refine c_seq ?_
 refine wp_reg zd ?_
 refine l_to (to_slice1 (t := tU8) (et := 5) (bytes := 1) zk (by decide) (zvI rfl) (rep_u8 (F := NoK) 11 rfl) ?_)
 rintro b20 w20 zb20 HO20 e20 z20
 have zs_e20 := e20.size
 replace E := E.trans (Ext.keep e20)
 replace HS1 := HS1.ext e20
 replace HS3 := HS3.ext e20
 replace HS5 := HS5.ext e20
 have zo_HO20 := fun (b : Nat) h => HO20.own_lt (b := b) h
 refine l_to (to_f1 zk (zvS rfl) (CallsR.mono (CRead_z HO20.view (by decide) kR2) ?_))
 rintro _ w21 ⟨⟨a20x0, c20x0, a20x1, c20x1, a20x2, c20x2, a20x3, c20x3, a20x4, c20x4, a20x5, c20x5, a20x6, c20x6, a20x7, c20x7, a20x8, c20x8, rfl⟩, e21⟩
 have zs_e21 := e21.size
 replace E := E.trans (Ext.keep e21)
 replace HS1 := HS1.ext e21
 replace HS3 := HS3.ext e21
 replace HS5 := HS5.ext e21
 replace HO20 := HO20.ext e21
 refine l_v (v_move (t := .tuple _) rfl) ?_
 refine l_v (v_extract (t := .agg _) rfl rfl) ?_
 refine l_v (v_extract (t := .int _ _) rfl rfl) ?_
 refine l_to (to_alloc (z := (.agg #[.int .i64 0, .int .i64 0, .int .i64 0, .int .i64 0, .slice none 0 0, .slice none 0 0, .slice none 0 0, .slice none 0 0, .bool false, .int .i64 0, .int .i64 0, .slice none 0 0, .slice none 0 0, .bool false, .int .i64 0, .int .i64 0, .slice none 0 0, .slice none 0 0, .slice none 0 0, .int .i64 0])) (by unfold kZero; kernel_rfl) ?_)
 rintro b22 w22 zb22 HB22 e22 z22
 have zs_e22 := e22.size
 replace E := E.trans (Ext.keep e22)
 replace HS1 := HS1.ext e22
 replace HS3 := HS3.ext e22
 replace HS5 := HS5.ext e22
 replace HO20 := HO20.ext e22
 try simp only [Value.cells] at HB22
 refine l_to (to_storeA (n := 20) rfl rfl (zvA rfl) zk rfl dj6 HB22 dj5 ?_)
 rintro w102 HX102 k102 z102
 have zs_k102 := k102.size
 replace E := E.step k102 dj3
 replace HS1 := HS1.keep k102 dj1
 replace HS3 := HS3.keep k102 dj1
 replace HS5 := HS5.keep k102 dj1
 replace HB22 := HX102
 clear HX102
 try simp only [zS, Nat.zero_add, Nat.reduceAdd, List.drop_nil] at HB22
 refine l_v (v_assign (t := .int _ _) rfl) ?_
 refine l_nil ?_
 refine n_then ?_
 refine c_seq ?_
 refine wp_reg zd ?_
 refine l_to (to_slice1 (t := tU8) (et := 5) (bytes := 1) zk (by decide) (zvI rfl) (rep_u8 (F := NoK) 107 rfl) ?_)
 rintro b30 w30 zb30 HO30 e30 z30
 have zs_e30 := e30.size
 replace E := E.trans (Ext.keep e30)
 replace HS1 := HS1.ext e30
 replace HS3 := HS3.ext e30
 replace HS5 := HS5.ext e30
 have zo_HO30 := fun (b : Nat) h => HO30.own_lt (b := b) h
 refine l_to (to_cvLit (et := 5) zk zk rfl HO30 ?_)
 rintro w130 HS30 k130 z130
 have zs_k130 := k130.size
 replace E := E.step k130 dj3
 replace HS1 := HS1.keep k130 dj1
 replace HS3 := HS3.keep k130 dj1
 replace HS5 := HS5.keep k130 dj1
 refine l_to (to_slice1 (t := tU8) (et := 5) (bytes := 1) zk (by decide) (zvI rfl) (rep_u8 (F := NoK) 120 rfl) ?_)
 rintro b31 w31 zb31 HO31 e31 z31
 have zs_e31 := e31.size
 replace E := E.trans (Ext.keep e31)
 replace HS1 := HS1.ext e31
 replace HS3 := HS3.ext e31
 replace HS5 := HS5.ext e31
 replace HS30 := HS30.ext e31
 have zo_HO31 := fun (b : Nat) h => HO31.own_lt (b := b) h
 refine l_to (to_cvLit (et := 5) zk zk rfl HO31 ?_)
 rintro w131 HS31 k131 z131
 have zs_k131 := k131.size
 replace E := E.step k131 dj3
 replace HS1 := HS1.keep k131 dj1
 replace HS3 := HS3.keep k131 dj1
 replace HS5 := HS5.keep k131 dj1
 replace HS30 := HS30.keep k131 dj1
 refine l_v (v_build (pl := [(0, 1), (1, 1), (2, 1), (3, 1), (4, 1), (5, 1), (6, 1)]) (z := .agg #[.int .i64 0, .slice none 0 0, .slice none 0 0, .slice none 0 0, .slice none 0 0, .bool false, .int .i64 0]) (zl := [.int .i64 0, .slice none 0 0, .slice none 0 0, .slice none 0 0, .slice none 0 0, .bool false, .int .i64 0]) zk (by unfold kZero; kernel_rfl) rfl rfl (cells := [_, _, _, _, _, _, _]) rfl) ?_
 refine l_to (to_alloc (z := (.agg #[.int .i64 0, .slice none 0 0, .slice none 0 0, .slice none 0 0, .slice none 0 0, .bool false, .int .i64 0])) (by unfold kZero; kernel_rfl) ?_)
 rintro b32 w32 zb32 HB32 e32 z32
 have zs_e32 := e32.size
 replace E := E.trans (Ext.keep e32)
 replace HS1 := HS1.ext e32
 replace HS3 := HS3.ext e32
 replace HS5 := HS5.ext e32
 replace HS30 := HS30.ext e32
 replace HS31 := HS31.ext e32
 try simp only [Value.cells] at HB32
 refine l_to (to_storeA (n := 7) rfl rfl (zvA rfl) zk rfl dj6 HB32 dj5 ?_)
 rintro w103 HX103 k103 z103
 have zs_k103 := k103.size
 replace E := E.step k103 dj3
 replace HS1 := HS1.keep k103 dj1
 replace HS3 := HS3.keep k103 dj1
 replace HS5 := HS5.keep k103 dj1
 replace HS30 := HS30.keep k103 dj1
 replace HS31 := HS31.keep k103 dj1
 replace HB32 := HX103
 clear HX103
 try simp only [zS, Nat.zero_add, Nat.reduceAdd, List.drop_nil] at HB32
 refine l_nil ?_
 refine n_then ?_
 refine c_seq ?_
 refine wp_reg zd ?_
 refine l_to (to_slice1 (t := tU8) (et := 5) (bytes := 1) zk (by decide) (zvI rfl) (rep_u8 (F := NoK) 97 rfl) ?_)
 rintro b33 w33 zb33 HO33 e33 z33
 have zs_e33 := e33.size
 replace E := E.trans (Ext.keep e33)
 replace HS1 := HS1.ext e33
 replace HS3 := HS3.ext e33
 replace HS5 := HS5.ext e33
 replace HS30 := HS30.ext e33
 replace HS31 := HS31.ext e33
 replace HB32 := HB32.ext e33
 have zo_HO33 := fun (b : Nat) h => HO33.own_lt (b := b) h
 refine l_to (to_cvLit (et := 5) zk zk rfl HO33 ?_)
 rintro w133 HS33 k133 z133
 have zs_k133 := k133.size
 replace E := E.step k133 dj3
 replace HS1 := HS1.keep k133 dj1
 replace HS3 := HS3.keep k133 dj1
 replace HS5 := HS5.keep k133 dj1
 replace HS30 := HS30.keep k133 dj1
 replace HS31 := HS31.keep k133 dj1
 replace HB32 := HB32.keep k133 dj4
 refine l_to (to_slice1 (t := tU8) (et := 5) (bytes := 1) zk (by decide) (zvI rfl) (rep_u8 (F := NoK) 97 rfl) ?_)
 rintro b34 w34 zb34 HO34 e34 z34
 have zs_e34 := e34.size
 replace E := E.trans (Ext.keep e34)
 replace HS1 := HS1.ext e34
 replace HS3 := HS3.ext e34
 replace HS5 := HS5.ext e34
 replace HS30 := HS30.ext e34
 replace HS31 := HS31.ext e34
 replace HB32 := HB32.ext e34
 replace HS33 := HS33.ext e34
 have zo_HO34 := fun (b : Nat) h => HO34.own_lt (b := b) h
 refine l_to (to_cvLit (et := 5) zk zk rfl HO34 ?_)
 rintro w134 HS34 k134 z134
 have zs_k134 := k134.size
 replace E := E.step k134 dj3
 replace HS1 := HS1.keep k134 dj1
 replace HS3 := HS3.keep k134 dj1
 replace HS5 := HS5.keep k134 dj1
 replace HS30 := HS30.keep k134 dj1
 replace HS31 := HS31.keep k134 dj1
 replace HB32 := HB32.keep k134 dj4
 replace HS33 := HS33.keep k134 dj1
 refine l_v (v_build (pl := [(0, 1), (1, 1), (2, 1), (3, 1), (4, 1), (5, 1)]) (z := .agg #[.int .i64 0, .slice none 0 0, .slice none 0 0, .bool false, .int .i64 0, .int .i64 0]) (zl := [.int .i64 0, .slice none 0 0, .slice none 0 0, .bool false, .int .i64 0, .int .i64 0]) zk (by unfold kZero; kernel_rfl) rfl rfl (cells := [_, _, _, _, _, _]) rfl) ?_
 refine l_to (to_alloc (z := (.agg #[.int .i64 0, .slice none 0 0, .slice none 0 0, .bool false, .int .i64 0, .int .i64 0])) (by unfold kZero; kernel_rfl) ?_)
 rintro b35 w35 zb35 HB35 e35 z35
 have zs_e35 := e35.size
 replace E := E.trans (Ext.keep e35)
 replace HS1 := HS1.ext e35
 replace HS3 := HS3.ext e35
 replace HS5 := HS5.ext e35
 replace HS30 := HS30.ext e35
 replace HS31 := HS31.ext e35
 replace HB32 := HB32.ext e35
 replace HS33 := HS33.ext e35
 replace HS34 := HS34.ext e35
 try simp only [Value.cells] at HB35
 refine l_to (to_storeA (n := 6) rfl rfl (zvA rfl) zk rfl dj6 HB35 dj5 ?_)
 rintro w104 HX104 k104 z104
 have zs_k104 := k104.size
 replace E := E.step k104 dj3
 replace HS1 := HS1.keep k104 dj1
 replace HS3 := HS3.keep k104 dj1
 replace HS5 := HS5.keep k104 dj1
 replace HS30 := HS30.keep k104 dj1
 replace HS31 := HS31.keep k104 dj1
 replace HB32 := HB32.keep k104 dj4
 replace HS33 := HS33.keep k104 dj1
 replace HS34 := HS34.keep k104 dj1
 replace HB35 := HX104
 clear HX104
 try simp only [zS, Nat.zero_add, Nat.reduceAdd, List.drop_nil] at HB35
 refine l_nil ?_
 refine n_then ?_
 refine c_seq ?_
 refine wp_reg zd ?_
 refine l_v (v_move (t := .slice _ _ _) rfl) ?_
 refine l_v (v_b2s (et := 5) zk zk zk rfl HS1) ?_
 refine l_v (OpVat.as (b := true) (v_seq rfl rfl) (by decide)) ?_
 refine l_v (v_move (t := .bool _) rfl) ?_
 refine l_gt rfl rfl (OpTo.of_v (v_move (t := .slice _ _ _) rfl) ?_)
 refine l_gt rfl rfl (OpTo.of_v (v_b2s (et := 5) zk zk zk rfl HS3) ?_)
 refine l_gt rfl rfl (OpTo.of_v (OpVat.as (b := true) (v_seq rfl rfl) (by decide)) ?_)
 refine l_v (v_andT rfl rfl) ?_
 refine l_v (v_move (t := .bool _) rfl) ?_
 refine l_gt rfl rfl (OpTo.of_v (v_move (t := .slice _ _ _) rfl) ?_)
 refine l_gt rfl rfl (OpTo.of_v (v_b2s (et := 5) zk zk zk rfl HS5) ?_)
 refine l_gt rfl rfl (OpTo.of_v (OpVat.as (b := true) (v_seq rfl rfl) (by decide)) ?_)
 refine l_v (v_andT rfl rfl) ?_
 refine l_v (v_move (t := .bool _) rfl) ?_
 refine l_gt rfl rfl (OpTo.of_v (v_move (t := .int _ _) rfl) ?_)
 refine l_gt rfl rfl (to_f1 zk (zvI rfl) (CallsR.mono (num_c) ?_))
 rintro _ w105 ⟨rfl, e105⟩
 have zs_e105 := e105.size
 replace E := E.trans (Ext.keep e105)
 replace HS1 := HS1.ext e105
 replace HS3 := HS3.ext e105
 replace HS5 := HS5.ext e105
 replace HS30 := HS30.ext e105
 replace HS31 := HS31.ext e105
 replace HB32 := HB32.ext e105
 replace HS33 := HS33.ext e105
 replace HS34 := HS34.ext e105
 replace HB35 := HB35.ext e105
 refine l_gt rfl rfl (OpTo.of_v (v_move (t := .int _ _) rfl) ?_)
 refine l_gt rfl rfl (to_f1 zk (zvI rfl) (CallsR.mono (num_c) ?_))
 rintro _ w106 ⟨rfl, e106⟩
 have zs_e106 := e106.size
 replace E := E.trans (Ext.keep e106)
 replace HS1 := HS1.ext e106
 replace HS3 := HS3.ext e106
 replace HS5 := HS5.ext e106
 replace HS30 := HS30.ext e106
 replace HS31 := HS31.ext e106
 replace HB32 := HB32.ext e106
 replace HS33 := HS33.ext e106
 replace HS34 := HS34.ext e106
 replace HB35 := HB35.ext e106
 refine l_gt rfl rfl (OpTo.of_v (v_add rfl rfl (by first | exact wr_i64 (by omega) (by omega) | rfl)) ?_)
 refine l_gt rfl rfl (OpTo.of_v (v_move (t := .int _ _) rfl) ?_)
 refine l_gt rfl rfl (to_f1 zk (zvI rfl) (CallsR.mono (num_c) ?_))
 rintro _ w107 ⟨rfl, e107⟩
 have zs_e107 := e107.size
 replace E := E.trans (Ext.keep e107)
 replace HS1 := HS1.ext e107
 replace HS3 := HS3.ext e107
 replace HS5 := HS5.ext e107
 replace HS30 := HS30.ext e107
 replace HS31 := HS31.ext e107
 replace HB32 := HB32.ext e107
 replace HS33 := HS33.ext e107
 replace HS34 := HS34.ext e107
 replace HB35 := HB35.ext e107
 refine l_gt rfl rfl (OpTo.of_v (v_add rfl rfl (by first | exact wr_i64 (by omega) (by omega) | rfl)) ?_)
 refine l_gt rfl rfl (OpTo.of_v (OpVat.as (b := true) (v_eql rfl rfl) (by decide)) ?_)
 refine l_v (v_andT rfl rfl) ?_
 refine l_v (v_move (t := .bool _) rfl) ?_
 refine l_gt rfl rfl (OpTo.of_v (v_move (t := .int _ _) rfl) ?_)
 refine l_gt rfl rfl (to_f1 zk (zvI rfl) (CallsR.mono (num_c) ?_))
 rintro _ w108 ⟨rfl, e108⟩
 have zs_e108 := e108.size
 replace E := E.trans (Ext.keep e108)
 replace HS1 := HS1.ext e108
 replace HS3 := HS3.ext e108
 replace HS5 := HS5.ext e108
 replace HS30 := HS30.ext e108
 replace HS31 := HS31.ext e108
 replace HB32 := HB32.ext e108
 replace HS33 := HS33.ext e108
 replace HS34 := HS34.ext e108
 replace HB35 := HB35.ext e108
 refine l_gt rfl rfl (OpTo.of_v (OpVat.as (b := true) (v_eql rfl rfl) (by decide)) ?_)
 refine l_v (v_andT rfl rfl) ?_
 refine l_v (v_move (t := .bool _) rfl) ?_
 refine l_gt rfl rfl (OpTo.of_v (v_move (t := .int _ _) rfl) ?_)
 refine l_gt rfl rfl (to_f1 zk (zvI rfl) (CallsR.mono (num_c) ?_))
 rintro _ w109 ⟨rfl, e109⟩
 have zs_e109 := e109.size
 replace E := E.trans (Ext.keep e109)
 replace HS1 := HS1.ext e109
 replace HS3 := HS3.ext e109
 replace HS5 := HS5.ext e109
 replace HS30 := HS30.ext e109
 replace HS31 := HS31.ext e109
 replace HB32 := HB32.ext e109
 replace HS33 := HS33.ext e109
 replace HS34 := HS34.ext e109
 replace HB35 := HB35.ext e109
 refine l_gt rfl rfl (OpTo.of_v (OpVat.as (b := true) (v_eql rfl rfl) (by decide)) ?_)
 refine l_v (v_andT rfl rfl) ?_
 refine l_v (v_move (t := .bool _) rfl) ?_
 refine l_gt rfl rfl (OpTo.of_v (v_loadA zk rfl (by first | exact HB35.pv | exact HB32.pv | assumption) rfl) ?_)
 refine l_gt rfl rfl (to_f1 zk (zvA rfl) (CallsR.mono (MayAsk_k (⟨_, rfl, tAk_mk HS30.allB (SlV.nil _ _ _) (SlV.nil _ _ _) HS31.allB ⟨by decide, by decide⟩ ⟨by decide, by decide⟩⟩) kA1) ?_))
 rintro _ w110 ⟨rfl, e110⟩
 have zs_e110 := e110.size
 replace E := E.trans (Ext.keep e110)
 replace HS1 := HS1.ext e110
 replace HS3 := HS3.ext e110
 replace HS5 := HS5.ext e110
 replace HS30 := HS30.ext e110
 replace HS31 := HS31.ext e110
 replace HB32 := HB32.ext e110
 replace HS33 := HS33.ext e110
 replace HS34 := HS34.ext e110
 replace HB35 := HB35.ext e110
 refine l_gt rfl rfl (OpTo.of_v (v_not rfl) ?_)
 refine l_v (v_andT rfl rfl) ?_
 refine l_v (v_move (t := .bool _) rfl) ?_
 refine l_gt rfl rfl (OpTo.of_v (v_build (pl := [(0, 1), (1, 1), (2, 1), (3, 1), (4, 1), (5, 1), (6, 1)]) (z := .agg #[.int .i64 0, .slice none 0 0, .slice none 0 0, .slice none 0 0, .slice none 0 0, .bool false, .int .i64 0]) (zl := [.int .i64 0, .slice none 0 0, .slice none 0 0, .slice none 0 0, .slice none 0 0, .bool false, .int .i64 0]) zk (by unfold kZero; kernel_rfl) rfl rfl (cells := [_, _, _, _, _, _, _]) rfl) ?_)
 refine l_gt rfl rfl (to_f1 zk (zvA rfl) (CallsR.mono (MayAsk_k (F := NoK) (⟨_, rfl, tAk_mk (SlV.nil _ _ _) (SlV.nil _ _ _) (SlV.nil _ _ _) (SlV.nil _ _ _) ⟨by decide, by decide⟩ ⟨by decide, by decide⟩⟩) kA2) ?_))
 rintro _ w111 ⟨rfl, e111⟩
 have zs_e111 := e111.size
 replace E := E.trans (Ext.keep e111)
 replace HS1 := HS1.ext e111
 replace HS3 := HS3.ext e111
 replace HS5 := HS5.ext e111
 replace HS30 := HS30.ext e111
 replace HS31 := HS31.ext e111
 replace HB32 := HB32.ext e111
 replace HS33 := HS33.ext e111
 replace HS34 := HS34.ext e111
 replace HB35 := HB35.ext e111
 refine l_gt rfl rfl (OpTo.of_v (v_not rfl) ?_)
 refine l_v (v_andT rfl rfl) ?_
 refine l_v (v_move (t := .bool _) rfl) ?_
 refine l_gt rfl rfl (OpTo.of_v (v_loadA zk rfl (by first | exact HB35.pv | exact HB32.pv | assumption) rfl) ?_)
 refine l_gt rfl rfl (to_f1 zk (zvA rfl) (CallsR.mono (MayMove_k (⟨_, rfl, tMv_mk HS33.allB HS34.allB ⟨by decide, by decide⟩ ⟨by decide, by decide⟩ ⟨by decide, by decide⟩⟩) kV1) ?_))
 rintro _ w112 ⟨rfl, e112⟩
 have zs_e112 := e112.size
 replace E := E.trans (Ext.keep e112)
 replace HS1 := HS1.ext e112
 replace HS3 := HS3.ext e112
 replace HS5 := HS5.ext e112
 replace HS30 := HS30.ext e112
 replace HS31 := HS31.ext e112
 replace HB32 := HB32.ext e112
 replace HS33 := HS33.ext e112
 replace HS34 := HS34.ext e112
 replace HB35 := HB35.ext e112
 refine l_gt rfl rfl (OpTo.of_v (v_not rfl) ?_)
 refine l_v (v_andT rfl rfl) ?_
 refine l_v (v_assign (t := .bool _) rfl) ?_
 refine l_nil ?_
 refine n_then ?_
 refine c_ret ?_
 refine ret1v rfl (by decide) (zvB rfl) ?_
 exact ⟨rfl, E⟩
end Go.Proofs.YtogafjlbpodgjaaGreat

namespace Go.Proofs.YtogafjlbpodgjaaGreat
open Go.Vc
set_option linter.unusedVariables false
set_option linter.unusedSimpArgs false
set_option maxRecDepth 100000
theorem vmin {P : Program} {d : Option Tmp} {ty : TypeId} {p : String} {af : Array Edge} {g : Option (Nat × Bool)} {e : Nat → Value} {w : World} {x y : Operand} {k : IntKind} {i j : Int} {ts : Array TypeId} (hx : ev e x = .int k i) (hy : ev e y = .int k j) : OpVat P ⟨d, .call { callee := .builtin .min, args := #[x, y], argTypes := ts }, ty, p, af, g⟩ e w (.int k (if j < i then j else i)) := v_min hx hy
def mnL (m : Int) (n : Nat) : Int := if m + 1 < (n : Int) then m + 1 else (n : Int)
def muI (m : Int) : List IkV → Int → Int
  | [], n => n
  | r :: l, n => if n ≤ m then muI m l (n + 1 + mnL m r.1.length + mnL m r.2.2.2.length) else n
theorem muI_stop {m : Int} {l : List IkV} {n : Int} (h : ¬ n ≤ m) : muI m l n = n := by cases l <;> simp [muI, h]
def sumL (m : Int) : List (List UInt8) → Int
  | [] => 0
  | x :: l => mnL m x.length + sumL m l
def longC (m : Int) : CmV → Bool
  | (k, rq, mv, en, an, key, g) => decide (m < sumL m [rq.2.2.2.1, rq.2.2.2.2.1, rq.2.2.2.2.2.1, rq.2.2.2.2.2.2.1, mv.2.1, mv.2.2.1, an, key]) || decide (m < muI m en 0)
theorem muchI_c {w : World} {F : Nat → Prop} {v : Value} {l : List IkV} {m : Int} (HS1 : SlV tIk w F v l) (hm0 : 0 ≤ m) (hm1 : m ≤ 60000) : CallsR Tryz.prog 14 #[v, .int .i64 m] w (fun o w' => o = .bool (decide (m < muI m l 0)) ∧ Ext w w') := by
 obtain ⟨a0, c0, rfl⟩ := HS1.shape
 have hmx := HS1.len_max
 refine enter 43 Tryz.func14 rfl rfl (by simp) ?_
 refine c_seq ?_
 have E := Keep.refl (K := NoK) w
 replace HS1 := HS1.all
 refine wp_reg zd ?_
 refine l_v (v_assign rfl) ?_
 refine l_nil ?_
 refine n_then ?_
 refine c_seq ?_
 refine wp_reg zd ?_
 refine l_v (v_assign rfl) ?_
 refine l_nil ?_
 refine n_then ?_
 refine c_seq ?_
 refine c_seq ?_
 refine wp_reg zd ?_
 refine l_v (v_assign rfl) ?_
 refine l_nil ?_
 refine n_then ?_
 refine c_block ?_
 refine c_loop (τ := Nat × Int) [5, 6, 7, 8, 9, 10, 11, 12, 13, 14, 15, 16, 17, 18, 19, 20, 21, 22, 23, 24, 25, 26, 27, 28, 29, 30, 31, 32, 33, 34, 35, 36, 37, 38, 39] (fun (i, n) => [(5, .int .i64 n), (6, .int .i64 i)]) (fun (i, n) W => Ext w W ∧ Keep (NoK) w W ∧ i ≤ l.length ∧ 0 ≤ n ∧ n ≤ 300000 ∧ muI m (l.drop i) n = muI m l 0) (fun (i, n) => l.length - i) (0, 0) (by exact ⟨rfl, rfl, trivial⟩) (by exact ⟨E, Keep.refl _, Nat.zero_le _, by omega, by omega, by rw [List.drop_zero]⟩) ?_
 rintro ⟨i, n⟩ w101 j ⟨E, EL1, h1, h2, h3, h4⟩
 have zs_EL1 := EL1.size
 replace HS1 := HS1.ext EL1
 refine c_seq ?_
 refine c_seq ?_
 refine wp_reg zd ?_
 refine l_v (v_move (t := .int _ _) rfl) ?_
 refine l_v (v_move (t := .slice _ _ _) rfl) ?_
 refine l_v (v_len (et := 93) zk rfl) ?_
 refine l_v (v_lss rfl rfl) ?_
 refine l_v (v_move (t := .bool _) rfl) ?_
 refine l_g1 rfl rfl (fun hG => v_move (t := .int _ _) rfl) ?_
 refine l_g1 rfl rfl (fun hG => v_move (t := .int _ _) rfl) ?_
 refine l_g1 rfl rfl (fun hG => v_leq (gd hG rfl) (gd hG rfl)) ?_
 refine l_v (v_and rfl rfl) ?_
 refine l_nil ?_
 refine n_then ?_
 refine c_cond rfl rfl (fun hlt => ?_) (fun hlt => ?_)
 ·
  have hlt2 : i < l.length ∧ n ≤ m := by simp only [Bool.and_eq_true, decide_eq_true_eq] at hlt; omega
  obtain ⟨r, hx, hdr⟩ := getE (l := l) (i := i) (by omega)
  obtain ⟨q, cs, hq, hF, _, HPq, hr⟩ := HS1.el hx
  cases hq
  obtain ⟨a1, c1, a2, c2, rfl, HSf, HSt, g1, g2⟩ := tIk_cells hr
  rw [hdr, muI, if_pos hlt2.2] at h4
  refine c_skip ?_
  refine n_then ?_
  refine c_seq ?_
  refine c_block ?_
  refine wp_regd (NoK) zk zd zd ?_
  refine rt_v (fun vals w hR hd => v_move (t := .int _ _) rfl) ?_
  refine rt_v (fun vals w hR hd => v_add (hd 0 rfl) rfl (by first | exact wr_i64 (by omega) (by omega) | rfl)) ?_
  refine rt_v (fun vals w hR hd => v_move (t := .slice _ _ _) rfl) ?_
  refine rt_v (fun vals w hR hd => v_move (t := .int _ _) rfl) ?_
  refine rt_v (fun vals w hR hd => v_indexAddr (et := 93) (sz := 4) (k := i) zk zk (hd 2 rfl) (hd 3 rfl) (by first | rfl | omega) (by omega)) ?_
  refine rt_v (fun vals w hR hd => v_fieldAddr (off := 0) (ft := 24) zk (hd 4 rfl)) ?_
  refine rt_v (fun vals w hR hd => v_load zk (hd 5 rfl) (by first | exact (HPq.ext hR) 0 _ rfl | assumption)) ?_
  refine rt_v (fun vals w hR hd => v_len (et := 5) zk (hd 6 rfl)) ?_
  refine rt_v (fun vals w hR hd => v_move (t := .int _ _) rfl) ?_
  refine rt_v (fun vals w hR hd => v_add (hd 8 rfl) rfl (by first | exact wr_i64 (by omega) (by omega) | rfl)) ?_
  refine rt_v (fun vals w hR hd => vmin (hd 7 rfl) (hd 9 rfl)) ?_
  refine rt_v (fun vals w hR hd => v_add (hd 1 rfl) (hd 10 rfl) (by first | exact wr_i64 (by omega) (by omega) | rfl)) ?_
  refine rt_v (fun vals w hR hd => v_move (t := .slice _ _ _) rfl) ?_
  refine rt_v (fun vals w hR hd => v_move (t := .int _ _) rfl) ?_
  refine rt_v (fun vals w hR hd => v_indexAddr (et := 93) (sz := 4) (k := i) zk zk (hd 12 rfl) (hd 13 rfl) (by first | rfl | omega) (by omega)) ?_
  refine rt_v (fun vals w hR hd => v_fieldAddr (off := 3) (ft := 24) zk (hd 14 rfl)) ?_
  refine rt_v (fun vals w hR hd => v_load zk (hd 15 rfl) (by first | exact (HPq.ext hR) 3 _ rfl | exact pv_1 (HPq.ext hR) | assumption)) ?_
  refine rt_v (fun vals w hR hd => v_len (et := 5) zk (hd 16 rfl)) ?_
  refine rt_v (fun vals w hR hd => v_move (t := .int _ _) rfl) ?_
  refine rt_v (fun vals w hR hd => v_add (hd 18 rfl) rfl (by first | exact wr_i64 (by omega) (by omega) | rfl)) ?_
  refine rt_v (fun vals w hR hd => vmin (hd 17 rfl) (hd 19 rfl)) ?_
  refine rt_v (fun vals w hR hd => v_add (hd 11 rfl) (hd 20 rfl) (by first | exact wr_i64 (by omega) (by omega) | rfl)) ?_
  refine rt_v (fun vals w hR hd => v_assign (t := .int _ _) (hd 21 rfl)) ?_
  refine rt_nil (fun w102 e102 => ?_)
  rintro _ rfl _ rfl _ rfl _ rfl _ rfl _ rfl _ rfl _ rfl _ rfl _ rfl _ rfl _ rfl _ rfl _ rfl _ rfl _ rfl _ rfl _ rfl _ rfl _ rfl _ rfl _ rfl _ rfl
  have zs_e102 := e102.size
  replace E := E.trans (Ext.keep e102)
  replace HS1 := HS1.ext e102
  replace EL1 := EL1.trans (Ext.keep e102)
  replace HPq := HPq.ext e102
  refine fin_nil ?_
  refine n_blk ?_
  refine n_then ?_
  refine wp_reg zd ?_
  refine l_v (v_move (t := .int _ _) rfl) ?_
  refine l_v (v_add rfl rfl (by first | exact wr_i64 (by omega) (by omega) | rfl)) ?_
  refine l_v (v_assign (t := .int _ _) rfl) ?_
  refine l_nil ?_
  refine n_then ?_
  refine ⟨(i + 1, n + 1 + (if m + 1 < (r.1.length : Int) then m + 1 else (r.1.length : Int)) + (if m + 1 < (r.2.2.2.length : Int) then m + 1 else (r.2.2.2.length : Int))), _, rfl, by (repeat (first | exact Off.of_over _ _ _ | refine Off.upd ?_ (by decide) _ | refine Off.overs ?_ (by decide) _)), ⟨by first | rfl | exact congrArg (Value.int _) (by omega) | (simp; done), by first | rfl | exact congrArg (Value.int _) (by omega) | (simp; done), trivial⟩, ⟨E, EL1, ?_⟩, ?_⟩
  ·
   exact ⟨by omega, by omega, by omega, h4⟩
  ·
   (dsimp only; omega)
 ·
  refine c_exit ?_
  refine x_then ?_
  refine x_then ?_
  refine x_hit ?_
  refine n_then ?_
  refine c_seq ?_
  refine wp_reg zd ?_
  refine l_v (v_move (t := .int _ _) rfl) ?_
  refine l_v (v_move (t := .int _ _) rfl) ?_
  refine l_v (v_gtr rfl rfl) ?_
  refine l_v (v_assign (t := .bool _) rfl) ?_
  refine l_nil ?_
  refine n_then ?_
  refine c_ret ?_
  refine ret1v rfl (by decide) (zvB rfl) ?_
  refine ⟨?_, E⟩
  have h5 : muI m (l.drop i) n = n := by
   by_cases hn : n ≤ m
   ·
    have : ¬ i < l.length := fun h => by simp only [Bool.and_eq_false_iff, decide_eq_false_iff_not] at hlt; omega
    rw [List.drop_eq_nil_of_le (by omega)]; rfl
   ·
    exact muI_stop hn
  rw [← h4, h5]
theorem reps_by8 {w : World} {F : Nat → Prop} {v0 v1 v2 v3 v4 v5 v6 v7 : Value} {y0 y1 y2 y3 y4 y5 y6 y7 : List UInt8} (r0 : Bv w F v0 y0) (r1 : Bv w F v1 y1) (r2 : Bv w F v2 y2) (r3 : Bv w F v3 y3) (r4 : Bv w F v4 y4) (r5 : Bv w F v5 y5) (r6 : Bv w F v6 y6) (r7 : Bv w F v7 y7) :
    ∀ i x, [y0, y1, y2, y3, y4, y5, y6, y7][i]? = some x → (tSl tU8).rep w F ((([v0, v1, v2, v3, v4, v5, v6, v7] : List Value).drop (i * (tSl tU8).sz)).take (tSl tU8).sz) x := by
  intro i x hx
  match i, hx with
  | 0, hx => obtain rfl : y0 = x := by simpa using hx
             exact ⟨v0, rfl, r0⟩
  | 1, hx => obtain rfl : y1 = x := by simpa using hx
             exact ⟨v1, rfl, r1⟩
  | 2, hx => obtain rfl : y2 = x := by simpa using hx
             exact ⟨v2, rfl, r2⟩
  | 3, hx => obtain rfl : y3 = x := by simpa using hx
             exact ⟨v3, rfl, r3⟩
  | 4, hx => obtain rfl : y4 = x := by simpa using hx
             exact ⟨v4, rfl, r4⟩
  | 5, hx => obtain rfl : y5 = x := by simpa using hx
             exact ⟨v5, rfl, r5⟩
  | 6, hx => obtain rfl : y6 = x := by simpa using hx
             exact ⟨v6, rfl, r6⟩
  | 7, hx => obtain rfl : y7 = x := by simpa using hx
             exact ⟨v7, rfl, r7⟩
  | i + 8, hx => simp at hx
set_option maxHeartbeats 4000000 in
theorem Long_c {w : World} {F : Nat → Prop} {v : Value} {c : CmV} {m : Int} (HG1 : AgV tCm w F v c) (hm0 : 0 ≤ m) (hm1 : m ≤ 60000) : CallsR Tryz.prog 5 #[v, .int .i64 m] w (fun o w' => o = .bool (longC m c) ∧ Ext w w') := by
 obtain ⟨k, rq, mv, en, an, key, g⟩ := c
 obtain ⟨a1, c1, a2, c2, a3, c3, a4, c4, a5, c5, a6, c6, a7, c7, a8, c8, a9, c9, rfl, HG2, HG3, HS3, HS4, HS5, hi1, hi2⟩ := HG1.cm
 obtain ⟨_, _, _, _, _, _, _, _, h0, HSa, HSb, HSc, HSd, _⟩ := HG2.rqAk.ak
 simp only [Value.agg.injEq, Array.mk.injEq, List.cons.injEq, Value.int.injEq, Value.slice.injEq, Value.bool.injEq, true_and, and_true] at h0
 obtain ⟨⟨rfl, rfl⟩, ⟨rfl, rfl⟩, ⟨rfl, rfl⟩, rfl, rfl⟩ := h0
 obtain ⟨_, _, _, _, h0, HSe, HSf, _⟩ := HG3.mv
 simp only [Value.agg.injEq, Array.mk.injEq, List.cons.injEq, Value.int.injEq, Value.slice.injEq, Value.bool.injEq, true_and, and_true] at h0
 obtain ⟨⟨rfl, rfl⟩, rfl, rfl⟩ := h0
 refine enter 57 Tryz.func5 rfl rfl (by simp) ?_
 refine c_seq ?_
 have E := Keep.refl (K := NoK) w
 replace HSa := HSa.all
 replace HSb := HSb.all
 replace HSc := HSc.all
 replace HSd := HSd.all
 replace HSe := HSe.all
 replace HSf := HSf.all
 replace HS3 := HS3.all
 replace HS4 := HS4.all
 replace HS5 := HS5.all
 refine wp_reg zd ?_
 refine l_to (to_box (zvA rfl) ?_)
 rintro b1 w1 zb1 HB1 e1 z1
 have zs_e1 := e1.size
 replace E := E.trans (Ext.keep e1)
 replace HSa := HSa.ext e1
 replace HSb := HSb.ext e1
 replace HSc := HSc.ext e1
 replace HSd := HSd.ext e1
 replace HSe := HSe.ext e1
 replace HSf := HSf.ext e1
 replace HS3 := HS3.ext e1
 replace HS4 := HS4.ext e1
 replace HS5 := HS5.ext e1
 try simp only [Value.cells] at HB1
 refine l_v (v_assign rfl) ?_
 refine l_nil ?_
 refine n_then ?_
 refine c_seq ?_
 refine wp_any zk ?_
 have e101 : Ext w1 { w1 with drawn := w1.drawn + 1 } := Keep.drawn _ _
 generalize hw101 : ({ w1 with drawn := w1.drawn + 1 } : World) = w101 at e101 ⊢
 clear hw101
 have zs_e101 := e101.size
 replace E := E.trans (Ext.keep e101)
 replace HSa := HSa.ext e101
 replace HSb := HSb.ext e101
 replace HSc := HSc.ext e101
 replace HSd := HSd.ext e101
 replace HSe := HSe.ext e101
 replace HSf := HSf.ext e101
 replace HS3 := HS3.ext e101
 replace HS4 := HS4.ext e101
 replace HS5 := HS5.ext e101
 replace HB1 := HB1.ext e101
 refine r_cut 8 rfl zd zd zd ?_
 refine wp_regJW (fun k => w101.heap.size ≤ k) (AlJ w101.heap.size [⟨5, some 7, 26, ([.int .i64 0, .slice none 0 0, .slice none 0 0, .slice none 0 0, .slice none 0 0, .bool false, .int .i64 0] : List Value), ([.int .i64 rq.2.2.1, .slice a1 rq.2.2.2.1.length c1, .slice a2 rq.2.2.2.2.1.length c2, .slice a3 rq.2.2.2.2.2.1.length c3, .slice a4 rq.2.2.2.2.2.2.1.length c4, .bool rq.2.2.2.2.2.2.2.1, .int .i64 rq.2.2.2.2.2.2.2.2] : List Value)⟩, ⟨6, none, 30, ([.int .i64 0, .slice none 0 0, .slice none 0 0, .bool false, .int .i64 0, .int .i64 0] : List Value), ([.int .i64 0, .slice none 0 0, .slice none 0 0, .bool false, .int .i64 0, .int .i64 0] : List Value)⟩]) zd zd (fun vals done hd => AlJ.start (Nat.le_refl _) (fun a ha => hd a.al (al_lt (n := 8) rfl a ha))) ?_
 refine rj_vJ (fun done vals w hR hcl hdk hJ hdn hd => v_fieldAddr (off := 1) (ft := 28) zk rfl) (fun done vals w hdk hJ => hJ.src (Keep.refl _) rfl) ?_
 refine rj_vJ (fun done vals w hR hcl hdk hJ hdn hd => v_fieldAddr (off := 2) (ft := 26) zk (hd 0 rfl)) (fun done vals w hdk hJ => hJ.src (Keep.refl _) rfl) ?_
 refine rj_vJ (fun done vals w hR hcl hdk hJ hdn hd => v_loadA zk (hd 1 rfl) (by first | exact (show Pv _ _ [_, _, _, _, _, _, _] from pv_sub 3 7 (HB1.keep hR dj4).pv) | exact (show Pv _ _ [_, _, _, _, _, _, _] from pv_sub 2 7 (HB1.keep hR dj4).pv) | exact pv_at 2 (HB1.keep hR dj4).pv | assumption) rfl) (fun done vals w hdk hJ => hJ.src (Keep.refl _) rfl) ?_
 refine rj_vJ (fun done vals w hR hcl hdk hJ hdn hd => v_fieldAddr (off := 10) (ft := 30) zk rfl) (fun done vals w hdk hJ => hJ.src (Keep.refl _) rfl) ?_
 refine rj_vJ (fun done vals w hR hcl hdk hJ hdn hd => v_loadA zk (hd 3 rfl) (by first | exact (show Pv _ _ [_, _, _, _, _, _] from pv_sub 10 6 (HB1.keep hR dj4).pv) | exact pv_at 10 (HB1.keep hR dj4).pv | assumption) rfl) (fun done vals w hdk hJ => hJ.src (Keep.refl _) rfl) ?_
 refine rj_d (fun done vals w hR hcl hdk hJ hdn hd => to_alloc (z := .agg #[.int .i64 0, .slice none 0 0, .slice none 0 0, .slice none 0 0, .slice none 0 0, .bool false, .int .i64 0]) (by unfold kZero; kernel_rfl) fun b w1 hb hB e hz => ⟨Ext.keep e, hJ.al (i := 0) rfl rfl hdk hcl (fun m a hm he => alOne_al (i := 0) (m := m) rfl rfl hm he) (fun a ha => alSt_ne rfl ha (List.mem_of_getElem? (i := 0) rfl)) (fun s hs => by cases hs; exact ⟨_, rfl, rfl⟩) hb hB e⟩) ?_
 refine rj_d (fun done vals w hR hcl hdk hJ hdn hd => to_alloc (z := .agg #[.int .i64 0, .slice none 0 0, .slice none 0 0, .bool false, .int .i64 0, .int .i64 0]) (by unfold kZero; kernel_rfl) fun b w1 hb hB e hz => ⟨Ext.keep e, hJ.al (i := 1) rfl rfl hdk hcl (fun m a hm he => alOne_al (i := 1) (m := m) rfl rfl hm he) (fun a ha => alSt_ne rfl ha (List.mem_of_getElem? (i := 1) rfl)) (fun s hs => by cases hs) hb hB e⟩) ?_
 refine rj_d (fun done vals w hR hcl hdk hJ hdn hd => by
   obtain ⟨b, hb, hn, hB⟩ := hJ.at (i := 0) rfl rfl hdk (hdn 5 rfl)
   exact to_storeA (n := 7) (hb : _ = Value.pointer (some ⟨b, 0, none⟩)) rfl (hd 2 rfl) zk rfl (by first | (simp [slice_one]; done) | (simp only [List.forall_mem_cons, List.cons_append, List.nil_append]; repeat' (first | exact rfl | apply And.intro | (intro u hu; cases hu; done)))) hB (of_decide_eq_true rfl) (fun w1 hB1 kk z => ⟨kk.mono (fun i _ h => by rw [h]; exact hn), hJ.st (i := 0) rfl rfl hdk (hdn 5 rfl) (fun m a hm he => alOne_st (i := 0) (m := m) rfl rfl hm rfl he) (fun a ha h => alSt_ne (a := _) rfl (List.mem_of_getElem? (i := 0) rfl) ha (by rw [h])) rfl (fun m a hm he => alOne_al (i := 0) (m := m) rfl rfl hm he) hb hB1 kk⟩)) ?_
 refine rj_nil (fun vals w102 k102 J102 => ?_)
 rintro _ - rfl _ - rfl _ - rfl _ - rfl _ - rfl v5 qv5 - v6 qv6 - _ - -
 have zs_k102 := k102.size
 obtain ⟨b5, hb5, zb5, HB5⟩ := J102.fin (i := 0) rfl
 try dsimp only at HB5
 have zl5 := HB5.lt
 obtain ⟨b6, hb6, zb6, HB6⟩ := J102.fin (i := 1) rfl
 try dsimp only at HB6
 have zl6 := HB6.lt
 have ne5_6 := J102.ne (i := 0) (m := 1) rfl rfl (by dsimp only; decide) hb5 hb6
 obtain rfl := qv5.trans hb5
 obtain rfl := qv6.trans hb6
 replace E := E.step k102 dj3
 replace HSa := HSa.keep k102 dj1
 replace HSb := HSb.keep k102 dj1
 replace HSc := HSc.keep k102 dj1
 replace HSd := HSd.keep k102 dj1
 replace HSe := HSe.keep k102 dj1
 replace HSf := HSf.keep k102 dj1
 replace HS3 := HS3.keep k102 dj1
 replace HS4 := HS4.keep k102 dj1
 replace HS5 := HS5.keep k102 dj1
 replace HB1 := HB1.keep k102 dj4
 refine fin_nilJ ?_
 refine n_then ?_
 refine r_one zd rfl ?_
 refine l_to (to_storeA (n := 6) rfl rfl (zvA rfl) zk rfl (by first | (simp [slice_one]; done) | (simp only [List.forall_mem_cons, List.cons_append, List.nil_append]; repeat' (first | exact rfl | apply And.intro | (intro u hu; cases hu; done)))) HB6 dj5 ?_)
 rintro w66 HB6 k66 z66
 have zs_k66 := k66.size
 try simp only [List.set_cons_zero, List.set_cons_succ, setAt, List.take, List.drop, List.nil_append, List.cons_append, List.append_nil, List.length_cons, List.length_nil] at HB6
 replace E := E.step k66 dj3
 replace HSa := HSa.keep k66 dj1
 replace HSb := HSb.keep k66 dj1
 replace HSc := HSc.keep k66 dj1
 replace HSd := HSd.keep k66 dj1
 replace HSe := HSe.keep k66 dj1
 replace HSf := HSf.keep k66 dj1
 replace HS3 := HS3.keep k66 dj1
 replace HS4 := HS4.keep k66 dj1
 replace HS5 := HS5.keep k66 dj1
 replace HB1 := HB1.keep k66 dj4
 replace HB5 := HB5.keep k66 dj4
 refine l_nil ?_
 refine n_then ?_
 refine c_seq ?_
 refine wp_reg zd ?_
 refine l_v (v_assign rfl) ?_
 refine l_nil ?_
 refine n_then ?_
 refine c_seq ?_
 refine wp_reg zd ?_
 refine l_v (v_fieldAddr (off := 1) (ft := 24) zk rfl) ?_
 refine l_v (v_load zk rfl (by first | exact HB6.pv 1 _ rfl | exact HB5.pv 1 _ rfl | exact HB1.pv 1 _ rfl | assumption)) ?_
 refine l_v (v_fieldAddr (off := 2) (ft := 24) zk rfl) ?_
 refine l_v (v_load zk rfl (by first | exact HB6.pv 2 _ rfl | exact HB5.pv 2 _ rfl | exact HB1.pv 2 _ rfl | assumption)) ?_
 refine l_v (v_fieldAddr (off := 3) (ft := 24) zk rfl) ?_
 refine l_v (v_load zk rfl (by first | exact HB6.pv 3 _ rfl | exact HB5.pv 3 _ rfl | exact HB1.pv 3 _ rfl | assumption)) ?_
 refine l_v (v_fieldAddr (off := 4) (ft := 24) zk rfl) ?_
 refine l_v (v_load zk rfl (by first | exact HB6.pv 4 _ rfl | exact HB5.pv 4 _ rfl | exact HB1.pv 4 _ rfl | assumption)) ?_
 refine l_v (v_fieldAddr (off := 1) (ft := 24) zk rfl) ?_
 refine l_v (v_load zk rfl (by first | exact HB6.pv 1 _ rfl | exact HB5.pv 1 _ rfl | exact HB1.pv 1 _ rfl | assumption)) ?_
 refine l_v (v_fieldAddr (off := 2) (ft := 24) zk rfl) ?_
 refine l_v (v_load zk rfl (by first | exact HB6.pv 2 _ rfl | exact HB5.pv 2 _ rfl | exact HB1.pv 2 _ rfl | assumption)) ?_
 refine l_v (v_fieldAddr (off := 17) (ft := 24) zk rfl) ?_
 refine l_v (v_load zk rfl (by first | exact HB6.pv 17 _ rfl | exact HB5.pv 17 _ rfl | exact HB1.pv 17 _ rfl | assumption)) ?_
 refine l_v (v_fieldAddr (off := 18) (ft := 24) zk rfl) ?_
 refine l_v (v_load zk rfl (by first | exact HB6.pv 18 _ rfl | exact HB5.pv 18 _ rfl | exact HB1.pv 18 _ rfl | assumption)) ?_
 refine l_to (to_sliceN (t := tSl tU8) (xs := [rq.2.2.2.1, rq.2.2.2.2.1, rq.2.2.2.2.2.1, rq.2.2.2.2.2.2.1, mv.2.1, mv.2.2.1, an, key]) (et := 24) (bytes := 24) (zl := [.slice none 0 0, .slice none 0 0, .slice none 0 0, .slice none 0 0, .slice none 0 0, .slice none 0 0, .slice none 0 0, .slice none 0 0]) zk (by decide) (by decide) (by unfold kZeros; kernel_rfl) rfl (cells := [_, _, _, _, _, _, _, _]) rfl rfl rfl ((reps_by8 HSa.allB HSb.allB HSc.allB HSd.allB HSe.allB HSf.allB HS4.allB HS5.allB)) ?_)
 rintro b2 w2 zb2 HO2 e2 z2
 have zs_e2 := e2.size
 replace E := E.trans (Ext.keep e2)
 replace HSa := HSa.ext e2
 replace HSb := HSb.ext e2
 replace HSc := HSc.ext e2
 replace HSd := HSd.ext e2
 replace HSe := HSe.ext e2
 replace HSf := HSf.ext e2
 replace HS3 := HS3.ext e2
 replace HS4 := HS4.ext e2
 replace HS5 := HS5.ext e2
 replace HB1 := HB1.ext e2
 replace HB5 := HB5.ext e2
 replace HB6 := HB6.ext e2
 have zo_HO2 := fun (b : Nat) h => HO2.own_lt (b := b) h
 refine l_v (v_assign (t := .slice _ _ _) rfl) ?_
 refine l_nil ?_
 refine n_then ?_
 refine c_seq ?_
 refine c_seq ?_
 refine wp_reg zd ?_
 refine l_v (v_assign rfl) ?_
 refine l_nil ?_
 refine n_then ?_
 refine c_block ?_
 refine c_loop (τ := Nat × Int) [7, 9, 32, 33, 34, 35, 36, 37, 38, 39, 40, 41, 42, 43, 44, 45, 46, 47] (fun (i, n) => [(7, .int .i64 n), (9, .int .i64 i)]) (fun (i, n) W => Ext w W ∧ Keep (NoK) w2 W ∧ i ≤ 8 ∧ 0 ≤ n ∧ n ≤ (i : Int) * 60001 ∧ n + sumL m (List.drop i [rq.2.2.2.1, rq.2.2.2.2.1, rq.2.2.2.2.2.1, rq.2.2.2.2.2.2.1, mv.2.1, mv.2.2.1, an, key]) = sumL m [rq.2.2.2.1, rq.2.2.2.2.1, rq.2.2.2.2.2.1, rq.2.2.2.2.2.2.1, mv.2.1, mv.2.2.1, an, key]) (fun (i, n) => 8 - i) (0, 0) (by exact ⟨rfl, rfl, trivial⟩) (by exact ⟨E, Keep.refl _, Nat.zero_le _, by omega, by omega, by rw [List.drop_zero, Int.zero_add]⟩) ?_
 rintro ⟨i, n⟩ w103 j ⟨E, EL1, h1, h2, h3, h4⟩
 have zs_EL1 := EL1.size
 replace HSa := HSa.ext EL1
 replace HSb := HSb.ext EL1
 replace HSc := HSc.ext EL1
 replace HSd := HSd.ext EL1
 replace HSe := HSe.ext EL1
 replace HSf := HSf.ext EL1
 replace HS3 := HS3.ext EL1
 replace HS4 := HS4.ext EL1
 replace HS5 := HS5.ext EL1
 replace HB1 := HB1.ext EL1
 replace HB5 := HB5.ext EL1
 replace HB6 := HB6.ext EL1
 replace HO2 := HO2.ext EL1
 refine c_seq ?_
 refine c_seq ?_
 refine wp_reg zd ?_
 refine l_v (v_move (t := .int _ _) rfl) ?_
 refine l_v (v_move (t := .slice _ _ _) rfl) ?_
 refine l_v (v_len (et := 24) zk rfl) ?_
 refine l_v (v_lss rfl rfl) ?_
 refine l_nil ?_
 refine n_then ?_
 refine c_cond rfl rfl (fun hlt => ?_) (fun hlt => ?_)
 ·
  have hlt := dtrue hlt
  obtain ⟨r, hx, hdr⟩ := getE (l := [rq.2.2.2.1, rq.2.2.2.2.1, rq.2.2.2.2.2.1, rq.2.2.2.2.2.2.1, mv.2.1, mv.2.2.1, an, key]) (i := i) (by simp; omega)
  obtain ⟨q, cs, hq, hF, _, HPq, hr⟩ := HO2.view.el hx
  cases hq
  obtain ⟨ar, cr, rfl, HSr⟩ := tBy_cells hr
  rw [hdr, sumL, ← Int.add_assoc] at h4
  refine c_skip ?_
  refine n_then ?_
  refine c_seq ?_
  refine c_block ?_
  refine wp_reg zd ?_
  refine l_v (v_move (t := .int _ _) rfl) ?_
  refine l_v (v_move (t := .slice _ _ _) rfl) ?_
  refine l_v (v_move (t := .int _ _) rfl) ?_
  refine l_v (v_indexAddr (et := 24) (sz := 1) (k := i) zk zk rfl rfl (by first | rfl | omega) (by simp at hlt; omega)) ?_
  refine l_v (v_load zk rfl (by first | exact pv_1 HPq | exact HB6.cell rfl | exact HB5.cell rfl | exact HB1.cell rfl | assumption)) ?_
  refine l_v (v_len (et := 5) zk rfl) ?_
  refine l_v (v_move (t := .int _ _) rfl) ?_
  refine l_v (v_add rfl rfl (by first | exact wr_i64 (by omega) (by omega) | rfl)) ?_
  refine l_v (vmin rfl rfl) ?_
  refine l_v (v_add rfl rfl (by first | exact wr_i64 (by omega) (by omega) | rfl)) ?_
  refine l_v (v_assign (t := .int _ _) rfl) ?_
  refine l_nil ?_
  refine n_blk ?_
  refine n_then ?_
  refine wp_reg zd ?_
  refine l_v (v_move (t := .int _ _) rfl) ?_
  refine l_v (v_add rfl rfl (by first | exact wr_i64 (by omega) (by omega) | rfl)) ?_
  refine l_v (v_assign (t := .int _ _) rfl) ?_
  refine l_nil ?_
  refine n_then ?_
  refine ⟨(i + 1, n + (if m + 1 < (r.length : Int) then m + 1 else (r.length : Int))), _, rfl, by (repeat (first | exact Off.of_over _ _ _ | refine Off.upd ?_ (by decide) _ | refine Off.overs ?_ (by decide) _)), ⟨by first | rfl | exact congrArg (Value.int _) (by omega) | (simp; done), by first | rfl | exact congrArg (Value.int _) (by omega) | (simp; done), trivial⟩, ⟨E, EL1, ?_⟩, ?_⟩
  ·
   exact ⟨by simp at hlt; omega, by omega, by omega, h4⟩
  ·
   (dsimp only; omega)
 ·
  have hlt := dfalse hlt
  obtain rfl : i = 8 := by simp at hlt; omega
  have h5 : n = sumL m [rq.2.2.2.1, rq.2.2.2.2.1, rq.2.2.2.2.2.1, rq.2.2.2.2.2.2.1, mv.2.1, mv.2.2.1, an, key] := by rw [← h4]; exact (Int.add_zero n).symm
  refine c_exit ?_
  refine x_then ?_
  refine x_then ?_
  refine x_hit ?_
  refine n_then ?_
  refine c_seq ?_
  refine wp_reg zd ?_
  refine l_v (v_move (t := .int _ _) rfl) ?_
  refine l_v (v_move (t := .int _ _) rfl) ?_
  refine l_v (v_gtr rfl rfl) ?_
  refine l_v (v_move (t := .bool _) rfl) ?_
  refine l_g1 rfl rfl (fun hG => v_fieldAddr (off := 16) (ft := 31) zk rfl) ?_
  refine l_g1 rfl rfl (fun hG => v_load zk (gd hG rfl) (by first | exact HB6.pv 16 _ rfl | exact HB5.pv 16 _ rfl | exact HB1.pv 16 _ rfl | assumption)) ?_
  refine l_g1 rfl rfl (fun hG => v_move (t := .int _ _) rfl) ?_
  refine l_g1f rfl rfl (fun hG => to_f2 zk (gd hG rfl) (gd hG rfl) (muchI_c HS3 hm0 hm1)) ?_
  rintro w104 e104
  have zs_e104 := e104.size
  replace E := E.trans (Ext.keep e104)
  replace HSa := HSa.ext e104
  replace HSb := HSb.ext e104
  replace HSc := HSc.ext e104
  replace HSd := HSd.ext e104
  replace HSe := HSe.ext e104
  replace HSf := HSf.ext e104
  replace HS3 := HS3.ext e104
  replace HS4 := HS4.ext e104
  replace HS5 := HS5.ext e104
  replace HB1 := HB1.ext e104
  replace HB5 := HB5.ext e104
  replace HB6 := HB6.ext e104
  replace HO2 := HO2.ext e104
  refine l_v (v_or rfl rfl) ?_
  refine l_v (v_assign (t := .bool _) rfl) ?_
  refine l_nil ?_
  refine n_then ?_
  refine c_ret ?_
  refine ret1v rfl (by decide) (zvB rfl) ?_
  exact ⟨by rw [longC, ← h5], E⟩
end Go.Proofs.YtogafjlbpodgjaaGreat
