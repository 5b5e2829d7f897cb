/- A part of the proof: steps and lemmas for the walks through the given program. -/
import Derived.Test.YtogafjlbpodgjaaC17
namespace Go.Proofs.Ytogafjlbpodgjaa
open Go.Vc
set_option linter.unusedVariables false
set_option linter.unusedSimpArgs false
set_option maxRecDepth 100000
theorem num_c {w : World} {n : Int} : CallsR Try.prog 21 #[.int .i64 n] w (fun o w' => o = .int .i64 n ∧ Ext w w') := by
  refine enter 4 Try.func21 rfl rfl (by simp) ?_
  refine c_seq ?_
  have E := Keep.refl (K := NoK) w
  refine wp_reg zd ?_
  refine l_v (v_assign rfl) ?_
  refine l_nil ?_
  refine n_then ?_
  refine c_seq ?_
  refine wp_reg zd ?_
  refine l_v (v_move (t := .int _ _) rfl) ?_
  refine l_v (v_assign (t := .int _ _) rfl) ?_
  refine l_nil ?_
  refine n_then ?_
  refine c_ret ?_
  refine ret1v rfl (by decide) (zvI rfl) ?_
  exact ⟨rfl, E⟩
abbrev kC1 : CmV := (1, rq0, mv0, [], [], [], 0)
abbrev kC2 : CmV := (6, rq0, mv0, [], [], [97], 0)
abbrev kC3 : CmV := (2, (1, 2, (1, [107], [], [], [], false, 0)), mv0, [], [], [], 0)
theorem kB1 : cmW kC1 = [1] := by kernel_rfl
theorem kB2 : cmW kC2 = [6, 1, 97] := by kernel_rfl
theorem kB3 : cmW kC3 = [2, 1, 2, 1, 1, 107] := by kernel_rfl
theorem kM1 : mayCm kC1 = true := by kernel_rfl
theorem kM2 : mayCm kC2 = true := by kernel_rfl
theorem kM3 : mayCm kC3 = true := by kernel_rfl
theorem kR1 : rdAll [1, 0] = none := by rfl
theorem kR2 : rdAll [11] = none := by rfl
theorem kA1 : mayAk (4, [107], [], [], [120], true, 0) = false := by kernel_rfl
theorem kA2 : mayAk (5, [], [], [], [], false, 33) = false := by kernel_rfl
theorem kV1 : mayMv (1, [97], [97], true, 1, 2) = false := by kernel_rfl
theorem CBytes_k {w : World} {F : Nat → Prop} {v : Value} {c : CmV} {l : List UInt8} (HG0 : AgV tCm w F v c) (hm : mayCm c = true) (hl : cmW c = l) : CallsR Try.prog 20 #[v] w (fun o w' => (∃ q d, o = .tuple #[.slice (some q) l.length d, .int .i64 0] ∧ Bv w' (fun i => w.heap.size ≤ i) (.slice (some q) l.length d) l) ∧ Ext w w') := by subst hl; exact CBytes_t HG0 hm
theorem CRead_z {w : World} {F : Nat → Prop} {v : Value} {l : List UInt8} (HS1 : Bv w F v l) (hl : l.length ≤ 1000000) (hn : rdAll l = none) : CallsR Try.prog 19 #[v] w (fun o w' => (∃ a1 c1 a2 c2 a3 c3 a4 c4 a5 c5 a6 c6 a7 c7 a8 c8 a9 c9, o = .tuple #[.agg #[.int .i64 0, .int .i64 0, .int .i64 0, .int .i64 0, .slice a1 0 c1, .slice a2 0 c2, .slice a3 0 c3, .slice a4 0 c4, .bool false, .int .i64 0, .int .i64 0, .slice a5 0 c5, .slice a6 0 c6, .bool false, .int .i64 0, .int .i64 0, .slice a7 0 c7, .slice a8 0 c8, .slice a9 0 c9, .int .i64 0], .int .i64 4]) ∧ Ext w w') := by
  refine CallsR.mono (CRead_c HS1 hl) fun o w' ⟨⟨u, c, e, ho, HG, h⟩, e1⟩ => ⟨?_, e1⟩
  rcases h with ⟨_, h⟩ | ⟨rfl, rfl, _⟩
  · rw [hn] at h; cases h
  · obtain ⟨a1, c1, a2, c2, a3, c3, a4, c4, a5, c5, a6, c6, a7, c7, a8, c8, a9, c9, rfl, _⟩ := AgV.cm (HG.imp imp_cm)
    exact ⟨a1, c1, a2, c2, a3, c3, a4, c4, a5, c5, a6, c6, a7, c7, a8, c8, a9, c9, ho⟩
theorem MayAsk_k {w : World} {F : Nat → Prop} {v : Value} {a : AkV} {b : Bool} (HG1 : AgV tAk w F v a) (hb : mayAk a = b) : CallsR Try.prog 22 #[v] w (fun o w' => o = .bool b ∧ Ext w w') := by subst hb; exact MayAsk_c HG1
theorem MayMove_k {w : World} {F : Nat → Prop} {v : Value} {a : MvV} {b : Bool} (HG1 : AgV tMv w F v a) (hb : mayMv a = b) : CallsR Try.prog 23 #[v] w (fun o w' => o = .bool b ∧ Ext w w') := by subst hb; exact MayMove_c HG1
set_option maxHeartbeats 8000000 in
theorem known_c {w : World} : CallsR Try.prog 13 #[] w (fun o w' => o = .bool true ∧ Ext w w') := by
 refine enter 103 Try.func13 rfl rfl (by simp) ?_
 refine c_seq ?_
 have E := Keep.refl (K := NoK) w
 refine wp_reg zd ?_
 refine l_v (v_assign rfl) ?_
 refine l_nil ?_
 refine n_then ?_
 refine c_seq ?_
 refine wp_reg zd ?_
 refine l_v (v_build (pl := [(0, 1), (1, 9), (10, 6), (16, 1), (17, 1), (18, 1), (19, 1)]) (z := .agg #[.int .i64 0, .int .i64 0, .int .i64 0, .int .i64 0, .slice none 0 0, .slice none 0 0, .slice none 0 0, .slice none 0 0, .bool false, .int .i64 0, .int .i64 0, .slice none 0 0, .slice none 0 0, .bool false, .int .i64 0, .int .i64 0, .slice none 0 0, .slice none 0 0, .slice none 0 0, .int .i64 0]) (zl := [.int .i64 0, .int .i64 0, .int .i64 0, .int .i64 0, .slice none 0 0, .slice none 0 0, .slice none 0 0, .slice none 0 0, .bool false, .int .i64 0, .int .i64 0, .slice none 0 0, .slice none 0 0, .bool false, .int .i64 0, .int .i64 0, .slice none 0 0, .slice none 0 0, .slice none 0 0, .int .i64 0]) zk (by unfold kZero; kernel_rfl) rfl rfl (cells := [_, _, _, _, _, _, _, _, _, _, _, _, _, _, _, _, _, _, _, _]) rfl) ?_
 refine l_to (to_f1 zk (zvA rfl) (CallsR.mono (CBytes_k (AgV.mkCm (F := NoK) ⟨by decide, by decide⟩ rq0_ag mv0_ag (SlV.nil _ _ _) (SlV.nil _ _ _) (SlV.nil _ _ _) ⟨by decide, by decide⟩) kM1 kB1) ?_))
 rintro _ w1 ⟨⟨q1, d1, rfl, HS1⟩, e1⟩
 have zs_e1 := e1.size
 replace HS1 := HS1.all
 replace E := E.trans (Ext.keep e1)
 refine l_v (v_move (t := .tuple _) rfl) ?_
 refine l_v (v_extract (t := .slice _ _ _) rfl rfl) ?_
 refine l_v (v_extract (t := .int _ _) rfl rfl) ?_
 refine l_v (v_assign (t := .slice _ _ _) rfl) ?_
 refine l_v (v_assign (t := .int _ _) rfl) ?_
 refine l_nil ?_
 refine n_then ?_
 refine c_seq ?_
 refine wp_reg zd ?_
 refine l_to (to_slice1 (t := tU8) (et := 5) (bytes := 1) zk (by decide) (zvI rfl) (rep_u8 (F := NoK) 97 rfl) ?_)
 rintro b2 w2 zb2 HO2 e2 z2
 have zs_e2 := e2.size
 replace E := E.trans (Ext.keep e2)
 replace HS1 := HS1.ext e2
 have zo_HO2 := fun (b : Nat) h => HO2.own_lt (b := b) h
 refine l_to (to_cvLit (et := 5) zk zk rfl HO2 ?_)
 rintro w102 HS2 k102 z102
 have zs_k102 := k102.size
 replace E := E.step k102 dj3
 replace HS1 := HS1.keep k102 dj1
 refine l_v (v_build (pl := [(0, 1), (1, 9), (10, 6), (16, 1), (17, 1), (18, 1), (19, 1)]) (z := .agg #[.int .i64 0, .int .i64 0, .int .i64 0, .int .i64 0, .slice none 0 0, .slice none 0 0, .slice none 0 0, .slice none 0 0, .bool false, .int .i64 0, .int .i64 0, .slice none 0 0, .slice none 0 0, .bool false, .int .i64 0, .int .i64 0, .slice none 0 0, .slice none 0 0, .slice none 0 0, .int .i64 0]) (zl := [.int .i64 0, .int .i64 0, .int .i64 0, .int .i64 0, .slice none 0 0, .slice none 0 0, .slice none 0 0, .slice none 0 0, .bool false, .int .i64 0, .int .i64 0, .slice none 0 0, .slice none 0 0, .bool false, .int .i64 0, .int .i64 0, .slice none 0 0, .slice none 0 0, .slice none 0 0, .int .i64 0]) zk (by unfold kZero; kernel_rfl) rfl rfl (cells := [_, _, _, _, _, _, _, _, _, _, _, _, _, _, _, _, _, _, _, _]) rfl) ?_
 refine l_to (to_f1 zk (zvA rfl) (CallsR.mono (CBytes_k (AgV.mkCm ⟨by decide, by decide⟩ rq0_ag mv0_ag (SlV.nil _ _ _) (SlV.nil _ _ _) HS2 ⟨by decide, by decide⟩) kM2 kB2) ?_))
 rintro _ w3 ⟨⟨q3, d3, rfl, HS3⟩, e3⟩
 have zs_e3 := e3.size
 replace HS3 := HS3.all
 replace E := E.trans (Ext.keep e3)
 replace HS1 := HS1.ext e3
 replace HS2 := HS2.ext e3
 refine l_v (v_move (t := .tuple _) rfl) ?_
 refine l_v (v_extract (t := .slice _ _ _) rfl rfl) ?_
 refine l_v (v_extract (t := .int _ _) rfl rfl) ?_
 refine l_v (v_assign (t := .slice _ _ _) rfl) ?_
 refine l_v (v_assign (t := .int _ _) rfl) ?_
 refine l_nil ?_
 refine n_then ?_
 refine c_seq ?_
 refine wp_reg zd ?_
 refine l_to (to_slice1 (t := tU8) (et := 5) (bytes := 1) zk (by decide) (zvI rfl) (rep_u8 (F := NoK) 107 rfl) ?_)
 rintro b4 w4 zb4 HO4 e4 z4
 have zs_e4 := e4.size
 replace E := E.trans (Ext.keep e4)
 replace HS1 := HS1.ext e4
 replace HS3 := HS3.ext e4
 have zo_HO4 := fun (b : Nat) h => HO4.own_lt (b := b) h
 refine l_to (to_cvLit (et := 5) zk zk rfl HO4 ?_)
 rintro w104 HS4 k104 z104
 have zs_k104 := k104.size
 replace E := E.step k104 dj3
 replace HS1 := HS1.keep k104 dj1
 replace HS3 := HS3.keep k104 dj1
 refine l_v (v_build (pl := [(0, 1), (1, 1), (2, 1), (3, 1), (4, 1), (5, 1), (6, 1)]) (z := .agg #[.int .i64 0, .slice none 0 0, .slice none 0 0, .slice none 0 0, .slice none 0 0, .bool false, .int .i64 0]) (zl := [.int .i64 0, .slice none 0 0, .slice none 0 0, .slice none 0 0, .slice none 0 0, .bool false, .int .i64 0]) zk (by unfold kZero; kernel_rfl) rfl rfl (cells := [_, _, _, _, _, _, _]) rfl) ?_
 refine l_v (v_build (pl := [(0, 1), (1, 1), (2, 7)]) (z := .agg #[.int .i64 0, .int .i64 0, .int .i64 0, .slice none 0 0, .slice none 0 0, .slice none 0 0, .slice none 0 0, .bool false, .int .i64 0]) (zl := [.int .i64 0, .int .i64 0, .int .i64 0, .slice none 0 0, .slice none 0 0, .slice none 0 0, .slice none 0 0, .bool false, .int .i64 0]) zk (by unfold kZero; kernel_rfl) rfl rfl (cells := [_, _, _, _, _, _, _, _, _]) rfl) ?_
 refine l_v (v_build (pl := [(0, 1), (1, 9), (10, 6), (16, 1), (17, 1), (18, 1), (19, 1)]) (z := .agg #[.int .i64 0, .int .i64 0, .int .i64 0, .int .i64 0, .slice none 0 0, .slice none 0 0, .slice none 0 0, .slice none 0 0, .bool false, .int .i64 0, .int .i64 0, .slice none 0 0, .slice none 0 0, .bool false, .int .i64 0, .int .i64 0, .slice none 0 0, .slice none 0 0, .slice none 0 0, .int .i64 0]) (zl := [.int .i64 0, .int .i64 0, .int .i64 0, .int .i64 0, .slice none 0 0, .slice none 0 0, .slice none 0 0, .slice none 0 0, .bool false, .int .i64 0, .int .i64 0, .slice none 0 0, .slice none 0 0, .bool false, .int .i64 0, .int .i64 0, .slice none 0 0, .slice none 0 0, .slice none 0 0, .int .i64 0]) zk (by unfold kZero; kernel_rfl) rfl rfl (cells := [_, _, _, _, _, _, _, _, _, _, _, _, _, _, _, _, _, _, _, _]) rfl) ?_
 refine l_to (to_f1 zk (zvA rfl) (CallsR.mono (CBytes_k (AgV.mkCm ⟨by decide, by decide⟩ (AgV.mkRq (tAk_mk HS4 (SlV.nil _ _ _) (SlV.nil _ _ _) (SlV.nil _ _ _) ⟨by decide, by decide⟩ ⟨by decide, by decide⟩) ⟨by decide, by decide⟩ ⟨by decide, by decide⟩) mv0_ag (SlV.nil _ _ _) (SlV.nil _ _ _) (SlV.nil _ _ _) ⟨by decide, by decide⟩) kM3 kB3) ?_))
 rintro _ w5 ⟨⟨q5, d5, rfl, HS5⟩, e5⟩
 have zs_e5 := e5.size
 replace HS5 := HS5.all
 replace E := E.trans (Ext.keep e5)
 replace HS1 := HS1.ext e5
 replace HS3 := HS3.ext e5
 replace HS4 := HS4.ext e5
 refine l_v (v_move (t := .tuple _) rfl) ?_
 refine l_v (v_extract (t := .slice _ _ _) rfl rfl) ?_
 refine l_v (v_extract (t := .int _ _) rfl rfl) ?_
 refine l_v (v_assign (t := .slice _ _ _) rfl) ?_
 refine l_v (v_assign (t := .int _ _) rfl) ?_
 refine l_nil ?_
 refine n_then ?_
 refine c_seq ?_
 refine wp_reg zd ?_
 refine l_to (to_sliceN (t := tU8) (xs := [1, 0]) (et := 5) (bytes := 1) (zl := [.int .u8 0, .int .u8 0]) zk (by decide) (by decide) (by unfold kZeros; kernel_rfl) rfl (cells := [_, _]) rfl rfl rfl (reps2 (rep_u8 (F := NoK) 1 rfl) (rep_u8 (F := NoK) 0 rfl)) ?_)
 rintro b10 w10 zb10 HO10 e10 z10
 have zs_e10 := e10.size
 replace E := E.trans (Ext.keep e10)
 replace HS1 := HS1.ext e10
 replace HS3 := HS3.ext e10
 replace HS5 := HS5.ext e10
 have zo_HO10 := fun (b : Nat) h => HO10.own_lt (b := b) h
 refine l_to (to_f1 zk (zvS rfl) (CallsR.mono (CRead_z HO10.view (by decide) kR1) ?_))
 rintro _ w11 ⟨⟨a10x0, c10x0, a10x1, c10x1, a10x2, c10x2, a10x3, c10x3, a10x4, c10x4, a10x5, c10x5, a10x6, c10x6, a10x7, c10x7, a10x8, c10x8, rfl⟩, e11⟩
 have zs_e11 := e11.size
 replace E := E.trans (Ext.keep e11)
 replace HS1 := HS1.ext e11
 replace HS3 := HS3.ext e11
 replace HS5 := HS5.ext e11
 replace HO10 := HO10.ext e11
 refine l_v (v_move (t := .tuple _) rfl) ?_
 refine l_v (v_extract (t := .agg _) rfl rfl) ?_
 refine l_v (v_extract (t := .int _ _) rfl rfl) ?_
 refine l_to (to_alloc (z := (.agg #[.int .i64 0, .int .i64 0, .int .i64 0, .int .i64 0, .slice none 0 0, .slice none 0 0, .slice none 0 0, .slice none 0 0, .bool false, .int .i64 0, .int .i64 0, .slice none 0 0, .slice none 0 0, .bool false, .int .i64 0, .int .i64 0, .slice none 0 0, .slice none 0 0, .slice none 0 0, .int .i64 0])) (by unfold kZero; kernel_rfl) ?_)
 rintro b12 w12 zb12 HB12 e12 z12
 have zs_e12 := e12.size
 replace E := E.trans (Ext.keep e12)
 replace HS1 := HS1.ext e12
 replace HS3 := HS3.ext e12
 replace HS5 := HS5.ext e12
 replace HO10 := HO10.ext e12
 try simp only [Value.cells] at HB12
 refine l_to (to_storeA (n := 20) rfl rfl (zvA rfl) zk rfl dj6 HB12 dj5 ?_)
 rintro w101 HX101 k101 z101
 have zs_k101 := k101.size
 replace E := E.step k101 dj3
 replace HS1 := HS1.keep k101 dj1
 replace HS3 := HS3.keep k101 dj1
 replace HS5 := HS5.keep k101 dj1
 replace HB12 := HX101
 clear HX101
 try simp only [zS, Nat.zero_add, Nat.reduceAdd, List.drop_nil] at HB12
 refine l_v (v_assign (t := .int _ _) rfl) ?_
 refine l_nil ?_
 refine n_then ?_
 refine c_seq ?_
 refine wp_reg zd ?_
 refine l_to (to_slice1 (t := tU8) (et := 5) (bytes := 1) zk (by decide) (zvI rfl) (rep_u8 (F := NoK) 11 rfl) ?_)
 rintro b20 w20 zb20 HO20 e20 z20
 have zs_e20 := e20.size
 replace E := E.trans (Ext.keep e20)
 replace HS1 := HS1.ext e20
 replace HS3 := HS3.ext e20
 replace HS5 := HS5.ext e20
 have zo_HO20 := fun (b : Nat) h => HO20.own_lt (b := b) h
 refine l_to (to_f1 zk (zvS rfl) (CallsR.mono (CRead_z HO20.view (by decide) kR2) ?_))
 rintro _ w21 ⟨⟨a20x0, c20x0, a20x1, c20x1, a20x2, c20x2, a20x3, c20x3, a20x4, c20x4, a20x5, c20x5, a20x6, c20x6, a20x7, c20x7, a20x8, c20x8, rfl⟩, e21⟩
 have zs_e21 := e21.size
 replace E := E.trans (Ext.keep e21)
 replace HS1 := HS1.ext e21
 replace HS3 := HS3.ext e21
 replace HS5 := HS5.ext e21
 replace HO20 := HO20.ext e21
 refine l_v (v_move (t := .tuple _) rfl) ?_
 refine l_v (v_extract (t := .agg _) rfl rfl) ?_
 refine l_v (v_extract (t := .int _ _) rfl rfl) ?_
 refine l_to (to_alloc (z := (.agg #[.int .i64 0, .int .i64 0, .int .i64 0, .int .i64 0, .slice none 0 0, .slice none 0 0, .slice none 0 0, .slice none 0 0, .bool false, .int .i64 0, .int .i64 0, .slice none 0 0, .slice none 0 0, .bool false, .int .i64 0, .int .i64 0, .slice none 0 0, .slice none 0 0, .slice none 0 0, .int .i64 0])) (by unfold kZero; kernel_rfl) ?_)
 rintro b22 w22 zb22 HB22 e22 z22
 have zs_e22 := e22.size
 replace E := E.trans (Ext.keep e22)
 replace HS1 := HS1.ext e22
 replace HS3 := HS3.ext e22
 replace HS5 := HS5.ext e22
 replace HO20 := HO20.ext e22
 try simp only [Value.cells] at HB22
 refine l_to (to_storeA (n := 20) rfl rfl (zvA rfl) zk rfl dj6 HB22 dj5 ?_)
 rintro w102 HX102 k102 z102
 have zs_k102 := k102.size
 replace E := E.step k102 dj3
 replace HS1 := HS1.keep k102 dj1
 replace HS3 := HS3.keep k102 dj1
 replace HS5 := HS5.keep k102 dj1
 replace HB22 := HX102
 clear HX102
 try simp only [zS, Nat.zero_add, Nat.reduceAdd, List.drop_nil] at HB22
 refine l_v (v_assign (t := .int _ _) rfl) ?_
 refine l_nil ?_
 refine n_then ?_
 refine c_seq ?_
 refine wp_reg zd ?_
 refine l_to (to_slice1 (t := tU8) (et := 5) (bytes := 1) zk (by decide) (zvI rfl) (rep_u8 (F := NoK) 107 rfl) ?_)
 rintro b30 w30 zb30 HO30 e30 z30
 have zs_e30 := e30.size
 replace E := E.trans (Ext.keep e30)
 replace HS1 := HS1.ext e30
 replace HS3 := HS3.ext e30
 replace HS5 := HS5.ext e30
 have zo_HO30 := fun (b : Nat) h => HO30.own_lt (b := b) h
 refine l_to (to_cvLit (et := 5) zk zk rfl HO30 ?_)
 rintro w130 HS30 k130 z130
 have zs_k130 := k130.size
 replace E := E.step k130 dj3
 replace HS1 := HS1.keep k130 dj1
 replace HS3 := HS3.keep k130 dj1
 replace HS5 := HS5.keep k130 dj1
 refine l_to (to_slice1 (t := tU8) (et := 5) (bytes := 1) zk (by decide) (zvI rfl) (rep_u8 (F := NoK) 120 rfl) ?_)
 rintro b31 w31 zb31 HO31 e31 z31
 have zs_e31 := e31.size
 replace E := E.trans (Ext.keep e31)
 replace HS1 := HS1.ext e31
 replace HS3 := HS3.ext e31
 replace HS5 := HS5.ext e31
 replace HS30 := HS30.ext e31
 have zo_HO31 := fun (b : Nat) h => HO31.own_lt (b := b) h
 refine l_to (to_cvLit (et := 5) zk zk rfl HO31 ?_)
 rintro w131 HS31 k131 z131
 have zs_k131 := k131.size
 replace E := E.step k131 dj3
 replace HS1 := HS1.keep k131 dj1
 replace HS3 := HS3.keep k131 dj1
 replace HS5 := HS5.keep k131 dj1
 replace HS30 := HS30.keep k131 dj1
 refine l_v (v_build (pl := [(0, 1), (1, 1), (2, 1), (3, 1), (4, 1), (5, 1), (6, 1)]) (z := .agg #[.int .i64 0, .slice none 0 0, .slice none 0 0, .slice none 0 0, .slice none 0 0, .bool false, .int .i64 0]) (zl := [.int .i64 0, .slice none 0 0, .slice none 0 0, .slice none 0 0, .slice none 0 0, .bool false, .int .i64 0]) zk (by unfold kZero; kernel_rfl) rfl rfl (cells := [_, _, _, _, _, _, _]) rfl) ?_
 refine l_to (to_alloc (z := (.agg #[.int .i64 0, .slice none 0 0, .slice none 0 0, .slice none 0 0, .slice none 0 0, .bool false, .int .i64 0])) (by unfold kZero; kernel_rfl) ?_)
 rintro b32 w32 zb32 HB32 e32 z32
 have zs_e32 := e32.size
 replace E := E.trans (Ext.keep e32)
 replace HS1 := HS1.ext e32
 replace HS3 := HS3.ext e32
 replace HS5 := HS5.ext e32
 replace HS30 := HS30.ext e32
 replace HS31 := HS31.ext e32
 try simp only [Value.cells] at HB32
 refine l_to (to_storeA (n := 7) rfl rfl (zvA rfl) zk rfl dj6 HB32 dj5 ?_)
 rintro w103 HX103 k103 z103
 have zs_k103 := k103.size
 replace E := E.step k103 dj3
 replace HS1 := HS1.keep k103 dj1
 replace HS3 := HS3.keep k103 dj1
 replace HS5 := HS5.keep k103 dj1
 replace HS30 := HS30.keep k103 dj1
 replace HS31 := HS31.keep k103 dj1
 replace HB32 := HX103
 clear HX103
 try simp only [zS, Nat.zero_add, Nat.reduceAdd, List.drop_nil] at HB32
 refine l_nil ?_
 refine n_then ?_
 refine c_seq ?_
 refine wp_reg zd ?_
 refine l_to (to_slice1 (t := tU8) (et := 5) (bytes := 1) zk (by decide) (zvI rfl) (rep_u8 (F := NoK) 97 rfl) ?_)
 rintro b33 w33 zb33 HO33 e33 z33
 have zs_e33 := e33.size
 replace E := E.trans (Ext.keep e33)
 replace HS1 := HS1.ext e33
 replace HS3 := HS3.ext e33
 replace HS5 := HS5.ext e33
 replace HS30 := HS30.ext e33
 replace HS31 := HS31.ext e33
 replace HB32 := HB32.ext e33
 have zo_HO33 := fun (b : Nat) h => HO33.own_lt (b := b) h
 refine l_to (to_cvLit (et := 5) zk zk rfl HO33 ?_)
 rintro w133 HS33 k133 z133
 have zs_k133 := k133.size
 replace E := E.step k133 dj3
 replace HS1 := HS1.keep k133 dj1
 replace HS3 := HS3.keep k133 dj1
 replace HS5 := HS5.keep k133 dj1
 replace HS30 := HS30.keep k133 dj1
 replace HS31 := HS31.keep k133 dj1
 replace HB32 := HB32.keep k133 dj4
 refine l_to (to_slice1 (t := tU8) (et := 5) (bytes := 1) zk (by decide) (zvI rfl) (rep_u8 (F := NoK) 97 rfl) ?_)
 rintro b34 w34 zb34 HO34 e34 z34
 have zs_e34 := e34.size
 replace E := E.trans (Ext.keep e34)
 replace HS1 := HS1.ext e34
 replace HS3 := HS3.ext e34
 replace HS5 := HS5.ext e34
 replace HS30 := HS30.ext e34
 replace HS31 := HS31.ext e34
 replace HB32 := HB32.ext e34
 replace HS33 := HS33.ext e34
 have zo_HO34 := fun (b : Nat) h => HO34.own_lt (b := b) h
 refine l_to (to_cvLit (et := 5) zk zk rfl HO34 ?_)
 rintro w134 HS34 k134 z134
 have zs_k134 := k134.size
 replace E := E.step k134 dj3
 replace HS1 := HS1.keep k134 dj1
 replace HS3 := HS3.keep k134 dj1
 replace HS5 := HS5.keep k134 dj1
 replace HS30 := HS30.keep k134 dj1
 replace HS31 := HS31.keep k134 dj1
 replace HB32 := HB32.keep k134 dj4
 replace HS33 := HS33.keep k134 dj1
 refine l_v (v_build (pl := [(0, 1), (1, 1), (2, 1), (3, 1), (4, 1), (5, 1)]) (z := .agg #[.int .i64 0, .slice none 0 0, .slice none 0 0, .bool false, .int .i64 0, .int .i64 0]) (zl := [.int .i64 0, .slice none 0 0, .slice none 0 0, .bool false, .int .i64 0, .int .i64 0]) zk (by unfold kZero; kernel_rfl) rfl rfl (cells := [_, _, _, _, _, _]) rfl) ?_
 refine l_to (to_alloc (z := (.agg #[.int .i64 0, .slice none 0 0, .slice none 0 0, .bool false, .int .i64 0, .int .i64 0])) (by unfold kZero; kernel_rfl) ?_)
 rintro b35 w35 zb35 HB35 e35 z35
 have zs_e35 := e35.size
 replace E := E.trans (Ext.keep e35)
 replace HS1 := HS1.ext e35
 replace HS3 := HS3.ext e35
 replace HS5 := HS5.ext e35
 replace HS30 := HS30.ext e35
 replace HS31 := HS31.ext e35
 replace HB32 := HB32.ext e35
 replace HS33 := HS33.ext e35
 replace HS34 := HS34.ext e35
 try simp only [Value.cells] at HB35
 refine l_to (to_storeA (n := 6) rfl rfl (zvA rfl) zk rfl dj6 HB35 dj5 ?_)
 rintro w104 HX104 k104 z104
 have zs_k104 := k104.size
 replace E := E.step k104 dj3
 replace HS1 := HS1.keep k104 dj1
 replace HS3 := HS3.keep k104 dj1
 replace HS5 := HS5.keep k104 dj1
 replace HS30 := HS30.keep k104 dj1
 replace HS31 := HS31.keep k104 dj1
 replace HB32 := HB32.keep k104 dj4
 replace HS33 := HS33.keep k104 dj1
 replace HS34 := HS34.keep k104 dj1
 replace HB35 := HX104
 clear HX104
 try simp only [zS, Nat.zero_add, Nat.reduceAdd, List.drop_nil] at HB35
 refine l_nil ?_
 refine n_then ?_
 refine c_seq ?_
 refine wp_reg zd ?_
 refine l_v (v_move (t := .slice _ _ _) rfl) ?_
 refine l_v (v_b2s (et := 5) zk zk zk rfl HS1) ?_
 refine l_v (OpVat.as (b := true) (v_seq rfl rfl) (by decide)) ?_
 refine l_v (v_move (t := .bool _) rfl) ?_
 refine l_gt rfl rfl (OpTo.of_v (v_move (t := .slice _ _ _) rfl) ?_)
 refine l_gt rfl rfl (OpTo.of_v (v_b2s (et := 5) zk zk zk rfl HS3) ?_)
 refine l_gt rfl rfl (OpTo.of_v (OpVat.as (b := true) (v_seq rfl rfl) (by decide)) ?_)
 refine l_v (v_andT rfl rfl) ?_
 refine l_v (v_move (t := .bool _) rfl) ?_
 refine l_gt rfl rfl (OpTo.of_v (v_move (t := .slice _ _ _) rfl) ?_)
 refine l_gt rfl rfl (OpTo.of_v (v_b2s (et := 5) zk zk zk rfl HS5) ?_)
 refine l_gt rfl rfl (OpTo.of_v (OpVat.as (b := true) (v_seq rfl rfl) (by decide)) ?_)
 refine l_v (v_andT rfl rfl) ?_
 refine l_v (v_move (t := .bool _) rfl) ?_
 refine l_gt rfl rfl (OpTo.of_v (v_move (t := .int _ _) rfl) ?_)
 refine l_gt rfl rfl (to_f1 zk (zvI rfl) (CallsR.mono (num_c) ?_))
 rintro _ w105 ⟨rfl, e105⟩
 have zs_e105 := e105.size
 replace E := E.trans (Ext.keep e105)
 replace HS1 := HS1.ext e105
 replace HS3 := HS3.ext e105
 replace HS5 := HS5.ext e105
 replace HS30 := HS30.ext e105
 replace HS31 := HS31.ext e105
 replace HB32 := HB32.ext e105
 replace HS33 := HS33.ext e105
 replace HS34 := HS34.ext e105
 replace HB35 := HB35.ext e105
 refine l_gt rfl rfl (OpTo.of_v (v_move (t := .int _ _) rfl) ?_)
 refine l_gt rfl rfl (to_f1 zk (zvI rfl) (CallsR.mono (num_c) ?_))
 rintro _ w106 ⟨rfl, e106⟩
 have zs_e106 := e106.size
 replace E := E.trans (Ext.keep e106)
 replace HS1 := HS1.ext e106
 replace HS3 := HS3.ext e106
 replace HS5 := HS5.ext e106
 replace HS30 := HS30.ext e106
 replace HS31 := HS31.ext e106
 replace HB32 := HB32.ext e106
 replace HS33 := HS33.ext e106
 replace HS34 := HS34.ext e106
 replace HB35 := HB35.ext e106
 refine l_gt rfl rfl (OpTo.of_v (v_add rfl rfl (by first | exact wr_i64 (by omega) (by omega) | rfl)) ?_)
 refine l_gt rfl rfl (OpTo.of_v (v_move (t := .int _ _) rfl) ?_)
 refine l_gt rfl rfl (to_f1 zk (zvI rfl) (CallsR.mono (num_c) ?_))
 rintro _ w107 ⟨rfl, e107⟩
 have zs_e107 := e107.size
 replace E := E.trans (Ext.keep e107)
 replace HS1 := HS1.ext e107
 replace HS3 := HS3.ext e107
 replace HS5 := HS5.ext e107
 replace HS30 := HS30.ext e107
 replace HS31 := HS31.ext e107
 replace HB32 := HB32.ext e107
 replace HS33 := HS33.ext e107
 replace HS34 := HS34.ext e107
 replace HB35 := HB35.ext e107
 refine l_gt rfl rfl (OpTo.of_v (v_add rfl rfl (by first | exact wr_i64 (by omega) (by omega) | rfl)) ?_)
 refine l_gt rfl rfl (OpTo.of_v (OpVat.as (b := true) (v_eql rfl rfl) (by decide)) ?_)
 refine l_v (v_andT rfl rfl) ?_
 refine l_v (v_move (t := .bool _) rfl) ?_
 refine l_gt rfl rfl (OpTo.of_v (v_move (t := .int _ _) rfl) ?_)
 refine l_gt rfl rfl (to_f1 zk (zvI rfl) (CallsR.mono (num_c) ?_))
 rintro _ w108 ⟨rfl, e108⟩
 have zs_e108 := e108.size
 replace E := E.trans (Ext.keep e108)
 replace HS1 := HS1.ext e108
 replace HS3 := HS3.ext e108
 replace HS5 := HS5.ext e108
 replace HS30 := HS30.ext e108
 replace HS31 := HS31.ext e108
 replace HB32 := HB32.ext e108
 replace HS33 := HS33.ext e108
 replace HS34 := HS34.ext e108
 replace HB35 := HB35.ext e108
 refine l_gt rfl rfl (OpTo.of_v (OpVat.as (b := true) (v_eql rfl rfl) (by decide)) ?_)
 refine l_v (v_andT rfl rfl) ?_
 refine l_v (v_move (t := .bool _) rfl) ?_
 refine l_gt rfl rfl (OpTo.of_v (v_move (t := .int _ _) rfl) ?_)
 refine l_gt rfl rfl (to_f1 zk (zvI rfl) (CallsR.mono (num_c) ?_))
 rintro _ w109 ⟨rfl, e109⟩
 have zs_e109 := e109.size
 replace E := E.trans (Ext.keep e109)
 replace HS1 := HS1.ext e109
 replace HS3 := HS3.ext e109
 replace HS5 := HS5.ext e109
 replace HS30 := HS30.ext e109
 replace HS31 := HS31.ext e109
 replace HB32 := HB32.ext e109
 replace HS33 := HS33.ext e109
 replace HS34 := HS34.ext e109
 replace HB35 := HB35.ext e109
 refine l_gt rfl rfl (OpTo.of_v (OpVat.as (b := true) (v_eql rfl rfl) (by decide)) ?_)
 refine l_v (v_andT rfl rfl) ?_
 refine l_v (v_move (t := .bool _) rfl) ?_
 refine l_gt rfl rfl (OpTo.of_v (v_loadA zk rfl (by first | exact HB35.pv | exact HB32.pv | assumption) rfl) ?_)
 refine l_gt rfl rfl (to_f1 zk (zvA rfl) (CallsR.mono (MayAsk_k (⟨_, rfl, tAk_mk HS30.allB (SlV.nil _ _ _) (SlV.nil _ _ _) HS31.allB ⟨by decide, by decide⟩ ⟨by decide, by decide⟩⟩) kA1) ?_))
 rintro _ w110 ⟨rfl, e110⟩
 have zs_e110 := e110.size
 replace E := E.trans (Ext.keep e110)
 replace HS1 := HS1.ext e110
 replace HS3 := HS3.ext e110
 replace HS5 := HS5.ext e110
 replace HS30 := HS30.ext e110
 replace HS31 := HS31.ext e110
 replace HB32 := HB32.ext e110
 replace HS33 := HS33.ext e110
 replace HS34 := HS34.ext e110
 replace HB35 := HB35.ext e110
 refine l_gt rfl rfl (OpTo.of_v (v_not rfl) ?_)
 refine l_v (v_andT rfl rfl) ?_
 refine l_v (v_move (t := .bool _) rfl) ?_
 refine l_gt rfl rfl (OpTo.of_v (v_build (pl := [(0, 1), (1, 1), (2, 1), (3, 1), (4, 1), (5, 1), (6, 1)]) (z := .agg #[.int .i64 0, .slice none 0 0, .slice none 0 0, .slice none 0 0, .slice none 0 0, .bool false, .int .i64 0]) (zl := [.int .i64 0, .slice none 0 0, .slice none 0 0, .slice none 0 0, .slice none 0 0, .bool false, .int .i64 0]) zk (by unfold kZero; kernel_rfl) rfl rfl (cells := [_, _, _, _, _, _, _]) rfl) ?_)
 refine l_gt rfl rfl (to_f1 zk (zvA rfl) (CallsR.mono (MayAsk_k (F := NoK) (⟨_, rfl, tAk_mk (SlV.nil _ _ _) (SlV.nil _ _ _) (SlV.nil _ _ _) (SlV.nil _ _ _) ⟨by decide, by decide⟩ ⟨by decide, by decide⟩⟩) kA2) ?_))
 rintro _ w111 ⟨rfl, e111⟩
 have zs_e111 := e111.size
 replace E := E.trans (Ext.keep e111)
 replace HS1 := HS1.ext e111
 replace HS3 := HS3.ext e111
 replace HS5 := HS5.ext e111
 replace HS30 := HS30.ext e111
 replace HS31 := HS31.ext e111
 replace HB32 := HB32.ext e111
 replace HS33 := HS33.ext e111
 replace HS34 := HS34.ext e111
 replace HB35 := HB35.ext e111
 refine l_gt rfl rfl (OpTo.of_v (v_not rfl) ?_)
 refine l_v (v_andT rfl rfl) ?_
 refine l_v (v_move (t := .bool _) rfl) ?_
 refine l_gt rfl rfl (OpTo.of_v (v_loadA zk rfl (by first | exact HB35.pv | exact HB32.pv | assumption) rfl) ?_)
 refine l_gt rfl rfl (to_f1 zk (zvA rfl) (CallsR.mono (MayMove_k (⟨_, rfl, tMv_mk HS33.allB HS34.allB ⟨by decide, by decide⟩ ⟨by decide, by decide⟩ ⟨by decide, by decide⟩⟩) kV1) ?_))
 rintro _ w112 ⟨rfl, e112⟩
 have zs_e112 := e112.size
 replace E := E.trans (Ext.keep e112)
 replace HS1 := HS1.ext e112
 replace HS3 := HS3.ext e112
 replace HS5 := HS5.ext e112
 replace HS30 := HS30.ext e112
 replace HS31 := HS31.ext e112
 replace HB32 := HB32.ext e112
 replace HS33 := HS33.ext e112
 replace HS34 := HS34.ext e112
 replace HB35 := HB35.ext e112
 refine l_gt rfl rfl (OpTo.of_v (v_not rfl) ?_)
 refine l_v (v_andT rfl rfl) ?_
 refine l_v (v_assign (t := .bool _) rfl) ?_
 refine l_nil ?_
 refine n_then ?_
 refine c_ret ?_
 refine ret1v rfl (by decide) (zvB rfl) ?_
 exact ⟨rfl, E⟩
end Go.Proofs.Ytogafjlbpodgjaa
