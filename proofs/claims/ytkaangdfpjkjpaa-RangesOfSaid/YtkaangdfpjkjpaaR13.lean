/- A part of the proof: steps and lemmas for the walks through the given program. -/
import Derived.Test.YtkaangdfpjkjpaaR12
import Derived.Test.YtkaangdfpjkjpaaGd
namespace Go.Proofs.Ytkaangdfpjkjpaa
open Go.Vc
set_option linter.unusedVariables false
set_option linter.unusedSimpArgs false
set_option maxRecDepth 100000

abbrev kM0 : MpV := (1, [([], [], false, 1)])
abbrev kM1 : MpV := (2, [([], [98], true, 1), ([98], [], false, 1)])
abbrev kM2 : MpV := (2, [([], [], false, 2)])
abbrev kM3 : MpV := (3, [([], [98], true, 1), ([98], [], false, 2)])
theorem kN : (if grpB 1 then (0 : Int) else 2) = 0 ∧ (if grpB 1 then ((1, [([], [], false, 1)]) : MpV) else (0, [])) = kM0 := by decide
theorem kF1 : findO kM0 (hasB [97]) = some 0 := by decide
theorem kS1 : splitM kM0 [98] = (kM1, 0) := by rfl
theorem kF2 : findO kM1 (hasB [98]) = some 1 := by decide
theorem kF3 : findO kM1 (hasB [97, 255]) = some 0 := by decide
theorem kS2 : splitM kM1 [98] = (mp0, 7) := by rfl
theorem kU1 : unionM kM0 [98] = (mp0, 6) := by rfl
theorem kG1 : giveM kM0 [] 1 = (mp0, 9) := by rfl
theorem kG2 : giveM kM0 [] 2 = (kM2, 0) := by rfl
theorem kG3 : giveM kM1 [98] 2 = (kM3, 0) := by rfl
theorem kU2 : unionM kM3 [98] = (mp0, 9) := by rfl
theorem kAgs {w : World} {F : Nat → Prop} {v : Value} (h : SlV tU8 w F v [98]) : AgV tRg w AllB (.agg #[.slice none 0 0, .slice none 0 0, .bool false, .int .i64 1]) ([], [], false, 1) ∧ AgV tRg w AllB (.agg #[.slice none 0 0, v, .bool true, .int .i64 1]) ([], [98], true, 1) ∧ AgV tRg w AllB (.agg #[v, .slice none 0 0, .bool false, .int .i64 1]) ([98], [], false, 1) :=
  ⟨AgV.mkRg (SlV.nil tU8 w AllB) (SlV.nil tU8 w AllB) (by decide), AgV.mkRg (SlV.nil tU8 w AllB) h.allB (by decide), AgV.mkRg h.allB (SlV.nil tU8 w AllB) (by decide)⟩
set_option maxHeartbeats 4000000 in
theorem known_c {w : World} : CallsR Try.prog 20 #[] w (fun o w' => o = .bool true ∧ Ext w w') := by
  refine enter 197 Try.func20 rfl rfl (by simp) ?_
  refine c_seq ?_
  have E := Keep.refl (K := NoK) w
  refine wp_reg (by decide +kernel) ?_
  refine l_v (v_assign rfl) ?_
  refine l_nil ?_
  refine n_then ?_
  refine c_seq ?_
  refine wp_reg (by decide +kernel) ?_
  refine l_to (to_f1 (by kernel_rfl) (show _ = (Value.int _ _) from rfl) (CallsR.mono (New_c (by omega)) ?_))
  rintro _ w1 ⟨⟨x1, rfl, HG1⟩, e1⟩
  have zs_e1 := e1.size
  rw [kN.1]; rw [kN.2] at HG1
  replace HG1 : AgV tMp _ _ _ kM0 := HG1.all
  obtain ⟨a1, c1, rfl, HS1, he1⟩ := HG1.mp
  replace E := E.trans (Ext.keep e1)
  refine l_v (v_move (t := .tuple _) rfl) ?_
  refine l_v (v_extract (t := .agg _) rfl rfl) ?_
  refine l_v (v_extract (t := .int _ _) rfl rfl) ?_
  refine l_to (to_alloc (z := (.agg #[.int .i64 0, .slice none 0 0])) (by unfold kZero; kernel_rfl) ?_)
  rintro b51 w51 zb51 HB51 e51 z51
  have zs_e51 := e51.size
  replace E := E.trans (Ext.keep e51)
  replace HG1 := HG1.ext e51
  try simp only [Value.cells] at HB51
  refine l_to (to_storeA (n := 2) rfl rfl (show _ = (Value.agg _) from rfl) (by kernel_rfl) rfl (by first | (simp [slice_one]; done) | (simp only [List.forall_mem_cons, List.cons_append, List.nil_append]; repeat' (first | exact rfl | apply And.intro | (intro u hu; cases hu; done)))) HB51 (by first | exact of_decide_eq_true rfl | (simp; done) | decide) ?_)
  rintro w101 HX101 k101 z101
  have zs_k101 := k101.size
  replace E := E.step k101 (by intro i hi he; (try dsimp only [NoK] at hi he ⊢); first | exact he.elim | omega | exact he)
  replace HG1 := HG1.keep k101 (by intro i _ hi he; (try dsimp only [NoK, AllB] at hi he); first | exact hi.elim | exact he.elim | omega | (rcases hi with hi | hi <;> omega) | (rcases he with he | he <;> omega))
  replace HB51 := HX101
  clear HX101
  try simp only [List.set_cons_zero, List.set_cons_succ, setAt, List.take_zero, List.take_succ_cons, List.drop_zero, List.drop_succ_cons, List.nil_append, List.cons_append, List.append_nil, List.length_cons, List.length_nil, Nat.zero_add, Nat.reduceAdd, List.drop_nil] at HB51
  refine l_v (v_assign (t := .int _ _) rfl) ?_
  refine l_nil ?_
  refine n_then ?_
  refine c_seq ?_
  refine wp_reg (by decide +kernel) ?_
  refine l_to (to_slice1 (t := tU8) (et := 5) (bytes := 1) (by kernel_rfl) (by decide) (show _ = (Value.int _ _) from rfl) (rep_u8 (F := NoK) 98 rfl) ?_)
  rintro b2 w2 zb2 HO2 e2 z2
  have zs_e2 := e2.size
  replace E := E.trans (Ext.keep e2)
  replace HG1 := HG1.ext e2
  replace HB51 := HB51.ext e2
  have zo_HO2 := fun (b : Nat) h => HO2.own_lt (b := b) h
  refine l_to (to_cvLit (et := 5) (by kernel_rfl) (by kernel_rfl) rfl HO2 ?_)
  rintro w102 HS2 k102 z102
  have zs_k102 := k102.size
  replace E := E.step k102 (by intro i hi he; (try dsimp only [NoK] at hi he ⊢); first | exact he.elim | omega | exact he)
  replace HG1 := HG1.keep k102 (by intro i _ hi he; (try dsimp only [NoK, AllB] at hi he); first | exact hi.elim | exact he.elim | omega | (rcases hi with hi | hi <;> omega) | (rcases he with he | he <;> omega))
  replace HB51 := HB51.keep k102 (by intro h; (try dsimp only at h); first | omega)
  refine l_v (v_assign (t := .slice _ _ _) rfl) ?_
  refine l_nil ?_
  refine n_then ?_
  refine c_seq ?_
  refine wp_reg (by decide +kernel) ?_
  refine l_v (v_loadA (by kernel_rfl) rfl (by first | exact HB51.pv | assumption) rfl) ?_
  refine l_to (to_slice1 (t := tU8) (et := 5) (bytes := 1) (by kernel_rfl) (by decide) (show _ = (Value.int _ _) from rfl) (rep_u8 (F := NoK) 97 rfl) ?_)
  rintro b3 w3 zb3 HO3 e3 z3
  have zs_e3 := e3.size
  replace E := E.trans (Ext.keep e3)
  replace HG1 := HG1.ext e3
  replace HB51 := HB51.ext e3
  replace HS2 := HS2.ext e3
  have zo_HO3 := fun (b : Nat) h => HO3.own_lt (b := b) h
  refine l_to (to_cvLit (et := 5) (by kernel_rfl) (by kernel_rfl) rfl HO3 ?_)
  rintro w103 HS3 k103 z103
  have zs_k103 := k103.size
  replace E := E.step k103 (by intro i hi he; (try dsimp only [NoK] at hi he ⊢); first | exact he.elim | omega | exact he)
  replace HG1 := HG1.keep k103 (by intro i _ hi he; (try dsimp only [NoK, AllB] at hi he); first | exact hi.elim | exact he.elim | omega | (rcases hi with hi | hi <;> omega) | (rcases he with he | he <;> omega))
  replace HB51 := HB51.keep k103 (by intro h; (try dsimp only at h); first | omega)
  replace HS2 := HS2.keep k103 (by intro i _ hi he; (try dsimp only [NoK, AllB] at hi he); first | exact hi.elim | exact he.elim | omega | (rcases hi with hi | hi <;> omega) | (rcases he with he | he <;> omega))
  refine l_to (to_f2 (by kernel_rfl) (show _ = (Value.agg _) from rfl) (show _ = (Value.slice _ _ _) from rfl) (CallsR.mono (Find_c HG1 HS3) ?_))
  rintro _ w4 ⟨⟨x4, rfl, HG4⟩, e4⟩
  have zs_e4 := e4.size
  rw [kF1] at HG4 ⊢
  replace HG4 : AgV tRg _ _ _ ([], [], false, 1) := HG4.all
  obtain ⟨a4, c4, d4, f4, rfl, HS4, HT4, hg4⟩ := HG4.rg
  replace E := E.trans (Ext.keep e4)
  replace HG1 := HG1.ext e4
  replace HB51 := HB51.ext e4
  replace HS2 := HS2.ext e4
  replace HS3 := HS3.ext e4
  refine l_v (v_move (t := .tuple _) rfl) ?_
  refine l_v (v_extract (t := .agg _) rfl rfl) ?_
  refine l_v (v_extract (t := .int _ _) rfl rfl) ?_
  refine l_to (to_alloc (z := (.agg #[.slice none 0 0, .slice none 0 0, .bool false, .int .i64 0])) (by unfold kZero; kernel_rfl) ?_)
  rintro b54 w54 zb54 HB54 e54 z54
  have zs_e54 := e54.size
  replace E := E.trans (Ext.keep e54)
  replace HG1 := HG1.ext e54
  replace HB51 := HB51.ext e54
  replace HS2 := HS2.ext e54
  replace HG4 := HG4.ext e54
  try simp only [Value.cells] at HB54
  refine l_to (to_storeA (n := 4) rfl rfl (show _ = (Value.agg _) from rfl) (by kernel_rfl) rfl (by first | (simp [slice_one]; done) | (simp only [List.forall_mem_cons, List.cons_append, List.nil_append]; repeat' (first | exact rfl | apply And.intro | (intro u hu; cases hu; done)))) HB54 (by first | exact of_decide_eq_true rfl | (simp; done) | decide) ?_)
  rintro w102 HX102 k102 z102
  have zs_k102 := k102.size
  replace E := E.step k102 (by intro i hi he; (try dsimp only [NoK] at hi he ⊢); first | exact he.elim | omega | exact he)
  replace HG1 := HG1.keep k102 (by intro i _ hi he; (try dsimp only [NoK, AllB] at hi he); first | exact hi.elim | exact he.elim | omega | (rcases hi with hi | hi <;> omega) | (rcases he with he | he <;> omega))
  replace HB51 := HB51.keep k102 (by intro h; (try dsimp only at h); first | omega)
  replace HS2 := HS2.keep k102 (by intro i _ hi he; (try dsimp only [NoK, AllB] at hi he); first | exact hi.elim | exact he.elim | omega | (rcases hi with hi | hi <;> omega) | (rcases he with he | he <;> omega))
  replace HG4 := HG4.keep k102 (by intro i _ hi he; (try dsimp only [NoK, AllB] at hi he); first | exact hi.elim | exact he.elim | omega | (rcases hi with hi | hi <;> omega) | (rcases he with he | he <;> omega))
  replace HB54 := HX102
  clear HX102
  try simp only [List.set_cons_zero, List.set_cons_succ, setAt, List.take_zero, List.take_succ_cons, List.drop_zero, List.drop_succ_cons, List.nil_append, List.cons_append, List.append_nil, List.length_cons, List.length_nil, Nat.zero_add, Nat.reduceAdd, List.drop_nil] at HB54
  refine l_v (v_assign (t := .int _ _) rfl) ?_
  refine l_nil ?_
  refine n_then ?_
  refine c_seq ?_
  refine wp_reg (by decide +kernel) ?_
  refine l_v (v_loadA (by kernel_rfl) rfl (by first | exact HB54.pv | exact HB51.pv | assumption) rfl) ?_
  refine l_v (v_move (t := .slice _ _ _) rfl) ?_
  refine l_to (to_f2 (by kernel_rfl) (show _ = (Value.agg _) from rfl) (show _ = (Value.slice _ _ _) from rfl) (CallsR.mono (Split_c HG1 HS2) ?_))
  rintro _ w5 ⟨⟨x5, rfl, HG5⟩, e5⟩
  have zs_e5 := e5.size
  rw [kS1] at HG5 ⊢
  replace HG5 : AgV tMp _ _ _ kM1 := HG5.all
  obtain ⟨a5, c5, rfl, HS5, he5⟩ := HG5.mp
  replace E := E.trans (Ext.keep e5)
  replace HG1 := HG1.ext e5
  replace HB51 := HB51.ext e5
  replace HS2 := HS2.ext e5
  replace HG4 := HG4.ext e5
  replace HB54 := HB54.ext e5
  refine l_v (v_move (t := .tuple _) rfl) ?_
  refine l_v (v_extract (t := .agg _) rfl rfl) ?_
  refine l_v (v_extract (t := .int _ _) rfl rfl) ?_
  refine l_to (to_alloc (z := (.agg #[.int .i64 0, .slice none 0 0])) (by unfold kZero; kernel_rfl) ?_)
  rintro b55 w55 zb55 HB55 e55 z55
  have zs_e55 := e55.size
  replace E := E.trans (Ext.keep e55)
  replace HG1 := HG1.ext e55
  replace HB51 := HB51.ext e55
  replace HS2 := HS2.ext e55
  replace HG4 := HG4.ext e55
  replace HB54 := HB54.ext e55
  replace HG5 := HG5.ext e55
  try simp only [Value.cells] at HB55
  refine l_to (to_storeA (n := 2) rfl rfl (show _ = (Value.agg _) from rfl) (by kernel_rfl) rfl (by first | (simp [slice_one]; done) | (simp only [List.forall_mem_cons, List.cons_append, List.nil_append]; repeat' (first | exact rfl | apply And.intro | (intro u hu; cases hu; done)))) HB55 (by first | exact of_decide_eq_true rfl | (simp; done) | decide) ?_)
  rintro w103 HX103 k103 z103
  have zs_k103 := k103.size
  replace E := E.step k103 (by intro i hi he; (try dsimp only [NoK] at hi he ⊢); first | exact he.elim | omega | exact he)
  replace HG1 := HG1.keep k103 (by intro i _ hi he; (try dsimp only [NoK, AllB] at hi he); first | exact hi.elim | exact he.elim | omega | (rcases hi with hi | hi <;> omega) | (rcases he with he | he <;> omega))
  replace HB51 := HB51.keep k103 (by intro h; (try dsimp only at h); first | omega)
  replace HS2 := HS2.keep k103 (by intro i _ hi he; (try dsimp only [NoK, AllB] at hi he); first | exact hi.elim | exact he.elim | omega | (rcases hi with hi | hi <;> omega) | (rcases he with he | he <;> omega))
  replace HG4 := HG4.keep k103 (by intro i _ hi he; (try dsimp only [NoK, AllB] at hi he); first | exact hi.elim | exact he.elim | omega | (rcases hi with hi | hi <;> omega) | (rcases he with he | he <;> omega))
  replace HB54 := HB54.keep k103 (by intro h; (try dsimp only at h); first | omega)
  replace HG5 := HG5.keep k103 (by intro i _ hi he; (try dsimp only [NoK, AllB] at hi he); first | exact hi.elim | exact he.elim | omega | (rcases hi with hi | hi <;> omega) | (rcases he with he | he <;> omega))
  replace HB55 := HX103
  clear HX103
  try simp only [List.set_cons_zero, List.set_cons_succ, setAt, List.take_zero, List.take_succ_cons, List.drop_zero, List.drop_succ_cons, List.nil_append, List.cons_append, List.append_nil, List.length_cons, List.length_nil, Nat.zero_add, Nat.reduceAdd, List.drop_nil] at HB55
  refine l_v (v_assign (t := .int _ _) rfl) ?_
  refine l_nil ?_
  refine n_then ?_
  refine c_seq ?_
  refine wp_reg (by decide +kernel) ?_
  refine l_v (v_loadA (by kernel_rfl) rfl (by first | exact HB55.pv | exact HB54.pv | exact HB51.pv | assumption) rfl) ?_
  refine l_v (v_move (t := .slice _ _ _) rfl) ?_
  refine l_to (to_f2 (by kernel_rfl) (show _ = (Value.agg _) from rfl) (show _ = (Value.slice _ _ _) from rfl) (CallsR.mono (Find_c HG5 HS2) ?_))
  rintro _ w6 ⟨⟨x6, rfl, HG6⟩, e6⟩
  have zs_e6 := e6.size
  rw [kF2] at HG6 ⊢
  replace HG6 : AgV tRg _ _ _ ([98], [], false, 1) := HG6.all
  obtain ⟨a6, c6, d6, f6, rfl, HS6, HT6, hg6⟩ := HG6.rg
  replace E := E.trans (Ext.keep e6)
  replace HG1 := HG1.ext e6
  replace HB51 := HB51.ext e6
  replace HS2 := HS2.ext e6
  replace HG4 := HG4.ext e6
  replace HB54 := HB54.ext e6
  replace HG5 := HG5.ext e6
  replace HB55 := HB55.ext e6
  refine l_v (v_move (t := .tuple _) rfl) ?_
  refine l_v (v_extract (t := .agg _) rfl rfl) ?_
  refine l_v (v_extract (t := .int _ _) rfl rfl) ?_
  refine l_to (to_alloc (z := (.agg #[.slice none 0 0, .slice none 0 0, .bool false, .int .i64 0])) (by unfold kZero; kernel_rfl) ?_)
  rintro b56 w56 zb56 HB56 e56 z56
  have zs_e56 := e56.size
  replace E := E.trans (Ext.keep e56)
  replace HG1 := HG1.ext e56
  replace HB51 := HB51.ext e56
  replace HS2 := HS2.ext e56
  replace HG4 := HG4.ext e56
  replace HB54 := HB54.ext e56
  replace HG5 := HG5.ext e56
  replace HB55 := HB55.ext e56
  replace HG6 := HG6.ext e56
  try simp only [Value.cells] at HB56
  refine l_to (to_storeA (n := 4) rfl rfl (show _ = (Value.agg _) from rfl) (by kernel_rfl) rfl (by first | (simp [slice_one]; done) | (simp only [List.forall_mem_cons, List.cons_append, List.nil_append]; repeat' (first | exact rfl | apply And.intro | (intro u hu; cases hu; done)))) HB56 (by first | exact of_decide_eq_true rfl | (simp; done) | decide) ?_)
  rintro w104 HX104 k104 z104
  have zs_k104 := k104.size
  replace E := E.step k104 (by intro i hi he; (try dsimp only [NoK] at hi he ⊢); first | exact he.elim | omega | exact he)
  replace HG1 := HG1.keep k104 (by intro i _ hi he; (try dsimp only [NoK, AllB] at hi he); first | exact hi.elim | exact he.elim | omega | (rcases hi with hi | hi <;> omega) | (rcases he with he | he <;> omega))
  replace HB51 := HB51.keep k104 (by intro h; (try dsimp only at h); first | omega)
  replace HS2 := HS2.keep k104 (by intro i _ hi he; (try dsimp only [NoK, AllB] at hi he); first | exact hi.elim | exact he.elim | omega | (rcases hi with hi | hi <;> omega) | (rcases he with he | he <;> omega))
  replace HG4 := HG4.keep k104 (by intro i _ hi he; (try dsimp only [NoK, AllB] at hi he); first | exact hi.elim | exact he.elim | omega | (rcases hi with hi | hi <;> omega) | (rcases he with he | he <;> omega))
  replace HB54 := HB54.keep k104 (by intro h; (try dsimp only at h); first | omega)
  replace HG5 := HG5.keep k104 (by intro i _ hi he; (try dsimp only [NoK, AllB] at hi he); first | exact hi.elim | exact he.elim | omega | (rcases hi with hi | hi <;> omega) | (rcases he with he | he <;> omega))
  replace HB55 := HB55.keep k104 (by intro h; (try dsimp only at h); first | omega)
  replace HG6 := HG6.keep k104 (by intro i _ hi he; (try dsimp only [NoK, AllB] at hi he); first | exact hi.elim | exact he.elim | omega | (rcases hi with hi | hi <;> omega) | (rcases he with he | he <;> omega))
  replace HB56 := HX104
  clear HX104
  try simp only [List.set_cons_zero, List.set_cons_succ, setAt, List.take_zero, List.take_succ_cons, List.drop_zero, List.drop_succ_cons, List.nil_append, List.cons_append, List.append_nil, List.length_cons, List.length_nil, Nat.zero_add, Nat.reduceAdd, List.drop_nil] at HB56
  refine l_v (v_assign (t := .int _ _) rfl) ?_
  refine l_nil ?_
  refine n_then ?_
  refine c_seq ?_
  refine wp_reg (by decide +kernel) ?_
  refine l_v (v_loadA (by kernel_rfl) rfl (by first | exact HB56.pv | exact HB55.pv | exact HB54.pv | exact HB51.pv | assumption) rfl) ?_
  refine l_to (to_sliceN (t := tU8) (xs := [97, 255]) (et := 5) (bytes := 1) (zl := [.int .u8 0, .int .u8 0]) (by kernel_rfl) (by decide) (by decide) (by unfold kZeros; kernel_rfl) rfl (cells := [_, _]) rfl rfl rfl (reps2 (rep_u8 (F := NoK) 97 rfl) (rep_u8 (F := NoK) 255 rfl)) ?_)
  rintro b7 w7 zb7 HO7 e7 z7
  have zs_e7 := e7.size
  replace E := E.trans (Ext.keep e7)
  replace HG1 := HG1.ext e7
  replace HB51 := HB51.ext e7
  replace HS2 := HS2.ext e7
  replace HG4 := HG4.ext e7
  replace HB54 := HB54.ext e7
  replace HG5 := HG5.ext e7
  replace HB55 := HB55.ext e7
  replace HG6 := HG6.ext e7
  replace HB56 := HB56.ext e7
  have zo_HO7 := fun (b : Nat) h => HO7.own_lt (b := b) h
  refine l_to (to_cvLit (et := 5) (by kernel_rfl) (by kernel_rfl) rfl HO7 ?_)
  rintro w107 HS7 k107 z107
  have zs_k107 := k107.size
  replace E := E.step k107 (by intro i hi he; (try dsimp only [NoK] at hi he ⊢); first | exact he.elim | omega | exact he)
  replace HG1 := HG1.keep k107 (by intro i _ hi he; (try dsimp only [NoK, AllB] at hi he); first | exact hi.elim | exact he.elim | omega | (rcases hi with hi | hi <;> omega) | (rcases he with he | he <;> omega))
  replace HB51 := HB51.keep k107 (by intro h; (try dsimp only at h); first | omega)
  replace HS2 := HS2.keep k107 (by intro i _ hi he; (try dsimp only [NoK, AllB] at hi he); first | exact hi.elim | exact he.elim | omega | (rcases hi with hi | hi <;> omega) | (rcases he with he | he <;> omega))
  replace HG4 := HG4.keep k107 (by intro i _ hi he; (try dsimp only [NoK, AllB] at hi he); first | exact hi.elim | exact he.elim | omega | (rcases hi with hi | hi <;> omega) | (rcases he with he | he <;> omega))
  replace HB54 := HB54.keep k107 (by intro h; (try dsimp only at h); first | omega)
  replace HG5 := HG5.keep k107 (by intro i _ hi he; (try dsimp only [NoK, AllB] at hi he); first | exact hi.elim | exact he.elim | omega | (rcases hi with hi | hi <;> omega) | (rcases he with he | he <;> omega))
  replace HB55 := HB55.keep k107 (by intro h; (try dsimp only at h); first | omega)
  replace HG6 := HG6.keep k107 (by intro i _ hi he; (try dsimp only [NoK, AllB] at hi he); first | exact hi.elim | exact he.elim | omega | (rcases hi with hi | hi <;> omega) | (rcases he with he | he <;> omega))
  replace HB56 := HB56.keep k107 (by intro h; (try dsimp only at h); first | omega)
  refine l_to (to_f2 (by kernel_rfl) (show _ = (Value.agg _) from rfl) (show _ = (Value.slice _ _ _) from rfl) (CallsR.mono (Find_c HG5 HS7) ?_))
  rintro _ w8 ⟨⟨x8, rfl, HG8⟩, e8⟩
  have zs_e8 := e8.size
  rw [kF3] at HG8 ⊢
  replace HG8 : AgV tRg _ _ _ ([], [98], true, 1) := HG8.all
  obtain ⟨a8, c8, d8, f8, rfl, HS8, HT8, hg8⟩ := HG8.rg
  replace E := E.trans (Ext.keep e8)
  replace HG1 := HG1.ext e8
  replace HB51 := HB51.ext e8
  replace HS2 := HS2.ext e8
  replace HG4 := HG4.ext e8
  replace HB54 := HB54.ext e8
  replace HG5 := HG5.ext e8
  replace HB55 := HB55.ext e8
  replace HG6 := HG6.ext e8
  replace HB56 := HB56.ext e8
  replace HS7 := HS7.ext e8
  refine l_v (v_move (t := .tuple _) rfl) ?_
  refine l_v (v_extract (t := .agg _) rfl rfl) ?_
  refine l_v (v_extract (t := .int _ _) rfl rfl) ?_
  refine l_to (to_alloc (z := (.agg #[.slice none 0 0, .slice none 0 0, .bool false, .int .i64 0])) (by unfold kZero; kernel_rfl) ?_)
  rintro b58 w58 zb58 HB58 e58 z58
  have zs_e58 := e58.size
  replace E := E.trans (Ext.keep e58)
  replace HG1 := HG1.ext e58
  replace HB51 := HB51.ext e58
  replace HS2 := HS2.ext e58
  replace HG4 := HG4.ext e58
  replace HB54 := HB54.ext e58
  replace HG5 := HG5.ext e58
  replace HB55 := HB55.ext e58
  replace HG6 := HG6.ext e58
  replace HB56 := HB56.ext e58
  replace HG8 := HG8.ext e58
  try simp only [Value.cells] at HB58
  refine l_to (to_storeA (n := 4) rfl rfl (show _ = (Value.agg _) from rfl) (by kernel_rfl) rfl (by first | (simp [slice_one]; done) | (simp only [List.forall_mem_cons, List.cons_append, List.nil_append]; repeat' (first | exact rfl | apply And.intro | (intro u hu; cases hu; done)))) HB58 (by first | exact of_decide_eq_true rfl | (simp; done) | decide) ?_)
  rintro w105 HX105 k105 z105
  have zs_k105 := k105.size
  replace E := E.step k105 (by intro i hi he; (try dsimp only [NoK] at hi he ⊢); first | exact he.elim | omega | exact he)
  replace HG1 := HG1.keep k105 (by intro i _ hi he; (try dsimp only [NoK, AllB] at hi he); first | exact hi.elim | exact he.elim | omega | (rcases hi with hi | hi <;> omega) | (rcases he with he | he <;> omega))
  replace HB51 := HB51.keep k105 (by intro h; (try dsimp only at h); first | omega)
  replace HS2 := HS2.keep k105 (by intro i _ hi he; (try dsimp only [NoK, AllB] at hi he); first | exact hi.elim | exact he.elim | omega | (rcases hi with hi | hi <;> omega) | (rcases he with he | he <;> omega))
  replace HG4 := HG4.keep k105 (by intro i _ hi he; (try dsimp only [NoK, AllB] at hi he); first | exact hi.elim | exact he.elim | omega | (rcases hi with hi | hi <;> omega) | (rcases he with he | he <;> omega))
  replace HB54 := HB54.keep k105 (by intro h; (try dsimp only at h); first | omega)
  replace HG5 := HG5.keep k105 (by intro i _ hi he; (try dsimp only [NoK, AllB] at hi he); first | exact hi.elim | exact he.elim | omega | (rcases hi with hi | hi <;> omega) | (rcases he with he | he <;> omega))
  replace HB55 := HB55.keep k105 (by intro h; (try dsimp only at h); first | omega)
  replace HG6 := HG6.keep k105 (by intro i _ hi he; (try dsimp only [NoK, AllB] at hi he); first | exact hi.elim | exact he.elim | omega | (rcases hi with hi | hi <;> omega) | (rcases he with he | he <;> omega))
  replace HB56 := HB56.keep k105 (by intro h; (try dsimp only at h); first | omega)
  replace HG8 := HG8.keep k105 (by intro i _ hi he; (try dsimp only [NoK, AllB] at hi he); first | exact hi.elim | exact he.elim | omega | (rcases hi with hi | hi <;> omega) | (rcases he with he | he <;> omega))
  replace HB58 := HX105
  clear HX105
  try simp only [List.set_cons_zero, List.set_cons_succ, setAt, List.take_zero, List.take_succ_cons, List.drop_zero, List.drop_succ_cons, List.nil_append, List.cons_append, List.append_nil, List.length_cons, List.length_nil, Nat.zero_add, Nat.reduceAdd, List.drop_nil] at HB58
  refine l_v (v_assign (t := .int _ _) rfl) ?_
  refine l_nil ?_
  refine n_then ?_
  refine c_seq ?_
  refine wp_reg (by decide +kernel) ?_
  refine l_v (v_loadA (by kernel_rfl) rfl (by first | exact HB58.pv | exact HB56.pv | exact HB55.pv | exact HB54.pv | exact HB51.pv | assumption) rfl) ?_
  refine l_v (v_move (t := .slice _ _ _) rfl) ?_
  refine l_to (to_f2 (by kernel_rfl) (show _ = (Value.agg _) from rfl) (show _ = (Value.slice _ _ _) from rfl) (CallsR.mono (Split_c HG5 HS2) ?_))
  rintro _ w9 ⟨⟨x9, rfl, HG9⟩, e9⟩
  have zs_e9 := e9.size
  rw [kS2] at HG9 ⊢
  replace HG9 : AgV tMp _ _ _ mp0 := HG9.all
  obtain ⟨a9, c9, rfl, HS9, he9⟩ := HG9.mp
  replace E := E.trans (Ext.keep e9)
  replace HG1 := HG1.ext e9
  replace HB51 := HB51.ext e9
  replace HS2 := HS2.ext e9
  replace HG4 := HG4.ext e9
  replace HB54 := HB54.ext e9
  replace HG5 := HG5.ext e9
  replace HB55 := HB55.ext e9
  replace HG6 := HG6.ext e9
  replace HB56 := HB56.ext e9
  replace HG8 := HG8.ext e9
  replace HB58 := HB58.ext e9
  refine l_v (v_move (t := .tuple _) rfl) ?_
  refine l_v (v_extract (t := .agg _) rfl rfl) ?_
  refine l_v (v_extract (t := .int _ _) rfl rfl) ?_
  refine l_to (to_alloc (z := (.agg #[.int .i64 0, .slice none 0 0])) (by unfold kZero; kernel_rfl) ?_)
  rintro b59 w59 zb59 HB59 e59 z59
  have zs_e59 := e59.size
  replace E := E.trans (Ext.keep e59)
  replace HG1 := HG1.ext e59
  replace HB51 := HB51.ext e59
  replace HS2 := HS2.ext e59
  replace HG4 := HG4.ext e59
  replace HB54 := HB54.ext e59
  replace HG5 := HG5.ext e59
  replace HB55 := HB55.ext e59
  replace HG6 := HG6.ext e59
  replace HB56 := HB56.ext e59
  replace HG8 := HG8.ext e59
  replace HB58 := HB58.ext e59
  try simp only [Value.cells] at HB59
  refine l_to (to_storeA (n := 2) rfl rfl (show _ = (Value.agg _) from rfl) (by kernel_rfl) rfl (by first | (simp [slice_one]; done) | (simp only [List.forall_mem_cons, List.cons_append, List.nil_append]; repeat' (first | exact rfl | apply And.intro | (intro u hu; cases hu; done)))) HB59 (by first | exact of_decide_eq_true rfl | (simp; done) | decide) ?_)
  rintro w106 HX106 k106 z106
  have zs_k106 := k106.size
  replace E := E.step k106 (by intro i hi he; (try dsimp only [NoK] at hi he ⊢); first | exact he.elim | omega | exact he)
  replace HG1 := HG1.keep k106 (by intro i _ hi he; (try dsimp only [NoK, AllB] at hi he); first | exact hi.elim | exact he.elim | omega | (rcases hi with hi | hi <;> omega) | (rcases he with he | he <;> omega))
  replace HB51 := HB51.keep k106 (by intro h; (try dsimp only at h); first | omega)
  replace HS2 := HS2.keep k106 (by intro i _ hi he; (try dsimp only [NoK, AllB] at hi he); first | exact hi.elim | exact he.elim | omega | (rcases hi with hi | hi <;> omega) | (rcases he with he | he <;> omega))
  replace HG4 := HG4.keep k106 (by intro i _ hi he; (try dsimp only [NoK, AllB] at hi he); first | exact hi.elim | exact he.elim | omega | (rcases hi with hi | hi <;> omega) | (rcases he with he | he <;> omega))
  replace HB54 := HB54.keep k106 (by intro h; (try dsimp only at h); first | omega)
  replace HG5 := HG5.keep k106 (by intro i _ hi he; (try dsimp only [NoK, AllB] at hi he); first | exact hi.elim | exact he.elim | omega | (rcases hi with hi | hi <;> omega) | (rcases he with he | he <;> omega))
  replace HB55 := HB55.keep k106 (by intro h; (try dsimp only at h); first | omega)
  replace HG6 := HG6.keep k106 (by intro i _ hi he; (try dsimp only [NoK, AllB] at hi he); first | exact hi.elim | exact he.elim | omega | (rcases hi with hi | hi <;> omega) | (rcases he with he | he <;> omega))
  replace HB56 := HB56.keep k106 (by intro h; (try dsimp only at h); first | omega)
  replace HG8 := HG8.keep k106 (by intro i _ hi he; (try dsimp only [NoK, AllB] at hi he); first | exact hi.elim | exact he.elim | omega | (rcases hi with hi | hi <;> omega) | (rcases he with he | he <;> omega))
  replace HB58 := HB58.keep k106 (by intro h; (try dsimp only at h); first | omega)
  replace HB59 := HX106
  clear HX106
  try simp only [List.set_cons_zero, List.set_cons_succ, setAt, List.take_zero, List.take_succ_cons, List.drop_zero, List.drop_succ_cons, List.nil_append, List.cons_append, List.append_nil, List.length_cons, List.length_nil, Nat.zero_add, Nat.reduceAdd, List.drop_nil] at HB59
  refine l_v (v_assign (t := .int _ _) rfl) ?_
  refine l_nil ?_
  refine n_then ?_
  refine c_seq ?_
  refine wp_reg (by decide +kernel) ?_
  refine l_v (v_loadA (by kernel_rfl) rfl (by first | exact HB59.pv | exact HB58.pv | exact HB56.pv | exact HB55.pv | exact HB54.pv | exact HB51.pv | assumption) rfl) ?_
  refine l_v (v_move (t := .slice _ _ _) rfl) ?_
  refine l_to (to_f2 (by kernel_rfl) (show _ = (Value.agg _) from rfl) (show _ = (Value.slice _ _ _) from rfl) (CallsR.mono (Union_c HG1 HS2) ?_))
  rintro _ w10 ⟨⟨x10, rfl, HG10⟩, e10⟩
  have zs_e10 := e10.size
  rw [kU1] at HG10 ⊢
  replace HG10 : AgV tMp _ _ _ mp0 := HG10.all
  obtain ⟨a10, c10, rfl, HS10, he10⟩ := HG10.mp
  replace E := E.trans (Ext.keep e10)
  replace HG1 := HG1.ext e10
  replace HB51 := HB51.ext e10
  replace HS2 := HS2.ext e10
  replace HG4 := HG4.ext e10
  replace HB54 := HB54.ext e10
  replace HG5 := HG5.ext e10
  replace HB55 := HB55.ext e10
  replace HG6 := HG6.ext e10
  replace HB56 := HB56.ext e10
  replace HG8 := HG8.ext e10
  replace HB58 := HB58.ext e10
  replace HB59 := HB59.ext e10
  refine l_v (v_move (t := .tuple _) rfl) ?_
  refine l_v (v_extract (t := .agg _) rfl rfl) ?_
  refine l_v (v_extract (t := .int _ _) rfl rfl) ?_
  refine l_to (to_alloc (z := (.agg #[.int .i64 0, .slice none 0 0])) (by unfold kZero; kernel_rfl) ?_)
  rintro b60 w60 zb60 HB60 e60 z60
  have zs_e60 := e60.size
  replace E := E.trans (Ext.keep e60)
  replace HG1 := HG1.ext e60
  replace HB51 := HB51.ext e60
  replace HS2 := HS2.ext e60
  replace HG4 := HG4.ext e60
  replace HB54 := HB54.ext e60
  replace HG5 := HG5.ext e60
  replace HB55 := HB55.ext e60
  replace HG6 := HG6.ext e60
  replace HB56 := HB56.ext e60
  replace HG8 := HG8.ext e60
  replace HB58 := HB58.ext e60
  try simp only [Value.cells] at HB60
  refine l_to (to_storeA (n := 2) rfl rfl (show _ = (Value.agg _) from rfl) (by kernel_rfl) rfl (by first | (simp [slice_one]; done) | (simp only [List.forall_mem_cons, List.cons_append, List.nil_append]; repeat' (first | exact rfl | apply And.intro | (intro u hu; cases hu; done)))) HB60 (by first | exact of_decide_eq_true rfl | (simp; done) | decide) ?_)
  rintro w107 HX107 k107 z107
  have zs_k107 := k107.size
  replace E := E.step k107 (by intro i hi he; (try dsimp only [NoK] at hi he ⊢); first | exact he.elim | omega | exact he)
  replace HG1 := HG1.keep k107 (by intro i _ hi he; (try dsimp only [NoK, AllB] at hi he); first | exact hi.elim | exact he.elim | omega | (rcases hi with hi | hi <;> omega) | (rcases he with he | he <;> omega))
  replace HB51 := HB51.keep k107 (by intro h; (try dsimp only at h); first | omega)
  replace HS2 := HS2.keep k107 (by intro i _ hi he; (try dsimp only [NoK, AllB] at hi he); first | exact hi.elim | exact he.elim | omega | (rcases hi with hi | hi <;> omega) | (rcases he with he | he <;> omega))
  replace HG4 := HG4.keep k107 (by intro i _ hi he; (try dsimp only [NoK, AllB] at hi he); first | exact hi.elim | exact he.elim | omega | (rcases hi with hi | hi <;> omega) | (rcases he with he | he <;> omega))
  replace HB54 := HB54.keep k107 (by intro h; (try dsimp only at h); first | omega)
  replace HG5 := HG5.keep k107 (by intro i _ hi he; (try dsimp only [NoK, AllB] at hi he); first | exact hi.elim | exact he.elim | omega | (rcases hi with hi | hi <;> omega) | (rcases he with he | he <;> omega))
  replace HB55 := HB55.keep k107 (by intro h; (try dsimp only at h); first | omega)
  replace HG6 := HG6.keep k107 (by intro i _ hi he; (try dsimp only [NoK, AllB] at hi he); first | exact hi.elim | exact he.elim | omega | (rcases hi with hi | hi <;> omega) | (rcases he with he | he <;> omega))
  replace HB56 := HB56.keep k107 (by intro h; (try dsimp only at h); first | omega)
  replace HG8 := HG8.keep k107 (by intro i _ hi he; (try dsimp only [NoK, AllB] at hi he); first | exact hi.elim | exact he.elim | omega | (rcases hi with hi | hi <;> omega) | (rcases he with he | he <;> omega))
  replace HB58 := HB58.keep k107 (by intro h; (try dsimp only at h); first | omega)
  replace HB60 := HX107
  clear HX107
  try simp only [List.set_cons_zero, List.set_cons_succ, setAt, List.take_zero, List.take_succ_cons, List.drop_zero, List.drop_succ_cons, List.nil_append, List.cons_append, List.append_nil, List.length_cons, List.length_nil, Nat.zero_add, Nat.reduceAdd, List.drop_nil] at HB60
  refine l_v (v_assign (t := .int _ _) rfl) ?_
  refine l_nil ?_
  refine n_then ?_
  refine c_seq ?_
  refine wp_reg (by decide +kernel) ?_
  refine l_v (v_loadA (by kernel_rfl) rfl (by first | exact HB60.pv | exact HB58.pv | exact HB56.pv | exact HB55.pv | exact HB54.pv | exact HB51.pv | assumption) rfl) ?_
  refine l_to (to_f3 (by kernel_rfl) (show _ = (Value.agg _) from rfl) (show _ = (Value.slice _ _ _) from rfl) (show _ = (Value.int _ _) from rfl) (CallsR.mono (Give_c HG1 (SlV.nil tU8 _ NoK)) ?_))
  rintro _ w11 ⟨⟨x11, rfl, HG11⟩, e11⟩
  have zs_e11 := e11.size
  rw [kG1] at HG11 ⊢
  replace HG11 : AgV tMp _ _ _ mp0 := HG11.all
  obtain ⟨a11, c11, rfl, HS11, he11⟩ := HG11.mp
  replace E := E.trans (Ext.keep e11)
  replace HG1 := HG1.ext e11
  replace HB51 := HB51.ext e11
  replace HS2 := HS2.ext e11
  replace HG4 := HG4.ext e11
  replace HB54 := HB54.ext e11
  replace HG5 := HG5.ext e11
  replace HB55 := HB55.ext e11
  replace HG6 := HG6.ext e11
  replace HB56 := HB56.ext e11
  replace HG8 := HG8.ext e11
  replace HB58 := HB58.ext e11
  replace HB60 := HB60.ext e11
  refine l_v (v_move (t := .tuple _) rfl) ?_
  refine l_v (v_extract (t := .agg _) rfl rfl) ?_
  refine l_v (v_extract (t := .int _ _) rfl rfl) ?_
  refine l_to (to_alloc (z := (.agg #[.int .i64 0, .slice none 0 0])) (by unfold kZero; kernel_rfl) ?_)
  rintro b61 w61 zb61 HB61 e61 z61
  have zs_e61 := e61.size
  replace E := E.trans (Ext.keep e61)
  replace HG1 := HG1.ext e61
  replace HB51 := HB51.ext e61
  replace HS2 := HS2.ext e61
  replace HG4 := HG4.ext e61
  replace HB54 := HB54.ext e61
  replace HG5 := HG5.ext e61
  replace HB55 := HB55.ext e61
  replace HG6 := HG6.ext e61
  replace HB56 := HB56.ext e61
  replace HG8 := HG8.ext e61
  replace HB58 := HB58.ext e61
  try simp only [Value.cells] at HB61
  refine l_to (to_storeA (n := 2) rfl rfl (show _ = (Value.agg _) from rfl) (by kernel_rfl) rfl (by first | (simp [slice_one]; done) | (simp only [List.forall_mem_cons, List.cons_append, List.nil_append]; repeat' (first | exact rfl | apply And.intro | (intro u hu; cases hu; done)))) HB61 (by first | exact of_decide_eq_true rfl | (simp; done) | decide) ?_)
  rintro w108 HX108 k108 z108
  have zs_k108 := k108.size
  replace E := E.step k108 (by intro i hi he; (try dsimp only [NoK] at hi he ⊢); first | exact he.elim | omega | exact he)
  replace HG1 := HG1.keep k108 (by intro i _ hi he; (try dsimp only [NoK, AllB] at hi he); first | exact hi.elim | exact he.elim | omega | (rcases hi with hi | hi <;> omega) | (rcases he with he | he <;> omega))
  replace HB51 := HB51.keep k108 (by intro h; (try dsimp only at h); first | omega)
  replace HS2 := HS2.keep k108 (by intro i _ hi he; (try dsimp only [NoK, AllB] at hi he); first | exact hi.elim | exact he.elim | omega | (rcases hi with hi | hi <;> omega) | (rcases he with he | he <;> omega))
  replace HG4 := HG4.keep k108 (by intro i _ hi he; (try dsimp only [NoK, AllB] at hi he); first | exact hi.elim | exact he.elim | omega | (rcases hi with hi | hi <;> omega) | (rcases he with he | he <;> omega))
  replace HB54 := HB54.keep k108 (by intro h; (try dsimp only at h); first | omega)
  replace HG5 := HG5.keep k108 (by intro i _ hi he; (try dsimp only [NoK, AllB] at hi he); first | exact hi.elim | exact he.elim | omega | (rcases hi with hi | hi <;> omega) | (rcases he with he | he <;> omega))
  replace HB55 := HB55.keep k108 (by intro h; (try dsimp only at h); first | omega)
  replace HG6 := HG6.keep k108 (by intro i _ hi he; (try dsimp only [NoK, AllB] at hi he); first | exact hi.elim | exact he.elim | omega | (rcases hi with hi | hi <;> omega) | (rcases he with he | he <;> omega))
  replace HB56 := HB56.keep k108 (by intro h; (try dsimp only at h); first | omega)
  replace HG8 := HG8.keep k108 (by intro i _ hi he; (try dsimp only [NoK, AllB] at hi he); first | exact hi.elim | exact he.elim | omega | (rcases hi with hi | hi <;> omega) | (rcases he with he | he <;> omega))
  replace HB58 := HB58.keep k108 (by intro h; (try dsimp only at h); first | omega)
  replace HB61 := HX108
  clear HX108
  try simp only [List.set_cons_zero, List.set_cons_succ, setAt, List.take_zero, List.take_succ_cons, List.drop_zero, List.drop_succ_cons, List.nil_append, List.cons_append, List.append_nil, List.length_cons, List.length_nil, Nat.zero_add, Nat.reduceAdd, List.drop_nil] at HB61
  refine l_v (v_assign (t := .int _ _) rfl) ?_
  refine l_nil ?_
  refine n_then ?_
  refine c_seq ?_
  refine wp_reg (by decide +kernel) ?_
  refine l_v (v_loadA (by kernel_rfl) rfl (by first | exact HB61.pv | exact HB58.pv | exact HB56.pv | exact HB55.pv | exact HB54.pv | exact HB51.pv | assumption) rfl) ?_
  refine l_to (to_f3 (by kernel_rfl) (show _ = (Value.agg _) from rfl) (show _ = (Value.slice _ _ _) from rfl) (show _ = (Value.int _ _) from rfl) (CallsR.mono (Give_c HG1 (SlV.nil tU8 _ NoK)) ?_))
  rintro _ w12 ⟨⟨x12, rfl, HG12⟩, e12⟩
  have zs_e12 := e12.size
  rw [kG2] at HG12 ⊢
  replace HG12 : AgV tMp _ _ _ kM2 := HG12.all
  obtain ⟨a12, c12, rfl, HS12, he12⟩ := HG12.mp
  replace E := E.trans (Ext.keep e12)
  replace HG1 := HG1.ext e12
  replace HB51 := HB51.ext e12
  replace HS2 := HS2.ext e12
  replace HG4 := HG4.ext e12
  replace HB54 := HB54.ext e12
  replace HG5 := HG5.ext e12
  replace HB55 := HB55.ext e12
  replace HG6 := HG6.ext e12
  replace HB56 := HB56.ext e12
  replace HG8 := HG8.ext e12
  replace HB58 := HB58.ext e12
  replace HB61 := HB61.ext e12
  obtain ⟨q12, cs12, rfl, hF12, _, HP12, hr12⟩ := HS12.el (k := 0) (x := ([], [], false, 2)) rfl
  obtain ⟨u1, u2, u3, u4, rfl, _, _, _⟩ := tRg_cells hr12
  refine l_v (v_move (t := .tuple _) rfl) ?_
  refine l_v (v_extract (t := .agg _) rfl rfl) ?_
  refine l_v (v_extract (t := .int _ _) rfl rfl) ?_
  refine l_to (to_alloc (z := (.agg #[.int .i64 0, .slice none 0 0])) (by unfold kZero; kernel_rfl) ?_)
  rintro b62 w62 zb62 HB62 e62 z62
  have zs_e62 := e62.size
  replace E := E.trans (Ext.keep e62)
  replace HS2 := HS2.ext e62
  replace HG4 := HG4.ext e62
  replace HB54 := HB54.ext e62
  replace HG5 := HG5.ext e62
  replace HB55 := HB55.ext e62
  replace HG6 := HG6.ext e62
  replace HB56 := HB56.ext e62
  replace HG8 := HG8.ext e62
  replace HB58 := HB58.ext e62
  replace HP12 := HP12.ext e62
  try simp only [Value.cells] at HB62
  refine l_to (to_storeA (n := 2) rfl rfl (show _ = (Value.agg _) from rfl) (by kernel_rfl) rfl (by first | (simp [slice_one]; done) | (simp only [List.forall_mem_cons, List.cons_append, List.nil_append]; repeat' (first | exact rfl | apply And.intro | (intro u hu; cases hu; done)))) HB62 (by first | exact of_decide_eq_true rfl | (simp; done) | decide) ?_)
  rintro w109 HX109 k109 z109
  have zs_k109 := k109.size
  replace E := E.step k109 (by intro i hi he; (try dsimp only [NoK] at hi he ⊢); first | exact he.elim | omega | exact he)
  replace HS2 := HS2.keep k109 (by intro i _ hi he; (try dsimp only [NoK, AllB] at hi he); first | exact hi.elim | exact he.elim | omega | (rcases hi with hi | hi <;> omega) | (rcases he with he | he <;> omega))
  replace HG4 := HG4.keep k109 (by intro i _ hi he; (try dsimp only [NoK, AllB] at hi he); first | exact hi.elim | exact he.elim | omega | (rcases hi with hi | hi <;> omega) | (rcases he with he | he <;> omega))
  replace HB54 := HB54.keep k109 (by intro h; (try dsimp only at h); first | omega)
  replace HG5 := HG5.keep k109 (by intro i _ hi he; (try dsimp only [NoK, AllB] at hi he); first | exact hi.elim | exact he.elim | omega | (rcases hi with hi | hi <;> omega) | (rcases he with he | he <;> omega))
  replace HB55 := HB55.keep k109 (by intro h; (try dsimp only at h); first | omega)
  replace HG6 := HG6.keep k109 (by intro i _ hi he; (try dsimp only [NoK, AllB] at hi he); first | exact hi.elim | exact he.elim | omega | (rcases hi with hi | hi <;> omega) | (rcases he with he | he <;> omega))
  replace HB56 := HB56.keep k109 (by intro h; (try dsimp only at h); first | omega)
  replace HG8 := HG8.keep k109 (by intro i _ hi he; (try dsimp only [NoK, AllB] at hi he); first | exact hi.elim | exact he.elim | omega | (rcases hi with hi | hi <;> omega) | (rcases he with he | he <;> omega))
  replace HB58 := HB58.keep k109 (by intro h; (try dsimp only at h); first | omega)
  replace HP12 := HP12.keep k109 (by intro h; (try dsimp only at h); (try simp only [add_block] at h); first | omega)
  replace HB62 := HX109
  clear HX109
  try simp only [List.set_cons_zero, List.set_cons_succ, setAt, List.take_zero, List.take_succ_cons, List.drop_zero, List.drop_succ_cons, List.nil_append, List.cons_append, List.append_nil, List.length_cons, List.length_nil, Nat.zero_add, Nat.reduceAdd, List.drop_nil] at HB62
  refine l_v (v_assign (t := .int _ _) rfl) ?_
  refine l_nil ?_
  refine n_then ?_
  refine c_seq ?_
  refine wp_reg (by decide +kernel) ?_
  refine l_v (v_loadA (by kernel_rfl) rfl (by first | exact HB62.pv | exact HP12 | exact HB58.pv | exact HB56.pv | exact HB55.pv | exact HB54.pv | assumption) rfl) ?_
  refine l_v (v_move (t := .slice _ _ _) rfl) ?_
  refine l_to (to_f3 (by kernel_rfl) (show _ = (Value.agg _) from rfl) (show _ = (Value.slice _ _ _) from rfl) (show _ = (Value.int _ _) from rfl) (CallsR.mono (Give_c HG5 HS2) ?_))
  rintro _ w13 ⟨⟨x13, rfl, HG13⟩, e13⟩
  have zs_e13 := e13.size
  rw [kG3] at HG13 ⊢
  replace HG13 : AgV tMp _ _ _ kM3 := HG13.all
  obtain ⟨a13, c13, rfl, HS13, he13⟩ := HG13.mp
  replace E := E.trans (Ext.keep e13)
  replace HS2 := HS2.ext e13
  replace HG4 := HG4.ext e13
  replace HB54 := HB54.ext e13
  replace HG5 := HG5.ext e13
  replace HB55 := HB55.ext e13
  replace HG6 := HG6.ext e13
  replace HB56 := HB56.ext e13
  replace HG8 := HG8.ext e13
  replace HB58 := HB58.ext e13
  replace HP12 := HP12.ext e13
  replace HB62 := HB62.ext e13
  refine l_v (v_move (t := .tuple _) rfl) ?_
  refine l_v (v_extract (t := .agg _) rfl rfl) ?_
  refine l_v (v_extract (t := .int _ _) rfl rfl) ?_
  refine l_to (to_alloc (z := (.agg #[.int .i64 0, .slice none 0 0])) (by unfold kZero; kernel_rfl) ?_)
  rintro b63 w63 zb63 HB63 e63 z63
  have zs_e63 := e63.size
  replace E := E.trans (Ext.keep e63)
  replace HS2 := HS2.ext e63
  replace HG4 := HG4.ext e63
  replace HB54 := HB54.ext e63
  replace HG6 := HG6.ext e63
  replace HB56 := HB56.ext e63
  replace HG8 := HG8.ext e63
  replace HB58 := HB58.ext e63
  replace HP12 := HP12.ext e63
  replace HB62 := HB62.ext e63
  replace HG13 := HG13.ext e63
  try simp only [Value.cells] at HB63
  refine l_to (to_storeA (n := 2) rfl rfl (show _ = (Value.agg _) from rfl) (by kernel_rfl) rfl (by first | (simp [slice_one]; done) | (simp only [List.forall_mem_cons, List.cons_append, List.nil_append]; repeat' (first | exact rfl | apply And.intro | (intro u hu; cases hu; done)))) HB63 (by first | exact of_decide_eq_true rfl | (simp; done) | decide) ?_)
  rintro w110 HX110 k110 z110
  have zs_k110 := k110.size
  replace E := E.step k110 (by intro i hi he; (try dsimp only [NoK] at hi he ⊢); first | exact he.elim | omega | exact he)
  replace HS2 := HS2.keep k110 (by intro i _ hi he; (try dsimp only [NoK, AllB] at hi he); first | exact hi.elim | exact he.elim | omega | (rcases hi with hi | hi <;> omega) | (rcases he with he | he <;> omega))
  replace HG4 := HG4.keep k110 (by intro i _ hi he; (try dsimp only [NoK, AllB] at hi he); first | exact hi.elim | exact he.elim | omega | (rcases hi with hi | hi <;> omega) | (rcases he with he | he <;> omega))
  replace HB54 := HB54.keep k110 (by intro h; (try dsimp only at h); first | omega)
  replace HG6 := HG6.keep k110 (by intro i _ hi he; (try dsimp only [NoK, AllB] at hi he); first | exact hi.elim | exact he.elim | omega | (rcases hi with hi | hi <;> omega) | (rcases he with he | he <;> omega))
  replace HB56 := HB56.keep k110 (by intro h; (try dsimp only at h); first | omega)
  replace HG8 := HG8.keep k110 (by intro i _ hi he; (try dsimp only [NoK, AllB] at hi he); first | exact hi.elim | exact he.elim | omega | (rcases hi with hi | hi <;> omega) | (rcases he with he | he <;> omega))
  replace HB58 := HB58.keep k110 (by intro h; (try dsimp only at h); first | omega)
  replace HP12 := HP12.keep k110 (by intro h; (try dsimp only at h); (try simp only [add_block] at h); first | omega)
  replace HB62 := HB62.keep k110 (by intro h; (try dsimp only at h); first | omega)
  replace HG13 := HG13.keep k110 (by intro i _ hi he; (try dsimp only [NoK, AllB] at hi he); first | exact hi.elim | exact he.elim | omega | (rcases hi with hi | hi <;> omega) | (rcases he with he | he <;> omega))
  replace HB63 := HX110
  clear HX110
  try simp only [List.set_cons_zero, List.set_cons_succ, setAt, List.take_zero, List.take_succ_cons, List.drop_zero, List.drop_succ_cons, List.nil_append, List.cons_append, List.append_nil, List.length_cons, List.length_nil, Nat.zero_add, Nat.reduceAdd, List.drop_nil] at HB63
  refine l_v (v_assign (t := .int _ _) rfl) ?_
  refine l_nil ?_
  refine n_then ?_
  refine c_seq ?_
  refine wp_reg (by decide +kernel) ?_
  refine l_v (v_loadA (by kernel_rfl) rfl (by first | exact HB63.pv | exact HB62.pv | exact HP12 | exact HB58.pv | exact HB56.pv | exact HB54.pv | assumption) rfl) ?_
  refine l_v (v_move (t := .slice _ _ _) rfl) ?_
  refine l_to (to_f2 (by kernel_rfl) (show _ = (Value.agg _) from rfl) (show _ = (Value.slice _ _ _) from rfl) (CallsR.mono (Union_c HG13 HS2) ?_))
  rintro _ w14 ⟨⟨x14, rfl, HG14⟩, e14⟩
  have zs_e14 := e14.size
  rw [kU2] at HG14 ⊢
  replace HG14 : AgV tMp _ _ _ mp0 := HG14.all
  obtain ⟨a14, c14, rfl, HS14, he14⟩ := HG14.mp
  replace E := E.trans (Ext.keep e14)
  replace HS2 := HS2.ext e14
  replace HG4 := HG4.ext e14
  replace HB54 := HB54.ext e14
  replace HG6 := HG6.ext e14
  replace HB56 := HB56.ext e14
  replace HG8 := HG8.ext e14
  replace HB58 := HB58.ext e14
  replace HP12 := HP12.ext e14
  replace HB62 := HB62.ext e14
  replace HG13 := HG13.ext e14
  replace HB63 := HB63.ext e14
  refine l_v (v_move (t := .tuple _) rfl) ?_
  refine l_v (v_extract (t := .agg _) rfl rfl) ?_
  refine l_v (v_extract (t := .int _ _) rfl rfl) ?_
  refine l_to (to_alloc (z := (.agg #[.int .i64 0, .slice none 0 0])) (by unfold kZero; kernel_rfl) ?_)
  rintro b64 w64 zb64 HB64 e64 z64
  have zs_e64 := e64.size
  replace E := E.trans (Ext.keep e64)
  replace HS2 := HS2.ext e64
  replace HG4 := HG4.ext e64
  replace HB54 := HB54.ext e64
  replace HG6 := HG6.ext e64
  replace HB56 := HB56.ext e64
  replace HG8 := HG8.ext e64
  replace HB58 := HB58.ext e64
  replace HP12 := HP12.ext e64
  replace HB62 := HB62.ext e64
  replace HB63 := HB63.ext e64
  try simp only [Value.cells] at HB64
  refine l_to (to_storeA (n := 2) rfl rfl (show _ = (Value.agg _) from rfl) (by kernel_rfl) rfl (by first | (simp [slice_one]; done) | (simp only [List.forall_mem_cons, List.cons_append, List.nil_append]; repeat' (first | exact rfl | apply And.intro | (intro u hu; cases hu; done)))) HB64 (by first | exact of_decide_eq_true rfl | (simp; done) | decide) ?_)
  rintro w111 HX111 k111 z111
  have zs_k111 := k111.size
  replace E := E.step k111 (by intro i hi he; (try dsimp only [NoK] at hi he ⊢); first | exact he.elim | omega | exact he)
  replace HS2 := HS2.keep k111 (by intro i _ hi he; (try dsimp only [NoK, AllB] at hi he); first | exact hi.elim | exact he.elim | omega | (rcases hi with hi | hi <;> omega) | (rcases he with he | he <;> omega))
  replace HG4 := HG4.keep k111 (by intro i _ hi he; (try dsimp only [NoK, AllB] at hi he); first | exact hi.elim | exact he.elim | omega | (rcases hi with hi | hi <;> omega) | (rcases he with he | he <;> omega))
  replace HB54 := HB54.keep k111 (by intro h; (try dsimp only at h); first | omega)
  replace HG6 := HG6.keep k111 (by intro i _ hi he; (try dsimp only [NoK, AllB] at hi he); first | exact hi.elim | exact he.elim | omega | (rcases hi with hi | hi <;> omega) | (rcases he with he | he <;> omega))
  replace HB56 := HB56.keep k111 (by intro h; (try dsimp only at h); first | omega)
  replace HG8 := HG8.keep k111 (by intro i _ hi he; (try dsimp only [NoK, AllB] at hi he); first | exact hi.elim | exact he.elim | omega | (rcases hi with hi | hi <;> omega) | (rcases he with he | he <;> omega))
  replace HB58 := HB58.keep k111 (by intro h; (try dsimp only at h); first | omega)
  replace HP12 := HP12.keep k111 (by intro h; (try dsimp only at h); (try simp only [add_block] at h); first | omega)
  replace HB62 := HB62.keep k111 (by intro h; (try dsimp only at h); first | omega)
  replace HB63 := HB63.keep k111 (by intro h; (try dsimp only at h); first | omega)
  replace HB64 := HX111
  clear HX111
  try simp only [List.set_cons_zero, List.set_cons_succ, setAt, List.take_zero, List.take_succ_cons, List.drop_zero, List.drop_succ_cons, List.nil_append, List.cons_append, List.append_nil, List.length_cons, List.length_nil, Nat.zero_add, Nat.reduceAdd, List.drop_nil] at HB64
  refine l_v (v_assign (t := .int _ _) rfl) ?_
  refine l_nil ?_
  refine n_then ?_
  refine c_seq ?_
  refine wp_reg (by decide +kernel) ?_
  refine l_v (v_build (pl := [(0, 1), (1, 1), (2, 1), (3, 1)]) (z := .agg #[.slice none 0 0, .slice none 0 0, .bool false, .int .i64 0]) (zl := [.slice none 0 0, .slice none 0 0, .bool false, .int .i64 0]) (by kernel_rfl) (by unfold kZero; kernel_rfl) rfl rfl (cells := [_, _, _, _]) rfl) ?_
  refine l_v (v_move (t := .slice _ _ _) rfl) ?_
  refine l_v (v_build (pl := [(0, 1), (1, 1), (2, 1), (3, 1)]) (z := .agg #[.slice none 0 0, .slice none 0 0, .bool false, .int .i64 0]) (zl := [.slice none 0 0, .slice none 0 0, .bool false, .int .i64 0]) (by kernel_rfl) (by unfold kZero; kernel_rfl) rfl rfl (cells := [_, _, _, _]) rfl) ?_
  refine l_v (v_move (t := .slice _ _ _) rfl) ?_
  refine l_v (v_build (pl := [(0, 1), (1, 1), (2, 1), (3, 1)]) (z := .agg #[.slice none 0 0, .slice none 0 0, .bool false, .int .i64 0]) (zl := [.slice none 0 0, .slice none 0 0, .bool false, .int .i64 0]) (by kernel_rfl) (by unfold kZero; kernel_rfl) rfl rfl (cells := [_, _, _, _]) rfl) ?_
  refine l_to (to_alloc (z := (.agg #[.slice none 0 0, .slice none 0 0, .bool false, .int .i64 0])) (by unfold kZero; kernel_rfl) ?_)
  rintro b65 w65 zb65 HB65 e65 z65
  have zs_e65 := e65.size
  replace E := E.trans (Ext.keep e65)
  replace HS2 := HS2.ext e65
  replace HG4 := HG4.ext e65
  replace HB54 := HB54.ext e65
  replace HG6 := HG6.ext e65
  replace HB56 := HB56.ext e65
  replace HG8 := HG8.ext e65
  replace HB58 := HB58.ext e65
  replace HP12 := HP12.ext e65
  replace HB62 := HB62.ext e65
  replace HB63 := HB63.ext e65
  replace HB64 := HB64.ext e65
  try simp only [Value.cells] at HB65
  refine l_to (to_alloc (z := (.agg #[.slice none 0 0, .slice none 0 0, .bool false, .int .i64 0])) (by unfold kZero; kernel_rfl) ?_)
  rintro b66 w66 zb66 HB66 e66 z66
  have zs_e66 := e66.size
  replace E := E.trans (Ext.keep e66)
  replace HS2 := HS2.ext e66
  replace HG4 := HG4.ext e66
  replace HB54 := HB54.ext e66
  replace HG6 := HG6.ext e66
  replace HB56 := HB56.ext e66
  replace HG8 := HG8.ext e66
  replace HB58 := HB58.ext e66
  replace HP12 := HP12.ext e66
  replace HB62 := HB62.ext e66
  replace HB63 := HB63.ext e66
  replace HB64 := HB64.ext e66
  replace HB65 := HB65.ext e66
  try simp only [Value.cells] at HB66
  refine l_to (to_alloc (z := (.agg #[.slice none 0 0, .slice none 0 0, .bool false, .int .i64 0])) (by unfold kZero; kernel_rfl) ?_)
  rintro b67 w67 zb67 HB67 e67 z67
  have zs_e67 := e67.size
  replace E := E.trans (Ext.keep e67)
  replace HS2 := HS2.ext e67
  replace HG4 := HG4.ext e67
  replace HB54 := HB54.ext e67
  replace HG6 := HG6.ext e67
  replace HB56 := HB56.ext e67
  replace HG8 := HG8.ext e67
  replace HB58 := HB58.ext e67
  replace HP12 := HP12.ext e67
  replace HB62 := HB62.ext e67
  replace HB63 := HB63.ext e67
  replace HB64 := HB64.ext e67
  replace HB65 := HB65.ext e67
  replace HB66 := HB66.ext e67
  try simp only [Value.cells] at HB67
  refine l_to (to_storeA (n := 4) rfl rfl (show _ = (Value.agg _) from rfl) (by kernel_rfl) rfl (by first | (simp [slice_one]; done) | (simp only [List.forall_mem_cons, List.cons_append, List.nil_append]; repeat' (first | exact rfl | apply And.intro | (intro u hu; cases hu; done)))) HB65 (by first | exact of_decide_eq_true rfl | (simp; done) | decide) ?_)
  rintro w112 HX112 k112 z112
  have zs_k112 := k112.size
  replace E := E.step k112 (by intro i hi he; (try dsimp only [NoK] at hi he ⊢); first | exact he.elim | omega | exact he)
  replace HS2 := HS2.keep k112 (by intro i _ hi he; (try dsimp only [NoK, AllB] at hi he); first | exact hi.elim | exact he.elim | omega | (rcases hi with hi | hi <;> omega) | (rcases he with he | he <;> omega))
  replace HG4 := HG4.keep k112 (by intro i _ hi he; (try dsimp only [NoK, AllB] at hi he); first | exact hi.elim | exact he.elim | omega | (rcases hi with hi | hi <;> omega) | (rcases he with he | he <;> omega))
  replace HB54 := HB54.keep k112 (by intro h; (try dsimp only at h); first | omega)
  replace HG6 := HG6.keep k112 (by intro i _ hi he; (try dsimp only [NoK, AllB] at hi he); first | exact hi.elim | exact he.elim | omega | (rcases hi with hi | hi <;> omega) | (rcases he with he | he <;> omega))
  replace HB56 := HB56.keep k112 (by intro h; (try dsimp only at h); first | omega)
  replace HG8 := HG8.keep k112 (by intro i _ hi he; (try dsimp only [NoK, AllB] at hi he); first | exact hi.elim | exact he.elim | omega | (rcases hi with hi | hi <;> omega) | (rcases he with he | he <;> omega))
  replace HB58 := HB58.keep k112 (by intro h; (try dsimp only at h); first | omega)
  replace HP12 := HP12.keep k112 (by intro h; (try dsimp only at h); (try simp only [add_block] at h); first | omega)
  replace HB62 := HB62.keep k112 (by intro h; (try dsimp only at h); first | omega)
  replace HB63 := HB63.keep k112 (by intro h; (try dsimp only at h); first | omega)
  replace HB64 := HB64.keep k112 (by intro h; (try dsimp only at h); first | omega)
  replace HB66 := HB66.keep k112 (by intro h; (try dsimp only at h); first | omega)
  replace HB67 := HB67.keep k112 (by intro h; (try dsimp only at h); first | omega)
  replace HB65 := HX112
  clear HX112
  try simp only [List.set_cons_zero, List.set_cons_succ, setAt, List.take_zero, List.take_succ_cons, List.drop_zero, List.drop_succ_cons, List.nil_append, List.cons_append, List.append_nil, List.length_cons, List.length_nil, Nat.zero_add, Nat.reduceAdd, List.drop_nil] at HB65
  refine l_to (to_storeA (n := 4) rfl rfl (show _ = (Value.agg _) from rfl) (by kernel_rfl) rfl (by first | (simp [slice_one]; done) | (simp only [List.forall_mem_cons, List.cons_append, List.nil_append]; repeat' (first | exact rfl | apply And.intro | (intro u hu; cases hu; done)))) HB66 (by first | exact of_decide_eq_true rfl | (simp; done) | decide) ?_)
  rintro w113 HX113 k113 z113
  have zs_k113 := k113.size
  replace E := E.step k113 (by intro i hi he; (try dsimp only [NoK] at hi he ⊢); first | exact he.elim | omega | exact he)
  replace HS2 := HS2.keep k113 (by intro i _ hi he; (try dsimp only [NoK, AllB] at hi he); first | exact hi.elim | exact he.elim | omega | (rcases hi with hi | hi <;> omega) | (rcases he with he | he <;> omega))
  replace HG4 := HG4.keep k113 (by intro i _ hi he; (try dsimp only [NoK, AllB] at hi he); first | exact hi.elim | exact he.elim | omega | (rcases hi with hi | hi <;> omega) | (rcases he with he | he <;> omega))
  replace HB54 := HB54.keep k113 (by intro h; (try dsimp only at h); first | omega)
  replace HG6 := HG6.keep k113 (by intro i _ hi he; (try dsimp only [NoK, AllB] at hi he); first | exact hi.elim | exact he.elim | omega | (rcases hi with hi | hi <;> omega) | (rcases he with he | he <;> omega))
  replace HB56 := HB56.keep k113 (by intro h; (try dsimp only at h); first | omega)
  replace HG8 := HG8.keep k113 (by intro i _ hi he; (try dsimp only [NoK, AllB] at hi he); first | exact hi.elim | exact he.elim | omega | (rcases hi with hi | hi <;> omega) | (rcases he with he | he <;> omega))
  replace HB58 := HB58.keep k113 (by intro h; (try dsimp only at h); first | omega)
  replace HP12 := HP12.keep k113 (by intro h; (try dsimp only at h); (try simp only [add_block] at h); first | omega)
  replace HB62 := HB62.keep k113 (by intro h; (try dsimp only at h); first | omega)
  replace HB63 := HB63.keep k113 (by intro h; (try dsimp only at h); first | omega)
  replace HB64 := HB64.keep k113 (by intro h; (try dsimp only at h); first | omega)
  replace HB65 := HB65.keep k113 (by intro h; (try dsimp only at h); first | omega)
  replace HB67 := HB67.keep k113 (by intro h; (try dsimp only at h); first | omega)
  replace HB66 := HX113
  clear HX113
  try simp only [List.set_cons_zero, List.set_cons_succ, setAt, List.take_zero, List.take_succ_cons, List.drop_zero, List.drop_succ_cons, List.nil_append, List.cons_append, List.append_nil, List.length_cons, List.length_nil, Nat.zero_add, Nat.reduceAdd, List.drop_nil] at HB66
  refine l_to (to_storeA (n := 4) rfl rfl (show _ = (Value.agg _) from rfl) (by kernel_rfl) rfl (by first | (simp [slice_one]; done) | (simp only [List.forall_mem_cons, List.cons_append, List.nil_append]; repeat' (first | exact rfl | apply And.intro | (intro u hu; cases hu; done)))) HB67 (by first | exact of_decide_eq_true rfl | (simp; done) | decide) ?_)
  rintro w114 HX114 k114 z114
  have zs_k114 := k114.size
  replace E := E.step k114 (by intro i hi he; (try dsimp only [NoK] at hi he ⊢); first | exact he.elim | omega | exact he)
  replace HS2 := HS2.keep k114 (by intro i _ hi he; (try dsimp only [NoK, AllB] at hi he); first | exact hi.elim | exact he.elim | omega | (rcases hi with hi | hi <;> omega) | (rcases he with he | he <;> omega))
  replace HG4 := HG4.keep k114 (by intro i _ hi he; (try dsimp only [NoK, AllB] at hi he); first | exact hi.elim | exact he.elim | omega | (rcases hi with hi | hi <;> omega) | (rcases he with he | he <;> omega))
  replace HB54 := HB54.keep k114 (by intro h; (try dsimp only at h); first | omega)
  replace HG6 := HG6.keep k114 (by intro i _ hi he; (try dsimp only [NoK, AllB] at hi he); first | exact hi.elim | exact he.elim | omega | (rcases hi with hi | hi <;> omega) | (rcases he with he | he <;> omega))
  replace HB56 := HB56.keep k114 (by intro h; (try dsimp only at h); first | omega)
  replace HG8 := HG8.keep k114 (by intro i _ hi he; (try dsimp only [NoK, AllB] at hi he); first | exact hi.elim | exact he.elim | omega | (rcases hi with hi | hi <;> omega) | (rcases he with he | he <;> omega))
  replace HB58 := HB58.keep k114 (by intro h; (try dsimp only at h); first | omega)
  replace HP12 := HP12.keep k114 (by intro h; (try dsimp only at h); (try simp only [add_block] at h); first | omega)
  replace HB62 := HB62.keep k114 (by intro h; (try dsimp only at h); first | omega)
  replace HB63 := HB63.keep k114 (by intro h; (try dsimp only at h); first | omega)
  replace HB64 := HB64.keep k114 (by intro h; (try dsimp only at h); first | omega)
  replace HB65 := HB65.keep k114 (by intro h; (try dsimp only at h); first | omega)
  replace HB66 := HB66.keep k114 (by intro h; (try dsimp only at h); first | omega)
  replace HB67 := HX114
  clear HX114
  try simp only [List.set_cons_zero, List.set_cons_succ, setAt, List.take_zero, List.take_succ_cons, List.drop_zero, List.drop_succ_cons, List.nil_append, List.cons_append, List.append_nil, List.length_cons, List.length_nil, Nat.zero_add, Nat.reduceAdd, List.drop_nil] at HB67
  refine l_nil ?_
  refine n_then ?_
  refine c_seq ?_
  refine wp_reg (by decide +kernel) ?_
  refine l_v (v_move (t := .int _ _) rfl) ?_
  refine l_to (to_f1 (by kernel_rfl) (show _ = (Value.int _ _) from rfl) (CallsR.mono (num_c) ?_))
  rintro _ w115 ⟨rfl, e115⟩
  have zs_e115 := e115.size
  replace E := E.trans (Ext.keep e115)
  replace HS2 := HS2.ext e115
  replace HG4 := HG4.ext e115
  replace HB54 := HB54.ext e115
  replace HG6 := HG6.ext e115
  replace HB56 := HB56.ext e115
  replace HG8 := HG8.ext e115
  replace HB58 := HB58.ext e115
  replace HP12 := HP12.ext e115
  replace HB62 := HB62.ext e115
  replace HB63 := HB63.ext e115
  replace HB64 := HB64.ext e115
  replace HB65 := HB65.ext e115
  replace HB66 := HB66.ext e115
  replace HB67 := HB67.ext e115
  refine l_v (v_move (t := .int _ _) rfl) ?_
  refine l_to (to_f1 (by kernel_rfl) (show _ = (Value.int _ _) from rfl) (CallsR.mono (num_c) ?_))
  rintro _ w116 ⟨rfl, e116⟩
  have zs_e116 := e116.size
  replace E := E.trans (Ext.keep e116)
  replace HS2 := HS2.ext e116
  replace HG4 := HG4.ext e116
  replace HB54 := HB54.ext e116
  replace HG6 := HG6.ext e116
  replace HB56 := HB56.ext e116
  replace HG8 := HG8.ext e116
  replace HB58 := HB58.ext e116
  replace HP12 := HP12.ext e116
  replace HB62 := HB62.ext e116
  replace HB63 := HB63.ext e116
  replace HB64 := HB64.ext e116
  replace HB65 := HB65.ext e116
  replace HB66 := HB66.ext e116
  replace HB67 := HB67.ext e116
  refine l_v (v_add rfl rfl (by first | exact wr_i64 (by omega) (by omega) | rfl)) ?_
  refine l_v (v_move (t := .int _ _) rfl) ?_
  refine l_to (to_f1 (by kernel_rfl) (show _ = (Value.int _ _) from rfl) (CallsR.mono (num_c) ?_))
  rintro _ w117 ⟨rfl, e117⟩
  have zs_e117 := e117.size
  replace E := E.trans (Ext.keep e117)
  replace HS2 := HS2.ext e117
  replace HG4 := HG4.ext e117
  replace HB54 := HB54.ext e117
  replace HG6 := HG6.ext e117
  replace HB56 := HB56.ext e117
  replace HG8 := HG8.ext e117
  replace HB58 := HB58.ext e117
  replace HP12 := HP12.ext e117
  replace HB62 := HB62.ext e117
  replace HB63 := HB63.ext e117
  replace HB64 := HB64.ext e117
  replace HB65 := HB65.ext e117
  replace HB66 := HB66.ext e117
  replace HB67 := HB67.ext e117
  refine l_v (v_add rfl rfl (by first | exact wr_i64 (by omega) (by omega) | rfl)) ?_
  refine l_v (v_move (t := .int _ _) rfl) ?_
  refine l_to (to_f1 (by kernel_rfl) (show _ = (Value.int _ _) from rfl) (CallsR.mono (num_c) ?_))
  rintro _ w118 ⟨rfl, e118⟩
  have zs_e118 := e118.size
  replace E := E.trans (Ext.keep e118)
  replace HS2 := HS2.ext e118
  replace HG4 := HG4.ext e118
  replace HB54 := HB54.ext e118
  replace HG6 := HG6.ext e118
  replace HB56 := HB56.ext e118
  replace HG8 := HG8.ext e118
  replace HB58 := HB58.ext e118
  replace HP12 := HP12.ext e118
  replace HB62 := HB62.ext e118
  replace HB63 := HB63.ext e118
  replace HB64 := HB64.ext e118
  replace HB65 := HB65.ext e118
  replace HB66 := HB66.ext e118
  replace HB67 := HB67.ext e118
  obtain ⟨HG31, HG32, HG33⟩ := kAgs HS2
  refine l_v (v_add rfl rfl (by first | exact wr_i64 (by omega) (by omega) | rfl)) ?_
  refine l_v (v_eql rfl rfl) ?_
  refine l_v (v_move (t := .bool _) rfl) ?_
  refine l_g1 rfl rfl (fun hG => v_loadA (by kernel_rfl) rfl (by first | exact HB67.pv | exact HB66.pv | exact HB65.pv | exact HB64.pv | exact HB63.pv | exact HB62.pv | exact HP12 | exact HB58.pv | exact HB56.pv | exact HB54.pv | assumption) rfl) ?_
  refine l_g1 rfl rfl (fun hG => v_loadA (by kernel_rfl) rfl (by first | exact HB67.pv | exact HB66.pv | exact HB65.pv | exact HB64.pv | exact HB63.pv | exact HB62.pv | exact HP12 | exact HB58.pv | exact HB56.pv | exact HB54.pv | assumption) rfl) ?_
  refine l_g1f rfl rfl (fun hG => to_f2 (by kernel_rfl) (gd hG rfl) (gd hG rfl) (SameRange_c HG4 HG31)) ?_
  rintro w119 e119
  have zs_e119 := e119.size
  replace E := E.trans (Ext.keep e119)
  replace HS2 := HS2.ext e119
  replace HG4 := HG4.ext e119
  replace HB54 := HB54.ext e119
  replace HG6 := HG6.ext e119
  replace HB56 := HB56.ext e119
  replace HG8 := HG8.ext e119
  replace HB58 := HB58.ext e119
  replace HP12 := HP12.ext e119
  replace HB62 := HB62.ext e119
  replace HB63 := HB63.ext e119
  replace HB64 := HB64.ext e119
  replace HB65 := HB65.ext e119
  replace HB66 := HB66.ext e119
  replace HB67 := HB67.ext e119
  replace HG31 := HG31.ext e119
  replace HG32 := HG32.ext e119
  replace HG33 := HG33.ext e119
  refine l_v (v_and rfl rfl) ?_
  refine l_v (v_move (t := .bool _) rfl) ?_
  refine l_g1 rfl rfl (fun hG => v_move (t := .int _ _) rfl) ?_
  refine l_g1 rfl rfl (fun hG => v_eql (gd hG rfl) rfl) ?_
  refine l_v (v_and rfl rfl) ?_
  refine l_v (v_move (t := .bool _) rfl) ?_
  refine l_g1 rfl rfl (fun hG => v_loadA (by kernel_rfl) rfl (by first | exact HB67.pv | exact HB66.pv | exact HB65.pv | exact HB64.pv | exact HB63.pv | exact HB62.pv | exact HP12 | exact HB58.pv | exact HB56.pv | exact HB54.pv | assumption) rfl) ?_
  refine l_g1 rfl rfl (fun hG => v_loadA (by kernel_rfl) rfl (by first | exact HB67.pv | exact HB66.pv | exact HB65.pv | exact HB64.pv | exact HB63.pv | exact HB62.pv | exact HP12 | exact HB58.pv | exact HB56.pv | exact HB54.pv | assumption) rfl) ?_
  refine l_g1f rfl rfl (fun hG => to_f2 (by kernel_rfl) (gd hG rfl) (gd hG rfl) (SameRange_c HG6 HG33)) ?_
  rintro w120 e120
  have zs_e120 := e120.size
  replace E := E.trans (Ext.keep e120)
  replace HS2 := HS2.ext e120
  replace HG4 := HG4.ext e120
  replace HB54 := HB54.ext e120
  replace HG6 := HG6.ext e120
  replace HB56 := HB56.ext e120
  replace HG8 := HG8.ext e120
  replace HB58 := HB58.ext e120
  replace HP12 := HP12.ext e120
  replace HB62 := HB62.ext e120
  replace HB63 := HB63.ext e120
  replace HB64 := HB64.ext e120
  replace HB65 := HB65.ext e120
  replace HB66 := HB66.ext e120
  replace HB67 := HB67.ext e120
  replace HG31 := HG31.ext e120
  replace HG32 := HG32.ext e120
  replace HG33 := HG33.ext e120
  refine l_v (v_and rfl rfl) ?_
  refine l_v (v_move (t := .bool _) rfl) ?_
  refine l_g1 rfl rfl (fun hG => v_move (t := .int _ _) rfl) ?_
  refine l_g1 rfl rfl (fun hG => v_eql (gd hG rfl) rfl) ?_
  refine l_v (v_and rfl rfl) ?_
  refine l_v (v_move (t := .bool _) rfl) ?_
  refine l_g1 rfl rfl (fun hG => v_loadA (by kernel_rfl) rfl (by first | exact HB67.pv | exact HB66.pv | exact HB65.pv | exact HB64.pv | exact HB63.pv | exact HB62.pv | exact HP12 | exact HB58.pv | exact HB56.pv | exact HB54.pv | assumption) rfl) ?_
  refine l_g1 rfl rfl (fun hG => v_loadA (by kernel_rfl) rfl (by first | exact HB67.pv | exact HB66.pv | exact HB65.pv | exact HB64.pv | exact HB63.pv | exact HB62.pv | exact HP12 | exact HB58.pv | exact HB56.pv | exact HB54.pv | assumption) rfl) ?_
  refine l_g1f rfl rfl (fun hG => to_f2 (by kernel_rfl) (gd hG rfl) (gd hG rfl) (SameRange_c HG8 HG32)) ?_
  rintro w121 e121
  have zs_e121 := e121.size
  replace E := E.trans (Ext.keep e121)
  replace HS2 := HS2.ext e121
  replace HG4 := HG4.ext e121
  replace HB54 := HB54.ext e121
  replace HG6 := HG6.ext e121
  replace HB56 := HB56.ext e121
  replace HG8 := HG8.ext e121
  replace HB58 := HB58.ext e121
  replace HP12 := HP12.ext e121
  replace HB62 := HB62.ext e121
  replace HB63 := HB63.ext e121
  replace HB64 := HB64.ext e121
  replace HB65 := HB65.ext e121
  replace HB66 := HB66.ext e121
  replace HB67 := HB67.ext e121
  replace HG31 := HG31.ext e121
  replace HG32 := HG32.ext e121
  replace HG33 := HG33.ext e121
  refine l_v (v_and rfl rfl) ?_
  refine l_v (v_move (t := .bool _) rfl) ?_
  refine l_g1 rfl rfl (fun hG => v_move (t := .int _ _) rfl) ?_
  refine l_g1 rfl rfl (fun hG => v_eql (gd hG rfl) rfl) ?_
  refine l_v (v_and rfl rfl) ?_
  refine l_v (v_move (t := .bool _) rfl) ?_
  refine l_g1 rfl rfl (fun hG => v_move (t := .int _ _) rfl) ?_
  refine l_g1f rfl rfl (fun hG => to_f1 (by kernel_rfl) (gd hG rfl) (num_c)) ?_
  rintro w122 e122
  have zs_e122 := e122.size
  replace E := E.trans (Ext.keep e122)
  replace HS2 := HS2.ext e122
  replace HG4 := HG4.ext e122
  replace HB54 := HB54.ext e122
  replace HG6 := HG6.ext e122
  replace HB56 := HB56.ext e122
  replace HG8 := HG8.ext e122
  replace HB58 := HB58.ext e122
  replace HP12 := HP12.ext e122
  replace HB62 := HB62.ext e122
  replace HB63 := HB63.ext e122
  replace HB64 := HB64.ext e122
  replace HB65 := HB65.ext e122
  replace HB66 := HB66.ext e122
  replace HB67 := HB67.ext e122
  replace HG31 := HG31.ext e122
  replace HG32 := HG32.ext e122
  replace HG33 := HG33.ext e122
  refine l_g1 rfl rfl (fun hG => v_eql (gd hG rfl) rfl) ?_
  refine l_v (v_and rfl rfl) ?_
  refine l_v (v_move (t := .bool _) rfl) ?_
  refine l_g1 rfl rfl (fun hG => v_move (t := .int _ _) rfl) ?_
  refine l_g1f rfl rfl (fun hG => to_f1 (by kernel_rfl) (gd hG rfl) (num_c)) ?_
  rintro w123 e123
  have zs_e123 := e123.size
  replace E := E.trans (Ext.keep e123)
  replace HS2 := HS2.ext e123
  replace HG4 := HG4.ext e123
  replace HB54 := HB54.ext e123
  replace HG6 := HG6.ext e123
  replace HB56 := HB56.ext e123
  replace HG8 := HG8.ext e123
  replace HB58 := HB58.ext e123
  replace HP12 := HP12.ext e123
  replace HB62 := HB62.ext e123
  replace HB63 := HB63.ext e123
  replace HB64 := HB64.ext e123
  replace HB65 := HB65.ext e123
  replace HB66 := HB66.ext e123
  replace HB67 := HB67.ext e123
  replace HG31 := HG31.ext e123
  replace HG32 := HG32.ext e123
  replace HG33 := HG33.ext e123
  refine l_g1 rfl rfl (fun hG => v_eql (gd hG rfl) rfl) ?_
  refine l_v (v_and rfl rfl) ?_
  refine l_v (v_move (t := .bool _) rfl) ?_
  refine l_g1 rfl rfl (fun hG => v_move (t := .int _ _) rfl) ?_
  refine l_g1f rfl rfl (fun hG => to_f1 (by kernel_rfl) (gd hG rfl) (num_c)) ?_
  rintro w124 e124
  have zs_e124 := e124.size
  replace E := E.trans (Ext.keep e124)
  replace HS2 := HS2.ext e124
  replace HG4 := HG4.ext e124
  replace HB54 := HB54.ext e124
  replace HG6 := HG6.ext e124
  replace HB56 := HB56.ext e124
  replace HG8 := HG8.ext e124
  replace HB58 := HB58.ext e124
  replace HP12 := HP12.ext e124
  replace HB62 := HB62.ext e124
  replace HB63 := HB63.ext e124
  replace HB64 := HB64.ext e124
  replace HB65 := HB65.ext e124
  replace HB66 := HB66.ext e124
  replace HB67 := HB67.ext e124
  replace HG31 := HG31.ext e124
  replace HG32 := HG32.ext e124
  replace HG33 := HG33.ext e124
  refine l_g1 rfl rfl (fun hG => v_eql (gd hG rfl) rfl) ?_
  refine l_v (v_and rfl rfl) ?_
  refine l_v (v_move (t := .bool _) rfl) ?_
  refine l_g1 rfl rfl (fun hG => v_fieldAddr (off := 0) (ft := 2) (by kernel_rfl) rfl) ?_
  refine l_g1 rfl rfl (fun hG => v_load (by kernel_rfl) (gd hG rfl) (by first | exact HB67.pv 0 _ rfl | exact HB66.pv 0 _ rfl | exact HB65.pv 0 _ rfl | exact HB64.pv 0 _ rfl | exact HB63.pv 0 _ rfl | exact HB62.pv 0 _ rfl | exact HP12 0 _ rfl | exact HB58.pv 0 _ rfl | exact HB56.pv 0 _ rfl | exact HB54.pv 0 _ rfl | assumption)) ?_
  refine l_g1 rfl rfl (fun hG => v_eql (gd hG rfl) rfl) ?_
  refine l_v (v_and rfl rfl) ?_
  refine l_v (v_move (t := .bool _) rfl) ?_
  refine l_g1 rfl rfl (fun hG => v_fieldAddr (off := 1) (ft := 22) (by kernel_rfl) rfl) ?_
  refine l_g1 rfl rfl (fun hG => v_load (by kernel_rfl) (gd hG rfl) (by first | exact HB67.pv 1 _ rfl | exact HB66.pv 1 _ rfl | exact HB65.pv 1 _ rfl | exact HB64.pv 1 _ rfl | exact HB63.pv 1 _ rfl | exact HB62.pv 1 _ rfl | exact HP12 1 _ rfl | exact HB58.pv 1 _ rfl | exact HB56.pv 1 _ rfl | exact HB54.pv 1 _ rfl | assumption)) ?_
  refine l_g1 rfl rfl (fun hG => v_len (et := 37) (by kernel_rfl) (gd hG rfl)) ?_
  refine l_g1 rfl rfl (fun hG => v_eql (gd hG rfl) rfl) ?_
  refine l_v (v_and rfl rfl) ?_
  refine l_v (v_move (t := .bool _) rfl) ?_
  refine l_g1 rfl rfl (fun hG => v_fieldAddr (off := 1) (ft := 22) (by kernel_rfl) rfl) ?_
  refine l_g1 rfl rfl (fun hG => v_load (by kernel_rfl) (gd hG rfl) (by first | exact HB67.pv 1 _ rfl | exact HB66.pv 1 _ rfl | exact HB65.pv 1 _ rfl | exact HB64.pv 1 _ rfl | exact HB63.pv 1 _ rfl | exact HB62.pv 1 _ rfl | exact HP12 1 _ rfl | exact HB58.pv 1 _ rfl | exact HB56.pv 1 _ rfl | exact HB54.pv 1 _ rfl | assumption)) ?_
  refine l_g1 rfl rfl (fun hG => v_indexAddr (et := 37) (sz := 4) (k := 0) (by kernel_rfl) (by kernel_rfl) (gd hG rfl) rfl (rfl) (by decide)) ?_
  refine l_g1 rfl rfl (fun hG => v_fieldAddr (off := 3) (ft := 3) (by kernel_rfl) (gd hG rfl)) ?_
  refine l_g1 rfl rfl (fun hG => v_load (by kernel_rfl) (gd hG rfl) (by first | exact HB67.pv 3 _ rfl | exact HB66.pv 3 _ rfl | exact HB65.pv 3 _ rfl | exact HB64.pv 3 _ rfl | exact HB63.pv 3 _ rfl | exact HB62.pv 3 _ rfl | exact HP12 3 _ rfl | exact HB58.pv 3 _ rfl | exact HB56.pv 3 _ rfl | exact HB54.pv 3 _ rfl | assumption)) ?_
  refine l_g1 rfl rfl (fun hG => v_eql (gd hG rfl) rfl) ?_
  refine l_v (v_and rfl rfl) ?_
  refine l_v (v_move (t := .bool _) rfl) ?_
  refine l_g1 rfl rfl (fun hG => v_fieldAddr (off := 0) (ft := 2) (by kernel_rfl) rfl) ?_
  refine l_g1 rfl rfl (fun hG => v_load (by kernel_rfl) (gd hG rfl) (by first | exact HB67.pv 0 _ rfl | exact HB66.pv 0 _ rfl | exact HB65.pv 0 _ rfl | exact HB64.pv 0 _ rfl | exact HB63.pv 0 _ rfl | exact HB62.pv 0 _ rfl | exact HP12 0 _ rfl | exact HB58.pv 0 _ rfl | exact HB56.pv 0 _ rfl | exact HB54.pv 0 _ rfl | assumption)) ?_
  refine l_g1 rfl rfl (fun hG => v_eql (gd hG rfl) rfl) ?_
  refine l_v (v_and rfl rfl) ?_
  refine l_v (v_move (t := .bool _) rfl) ?_
  refine l_g1 rfl rfl (fun hG => v_move (t := .int _ _) rfl) ?_
  refine l_g1f rfl rfl (fun hG => to_f1 (by kernel_rfl) (gd hG rfl) (num_c)) ?_
  rintro w125 e125
  have zs_e125 := e125.size
  replace E := E.trans (Ext.keep e125)
  replace HS2 := HS2.ext e125
  replace HG4 := HG4.ext e125
  replace HB54 := HB54.ext e125
  replace HG6 := HG6.ext e125
  replace HB56 := HB56.ext e125
  replace HG8 := HG8.ext e125
  replace HB58 := HB58.ext e125
  replace HP12 := HP12.ext e125
  replace HB62 := HB62.ext e125
  replace HB63 := HB63.ext e125
  replace HB64 := HB64.ext e125
  replace HB65 := HB65.ext e125
  replace HB66 := HB66.ext e125
  replace HB67 := HB67.ext e125
  replace HG31 := HG31.ext e125
  replace HG32 := HG32.ext e125
  replace HG33 := HG33.ext e125
  refine l_g1 rfl rfl (fun hG => v_eql (gd hG rfl) rfl) ?_
  refine l_v (v_and rfl rfl) ?_
  refine l_v (v_move (t := .bool _) rfl) ?_
  refine l_g1 rfl rfl (fun hG => v_loadA (by kernel_rfl) rfl (by first | exact HB67.pv | exact HB66.pv | exact HB65.pv | exact HB64.pv | exact HB63.pv | exact HB62.pv | exact HP12 | exact HB58.pv | exact HB56.pv | exact HB54.pv | assumption) rfl) ?_
  refine l_g1 rfl rfl (fun hG => v_loadA (by kernel_rfl) rfl (by first | exact HB67.pv | exact HB66.pv | exact HB65.pv | exact HB64.pv | exact HB63.pv | exact HB62.pv | exact HP12 | exact HB58.pv | exact HB56.pv | exact HB54.pv | assumption) rfl) ?_
  refine l_g1f rfl rfl (fun hG => to_f2 (by kernel_rfl) (gd hG rfl) (gd hG rfl) (Meet_c HG32 HG33 (by decide) (by decide))) ?_
  rintro w126 e126
  have zs_e126 := e126.size
  replace E := E.trans (Ext.keep e126)
  replace HS2 := HS2.ext e126
  replace HG4 := HG4.ext e126
  replace HB54 := HB54.ext e126
  replace HG6 := HG6.ext e126
  replace HB56 := HB56.ext e126
  replace HG8 := HG8.ext e126
  replace HB58 := HB58.ext e126
  replace HP12 := HP12.ext e126
  replace HB62 := HB62.ext e126
  replace HB63 := HB63.ext e126
  replace HB64 := HB64.ext e126
  replace HB65 := HB65.ext e126
  replace HB66 := HB66.ext e126
  replace HB67 := HB67.ext e126
  replace HG31 := HG31.ext e126
  replace HG32 := HG32.ext e126
  replace HG33 := HG33.ext e126
  refine l_g1 rfl rfl (fun hG => v_not (gd hG rfl)) ?_
  refine l_v (v_and rfl rfl) ?_
  refine l_v (v_move (t := .bool _) rfl) ?_
  refine l_g1 rfl rfl (fun hG => v_loadA (by kernel_rfl) rfl (by first | exact HB67.pv | exact HB66.pv | exact HB65.pv | exact HB64.pv | exact HB63.pv | exact HB62.pv | exact HP12 | exact HB58.pv | exact HB56.pv | exact HB54.pv | assumption) rfl) ?_
  refine l_g1 rfl rfl (fun hG => v_loadA (by kernel_rfl) rfl (by first | exact HB67.pv | exact HB66.pv | exact HB65.pv | exact HB64.pv | exact HB63.pv | exact HB62.pv | exact HP12 | exact HB58.pv | exact HB56.pv | exact HB54.pv | assumption) rfl) ?_
  refine l_g1f rfl rfl (fun hG => to_f2 (by kernel_rfl) (gd hG rfl) (gd hG rfl) (Meet_c HG32 HG31 (by decide) (by decide))) ?_
  rintro w127 e127
  have zs_e127 := e127.size
  replace E := E.trans (Ext.keep e127)
  replace HS2 := HS2.ext e127
  replace HG4 := HG4.ext e127
  replace HB54 := HB54.ext e127
  replace HG6 := HG6.ext e127
  replace HB56 := HB56.ext e127
  replace HG8 := HG8.ext e127
  replace HB58 := HB58.ext e127
  replace HP12 := HP12.ext e127
  replace HB62 := HB62.ext e127
  replace HB63 := HB63.ext e127
  replace HB64 := HB64.ext e127
  replace HB65 := HB65.ext e127
  replace HB66 := HB66.ext e127
  replace HB67 := HB67.ext e127
  replace HG31 := HG31.ext e127
  replace HG32 := HG32.ext e127
  replace HG33 := HG33.ext e127
  refine l_v (v_and rfl rfl) ?_
  refine l_v (v_move (t := .bool _) rfl) ?_
  refine l_g1 rfl rfl (fun hG => v_loadA (by kernel_rfl) rfl (by first | exact HB67.pv | exact HB66.pv | exact HB65.pv | exact HB64.pv | exact HB63.pv | exact HB62.pv | exact HP12 | exact HB58.pv | exact HB56.pv | exact HB54.pv | assumption) rfl) ?_
  refine l_g1 rfl rfl (fun hG => v_loadA (by kernel_rfl) rfl (by first | exact HB67.pv | exact HB66.pv | exact HB65.pv | exact HB64.pv | exact HB63.pv | exact HB62.pv | exact HP12 | exact HB58.pv | exact HB56.pv | exact HB54.pv | assumption) rfl) ?_
  refine l_g1f rfl rfl (fun hG => to_f2 (by kernel_rfl) (gd hG rfl) (gd hG rfl) (Within_c HG32 HG31)) ?_
  rintro w128 e128
  have zs_e128 := e128.size
  replace E := E.trans (Ext.keep e128)
  replace HS2 := HS2.ext e128
  replace HG4 := HG4.ext e128
  replace HB54 := HB54.ext e128
  replace HG6 := HG6.ext e128
  replace HB56 := HB56.ext e128
  replace HG8 := HG8.ext e128
  replace HB58 := HB58.ext e128
  replace HP12 := HP12.ext e128
  replace HB62 := HB62.ext e128
  replace HB63 := HB63.ext e128
  replace HB64 := HB64.ext e128
  replace HB65 := HB65.ext e128
  replace HB66 := HB66.ext e128
  replace HB67 := HB67.ext e128
  replace HG31 := HG31.ext e128
  replace HG32 := HG32.ext e128
  replace HG33 := HG33.ext e128
  refine l_v (v_and rfl rfl) ?_
  refine l_v (v_assign (t := .bool _) rfl) ?_
  refine l_nil ?_
  refine n_then ?_
  refine c_ret ?_
  refine ret1v rfl (by decide) (show _ = (Value.bool _) from rfl) ?_
  exact ⟨by kernel_rfl, E⟩
end Go.Proofs.Ytkaangdfpjkjpaa
