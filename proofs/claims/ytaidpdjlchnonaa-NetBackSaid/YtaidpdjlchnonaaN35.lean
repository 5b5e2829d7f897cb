/- A part of the proof: steps and lemmas for the walks through the given program. -/
import Derived.Test.YtaidpdjlchnonaaN34
namespace Go.Proofs.Ytaidpdjlchnonaa
open Go.Vc
set_option linter.unusedVariables false
set_option linter.unusedSimpArgs false
set_option maxRecDepth 100000

theorem refSame_self {w : World} {F G : Nat → Prop} {v u : Value} {m : Ms} (HG1 : AgV tMs w F v m) (HG2 : AgV tMs w G u m) : CallsR Try.prog 15 #[v, u] w (fun o w' => o = .bool true ∧ Ext w w') :=
  CallsR.mono (refSame_c HG1 HG2) fun o w' h => ⟨h.1.trans (by simp), h.2⟩
set_option maxHeartbeats 4000000 in
theorem NetBack_c {w : World} {F G : Nat → Prop} {v u : Value} {m : Ms} {l : List UInt8} (HG1 : AgV tMs w F v m) (r1 : m.snap.length ≤ 140737488355328 ∧ m.ents.length ≤ 140737488355328) (HS1 : Bv w G u l) : CallsR Try.prog 10 #[v, u] w (fun o w' => o = .bool true ∧ Ext w w') := by
  obtain ⟨a1, c1, a2, c2, rfl, _, _, _⟩ := HG1.ms
  obtain ⟨a3, c3, rfl⟩ := HS1.shape
  refine enter 71 Try.func10 rfl rfl (by simp) ?_
  refine c_seq ?_
  have E := Keep.refl (K := NoK) w
  replace HG1 := HG1.all
  replace HS1 := HS1.all
  refine wp_reg (by decide +kernel) ?_
  refine l_to (to_box (show _ = (Value.agg _) from rfl) ?_)
  rintro b1 w1 zb1 HB1 e1 z1
  have zs_e1 := e1.size
  replace E := E.trans (Ext.keep e1)
  replace HG1 := HG1.ext e1
  replace HS1 := HS1.ext e1
  try simp only [Value.cells] at HB1
  refine l_v (v_assign rfl) ?_
  refine l_nil ?_
  refine n_then ?_
  refine c_seq ?_
  refine c_seq ?_
  refine wp_reg (by decide +kernel) ?_
  refine l_v (v_move (t := .slice _ _ _) rfl) ?_
  refine l_v (v_len (et := 5) (by kernel_rfl) rfl) ?_
  refine l_v (v_leq rfl rfl) ?_
  refine l_nil ?_
  refine n_then ?_
  refine c_cond rfl rfl (fun hl => ?_) (fun hl => ?_)
  · skip
    have hl : l.length ≤ 60000 := by simp at hl; omega
    refine c_seq ?_
    refine wp_reg (by decide +kernel) ?_
    refine l_v (v_move (t := .slice _ _ _) rfl) ?_
    refine l_to (to_f1 (by kernel_rfl) (show _ = (Value.slice _ _ _) from rfl) (CallsR.mono (nRead_c HS1 (by omega)) ?_))
    rintro _ w2 ⟨⟨x2, rfl, HG2⟩, e2⟩
    have zs_e2 := e2.size
    replace HG2 := HG2.mono (F' := fun i => i < w2.heap.size) fun b hb h => hb
    obtain ⟨a5, c5, a6, c6, rfl, _, _, _⟩ := HG2.ms
    replace E := E.trans (Ext.keep e2)
    replace HG1 := HG1.ext e2
    replace HS1 := HS1.ext e2
    replace HB1 := HB1.ext e2
    refine l_v (v_move (t := .tuple _) rfl) ?_
    refine l_v (v_extract (t := .agg _) rfl rfl) ?_
    refine l_v (v_extract (t := .int _ _) rfl rfl) ?_
    refine l_to (to_alloc (z := (.agg #[.int .i64 0, .int .i64 0, .int .i64 0, .int .i64 0, .int .i64 0, .int .i64 0, .int .i64 0, .int .i64 0, .slice none 0 0, .bool false, .slice none 0 0])) (by unfold kZero; kernel_rfl) ?_)
    rintro b4 w4 zb4 HB4 e4 z4
    have zs_e4 := e4.size
    replace E := E.trans (Ext.keep e4)
    replace HG1 := HG1.ext e4
    replace HS1 := HS1.ext e4
    replace HB1 := HB1.ext e4
    replace HG2 := HG2.ext e4
    try simp only [Value.cells] at HB4
    refine l_to (to_storeA (n := 11) rfl rfl (show _ = (Value.agg _) from rfl) (by kernel_rfl) rfl (by first | (simp [slice_one]; done) | (simp only [List.forall_mem_cons, List.cons_append, List.nil_append]; repeat' (first | exact rfl | apply And.intro | (intro u hu; cases hu; done)))) HB4 (by first | exact of_decide_eq_true rfl | (simp; done) | decide) ?_)
    rintro w101 HX101 k101 z101
    have zs_k101 := k101.size
    replace E := E.step k101 (by intro i hi he; (try dsimp only [NoK] at hi he ⊢); first | exact he.elim | omega | exact he)
    replace HG1 := HG1.keep k101 (by intro i _ hi he; (try dsimp only [NoK, AllB] at hi he); first | exact hi.elim | exact he.elim | omega | (rcases hi with hi | hi <;> omega) | (rcases he with he | he <;> omega))
    replace HS1 := HS1.keep k101 (by intro i _ hi he; (try dsimp only [NoK, AllB] at hi he); first | exact hi.elim | exact he.elim | omega | (rcases hi with hi | hi <;> omega) | (rcases he with he | he <;> omega))
    replace HB1 := HB1.keep k101 (by intro h; (try dsimp only at h); first | omega)
    replace HG2 := HG2.keep k101 (by intro i _ hi he; (try dsimp only [NoK, AllB] at hi he); first | exact hi.elim | exact he.elim | omega | (rcases hi with hi | hi <;> omega) | (rcases he with he | he <;> omega))
    replace HB4 := HX101
    clear HX101
    try simp only [List.set_cons_zero, List.set_cons_succ, setAt, List.take_zero, List.take_succ_cons, List.drop_zero, List.drop_succ_cons, List.nil_append, List.cons_append, List.append_nil, List.length_cons, List.length_nil, Nat.zero_add, Nat.reduceAdd, List.drop_nil] at HB4
    refine l_v (v_assign (t := .int _ _) rfl) ?_
    refine l_nil ?_
    refine n_then ?_
    refine c_seq ?_
    refine wp_reg (by decide +kernel) ?_
    refine l_v (v_loadA (by kernel_rfl) rfl (by first | exact HB4.pv | exact HB1.pv | assumption) rfl) ?_
    refine l_to (to_f1 (by kernel_rfl) (show _ = (Value.agg _) from rfl) (CallsR.mono (mBytes_c HG2) ?_))
    rintro _ w7 ⟨⟨x7, rfl, HS7⟩, e7⟩
    have zs_e7 := e7.size
    replace HS7 := HS7.all
    obtain ⟨a8, c8, rfl⟩ := HS7.shape
    replace E := E.trans (Ext.keep e7)
    replace HG1 := HG1.ext e7
    replace HS1 := HS1.ext e7
    replace HB1 := HB1.ext e7
    replace HG2 := HG2.ext e7
    replace HB4 := HB4.ext e7
    refine l_v (v_move (t := .tuple _) rfl) ?_
    refine l_v (v_extract (t := .slice _ _ _) rfl rfl) ?_
    refine l_v (v_extract (t := .int _ _) rfl rfl) ?_
    refine l_v (v_assign (t := .slice _ _ _) rfl) ?_
    refine l_v (v_assign (t := .int _ _) rfl) ?_
    refine l_nil ?_
    refine n_then ?_
    by_cases he : (readN l).2 = 0
    · skip
      refine c_seq ?_
      obtain ⟨q1, q2, q3⟩ := read_ok he
      have hq : mayN (readN l).1 = true := by rw [q1]; exact q2
      rw [if_pos hq] at HS7
      rw [if_pos hq, if_pos hq]
      refine wp_reg (by decide +kernel) ?_
      refine l_v (v_move (t := .int _ _) rfl) ?_
      refine l_to (to_f1 (by kernel_rfl) (show _ = (Value.int _ _) from rfl) (CallsR.mono (num_c) ?_))
      rintro _ w102 ⟨rfl, e102⟩
      have zs_e102 := e102.size
      replace E := E.trans (Ext.keep e102)
      replace HG1 := HG1.ext e102
      replace HS1 := HS1.ext e102
      replace HB1 := HB1.ext e102
      replace HG2 := HG2.ext e102
      replace HB4 := HB4.ext e102
      replace HS7 := HS7.ext e102
      refine l_v (OpVat.as (b := true) (v_eql rfl rfl) (decide_eq_true he)) ?_
      refine l_v (v_move (t := .bool _) rfl) ?_
      refine l_gt rfl rfl (OpTo.of_v (v_move (t := .int _ _) rfl) ?_)
      refine l_gt rfl rfl (to_f1 (by kernel_rfl) (show _ = (Value.int _ _) from rfl) (CallsR.mono (num_c) ?_))
      rintro _ w103 ⟨rfl, e103⟩
      have zs_e103 := e103.size
      replace E := E.trans (Ext.keep e103)
      replace HG1 := HG1.ext e103
      replace HS1 := HS1.ext e103
      replace HB1 := HB1.ext e103
      replace HG2 := HG2.ext e103
      replace HB4 := HB4.ext e103
      replace HS7 := HS7.ext e103
      refine l_gt rfl rfl (OpTo.of_v (OpVat.as (b := false) (v_neq rfl rfl) rfl) ?_)
      refine l_gt rfl rfl (OpTo.of_v (v_move (t := .bool _) rfl) ?_)
      refine l_gt rfl rfl (OpTo.of_v (v_move (t := .slice _ _ _) rfl) ?_)
      refine l_gt rfl rfl (OpTo.of_v (v_b2s (et := 5) (by kernel_rfl) (by kernel_rfl) (by kernel_rfl) rfl (by first | exact HS7 | exact HS1 | assumption)) ?_)
      refine l_gt rfl rfl (OpTo.of_v (v_move (t := .slice _ _ _) rfl) ?_)
      refine l_gt rfl rfl (OpTo.of_v (v_b2s (et := 5) (by kernel_rfl) (by kernel_rfl) (by kernel_rfl) rfl (by first | exact HS7 | exact HS1 | assumption)) ?_)
      refine l_gt rfl rfl (OpTo.of_v (OpVat.as (b := false) (v_sne rfl rfl) (by rw [q1, q3]; simp)) ?_)
      refine l_gt rfl rfl (OpTo.of_v (v_orT rfl rfl) ?_)
      refine l_v (v_andT rfl rfl) ?_
      refine l_nil ?_
      refine n_then ?_
      refine c_cond rfl rfl (fun hs => ?_) (fun hs => ?_)
      · skip
        cases hs
      · skip
        refine c_skip ?_
        refine n_then ?_
        refine c_seq ?_
        refine c_seq ?_
        refine wp_reg (by decide +kernel) ?_
        refine l_v (v_loadA (by kernel_rfl) rfl (by first | exact HB4.pv | exact HB1.pv | assumption) rfl) ?_
        refine l_to (to_f1 (by kernel_rfl) (show _ = (Value.agg _) from rfl) (CallsR.mono (Size_c HG1 r1.1 r1.2) ?_))
        rintro _ w104 ⟨rfl, e104⟩
        have zs_e104 := e104.size
        replace E := E.trans (Ext.keep e104)
        replace HG1 := HG1.ext e104
        replace HS1 := HS1.ext e104
        replace HB1 := HB1.ext e104
        replace HG2 := HG2.ext e104
        replace HB4 := HB4.ext e104
        replace HS7 := HS7.ext e104
        refine l_v (v_gtr rfl rfl) ?_
        refine l_nil ?_
        refine n_then ?_
        refine c_cond rfl rfl (fun hz => ?_) (fun hz => ?_)
        · skip
          refine c_seq ?_
          refine wp_reg (by decide +kernel) ?_
          refine l_to (to_f0 (by kernel_rfl) (CallsR.mono (known_c) ?_))
          rintro _ w105 ⟨rfl, e105⟩
          have zs_e105 := e105.size
          replace E := E.trans (Ext.keep e105)
          replace HG1 := HG1.ext e105
          replace HS1 := HS1.ext e105
          replace HB1 := HB1.ext e105
          replace HG2 := HG2.ext e105
          replace HB4 := HB4.ext e105
          replace HS7 := HS7.ext e105
          refine l_v (v_assign (t := .bool _) rfl) ?_
          refine l_nil ?_
          refine n_then ?_
          refine c_ret ?_
          refine r_then ?_
          refine ret1v rfl (by decide) (show _ = (Value.bool _) from rfl) ?_
          exact ⟨rfl, E⟩
        · skip
          have hz := dfalse hz
          refine c_skip ?_
          refine n_then ?_
          refine c_seq ?_
          refine wp_reg (by decide +kernel) ?_
          refine l_v (v_loadA (by kernel_rfl) rfl (by first | exact HB4.pv | exact HB1.pv | assumption) rfl) ?_
          refine l_to (to_f1 (by kernel_rfl) (show _ = (Value.agg _) from rfl) (CallsR.mono (mBytes_c HG1) ?_))
          rintro _ w14 ⟨⟨x14, rfl, HS14⟩, e14⟩
          have zs_e14 := e14.size
          replace HS14 := HS14.all
          obtain ⟨a15, c15, rfl⟩ := HS14.shape
          replace E := E.trans (Ext.keep e14)
          replace HG1 := HG1.ext e14
          replace HS1 := HS1.ext e14
          replace HB1 := HB1.ext e14
          replace HG2 := HG2.ext e14
          replace HB4 := HB4.ext e14
          replace HS7 := HS7.ext e14
          refine l_v (v_move (t := .tuple _) rfl) ?_
          refine l_v (v_extract (t := .slice _ _ _) rfl rfl) ?_
          refine l_v (v_extract (t := .int _ _) rfl rfl) ?_
          refine l_v (v_assign (t := .slice _ _ _) rfl) ?_
          refine l_v (v_assign (t := .int _ _) rfl) ?_
          refine l_nil ?_
          refine n_then ?_
          by_cases hmm : mayN m = true
          · skip
            refine c_seq ?_
            rw [if_pos hmm] at HS14
            rw [if_pos hmm, if_pos hmm]
            refine wp_reg (by decide +kernel) ?_
            refine l_v (v_move (t := .slice _ _ _) rfl) ?_
            refine l_to (to_f1 (by kernel_rfl) (show _ = (Value.slice _ _ _) from rfl) (CallsR.mono (nRead_c (l := msW m) HS14 (by have := msW_le hmm; omega)) ?_))
            rintro _ w16 ⟨⟨x16, rfl, HG16⟩, e16⟩
            have zs_e16 := e16.size
            rw [read_back hmm] at HG16 ⊢
            replace HG16 := HG16.mono (F' := fun i => i < w16.heap.size) fun b hb h => hb
            obtain ⟨a17, c17, a18, c18, rfl, _, _, _⟩ := HG16.ms
            replace E := E.trans (Ext.keep e16)
            replace HG1 := HG1.ext e16
            replace HS1 := HS1.ext e16
            replace HB1 := HB1.ext e16
            replace HG2 := HG2.ext e16
            replace HB4 := HB4.ext e16
            replace HS7 := HS7.ext e16
            replace HS14 := HS14.ext e16
            refine l_v (v_move (t := .tuple _) rfl) ?_
            refine l_v (v_extract (t := .agg _) rfl rfl) ?_
            refine l_v (v_extract (t := .int _ _) rfl rfl) ?_
            refine l_to (to_alloc (z := (.agg #[.int .i64 0, .int .i64 0, .int .i64 0, .int .i64 0, .int .i64 0, .int .i64 0, .int .i64 0, .int .i64 0, .slice none 0 0, .bool false, .slice none 0 0])) (by unfold kZero; kernel_rfl) ?_)
            rintro b19 w19 zb19 HB19 e19 z19
            have zs_e19 := e19.size
            replace E := E.trans (Ext.keep e19)
            replace HG1 := HG1.ext e19
            replace HS1 := HS1.ext e19
            replace HB1 := HB1.ext e19
            replace HG2 := HG2.ext e19
            replace HB4 := HB4.ext e19
            replace HS7 := HS7.ext e19
            replace HS14 := HS14.ext e19
            replace HG16 := HG16.ext e19
            try simp only [Value.cells] at HB19
            refine l_to (to_storeA (n := 11) rfl rfl (show _ = (Value.agg _) from rfl) (by kernel_rfl) rfl (by first | (simp [slice_one]; done) | (simp only [List.forall_mem_cons, List.cons_append, List.nil_append]; repeat' (first | exact rfl | apply And.intro | (intro u hu; cases hu; done)))) HB19 (by first | exact of_decide_eq_true rfl | (simp; done) | decide) ?_)
            rintro w106 HX106 k106 z106
            have zs_k106 := k106.size
            replace E := E.step k106 (by intro i hi he; (try dsimp only [NoK] at hi he ⊢); first | exact he.elim | omega | exact he)
            replace HG1 := HG1.keep k106 (by intro i _ hi he; (try dsimp only [NoK, AllB] at hi he); first | exact hi.elim | exact he.elim | omega | (rcases hi with hi | hi <;> omega) | (rcases he with he | he <;> omega))
            replace HS1 := HS1.keep k106 (by intro i _ hi he; (try dsimp only [NoK, AllB] at hi he); first | exact hi.elim | exact he.elim | omega | (rcases hi with hi | hi <;> omega) | (rcases he with he | he <;> omega))
            replace HB1 := HB1.keep k106 (by intro h; (try dsimp only at h); first | omega)
            replace HG2 := HG2.keep k106 (by intro i _ hi he; (try dsimp only [NoK, AllB] at hi he); first | exact hi.elim | exact he.elim | omega | (rcases hi with hi | hi <;> omega) | (rcases he with he | he <;> omega))
            replace HB4 := HB4.keep k106 (by intro h; (try dsimp only at h); first | omega)
            replace HS7 := HS7.keep k106 (by intro i _ hi he; (try dsimp only [NoK, AllB] at hi he); first | exact hi.elim | exact he.elim | omega | (rcases hi with hi | hi <;> omega) | (rcases he with he | he <;> omega))
            replace HS14 := HS14.keep k106 (by intro i _ hi he; (try dsimp only [NoK, AllB] at hi he); first | exact hi.elim | exact he.elim | omega | (rcases hi with hi | hi <;> omega) | (rcases he with he | he <;> omega))
            replace HG16 := HG16.keep k106 (by intro i _ hi he; (try dsimp only [NoK, AllB] at hi he); first | exact hi.elim | exact he.elim | omega | (rcases hi with hi | hi <;> omega) | (rcases he with he | he <;> omega))
            replace HB19 := HX106
            clear HX106
            try simp only [List.set_cons_zero, List.set_cons_succ, setAt, List.take_zero, List.take_succ_cons, List.drop_zero, List.drop_succ_cons, List.nil_append, List.cons_append, List.append_nil, List.length_cons, List.length_nil, Nat.zero_add, Nat.reduceAdd, List.drop_nil] at HB19
            refine l_v (v_assign (t := .int _ _) rfl) ?_
            refine l_nil ?_
            refine n_then ?_
            refine c_seq ?_
            refine wp_reg (by decide +kernel) ?_
            refine l_v (v_move (t := .int _ _) rfl) ?_
            refine l_to (to_f1 (by kernel_rfl) (show _ = (Value.int _ _) from rfl) (CallsR.mono (num_c) ?_))
            rintro _ w107 ⟨rfl, e107⟩
            have zs_e107 := e107.size
            replace E := E.trans (Ext.keep e107)
            replace HG1 := HG1.ext e107
            replace HS1 := HS1.ext e107
            replace HB1 := HB1.ext e107
            replace HG2 := HG2.ext e107
            replace HB4 := HB4.ext e107
            replace HS7 := HS7.ext e107
            replace HS14 := HS14.ext e107
            replace HG16 := HG16.ext e107
            replace HB19 := HB19.ext e107
            refine l_v (OpVat.as (b := false) (v_neq rfl rfl) rfl) ?_
            refine l_v (v_move (t := .bool _) rfl) ?_
            refine l_gt rfl rfl (OpTo.of_v (v_move (t := .int _ _) rfl) ?_)
            refine l_gt rfl rfl (to_f1 (by kernel_rfl) (show _ = (Value.int _ _) from rfl) (CallsR.mono (num_c) ?_))
            rintro _ w108 ⟨rfl, e108⟩
            have zs_e108 := e108.size
            replace E := E.trans (Ext.keep e108)
            replace HG1 := HG1.ext e108
            replace HS1 := HS1.ext e108
            replace HB1 := HB1.ext e108
            replace HG2 := HG2.ext e108
            replace HB4 := HB4.ext e108
            replace HS7 := HS7.ext e108
            replace HS14 := HS14.ext e108
            replace HG16 := HG16.ext e108
            replace HB19 := HB19.ext e108
            refine l_gt rfl rfl (OpTo.of_v (OpVat.as (b := true) (v_eql rfl rfl) rfl) ?_)
            refine l_gt rfl rfl (OpTo.of_v (v_move (t := .bool _) rfl) ?_)
            refine l_gt rfl rfl (OpTo.of_v (v_loadA (by kernel_rfl) rfl (by first | exact HB19.pv | exact HB4.pv | exact HB1.pv | assumption) rfl) ?_)
            refine l_gt rfl rfl (OpTo.of_v (v_loadA (by kernel_rfl) rfl (by first | exact HB19.pv | exact HB4.pv | exact HB1.pv | assumption) rfl) ?_)
            refine l_gt rfl rfl (to_f2 (by kernel_rfl) (show _ = (Value.agg _) from rfl) (show _ = (Value.agg _) from rfl) (CallsR.mono (refSame_self HG16 HG1) ?_))
            rintro _ w109 ⟨rfl, e109⟩
            have zs_e109 := e109.size
            replace E := E.trans (Ext.keep e109)
            replace HG1 := HG1.ext e109
            replace HS1 := HS1.ext e109
            replace HB1 := HB1.ext e109
            replace HG2 := HG2.ext e109
            replace HB4 := HB4.ext e109
            replace HS7 := HS7.ext e109
            replace HS14 := HS14.ext e109
            replace HG16 := HG16.ext e109
            replace HB19 := HB19.ext e109
            refine l_gt rfl rfl (OpTo.of_v (v_andT rfl rfl) ?_)
            refine l_v (v_orT rfl rfl) ?_
            refine l_v (v_move (t := .bool _) rfl) ?_
            refine l_gt rfl rfl (to_f0 (by kernel_rfl) (CallsR.mono (known_c) ?_))
            rintro _ w110 ⟨rfl, e110⟩
            have zs_e110 := e110.size
            replace E := E.trans (Ext.keep e110)
            replace HG1 := HG1.ext e110
            replace HS1 := HS1.ext e110
            replace HB1 := HB1.ext e110
            replace HG2 := HG2.ext e110
            replace HB4 := HB4.ext e110
            replace HS7 := HS7.ext e110
            replace HS14 := HS14.ext e110
            replace HG16 := HG16.ext e110
            replace HB19 := HB19.ext e110
            refine l_v (v_andT rfl rfl) ?_
            refine l_v (v_assign (t := .bool _) rfl) ?_
            refine l_nil ?_
            refine n_then ?_
            refine c_ret ?_
            refine ret1v rfl (by decide) (show _ = (Value.bool _) from rfl) ?_
            exact ⟨by simp, E⟩
          · skip
            refine c_seq ?_
            rw [if_neg hmm] at HS14
            rw [if_neg hmm, if_neg hmm]
            refine wp_reg (by decide +kernel) ?_
            refine l_v (v_move (t := .slice _ _ _) rfl) ?_
            refine l_to (to_f1 (by kernel_rfl) (show _ = (Value.slice _ _ _) from rfl) (CallsR.mono (nRead_c (l := []) HS14 (by simp)) ?_))
            rintro _ w16 ⟨⟨x16, rfl, HG16⟩, e16⟩
            have zs_e16 := e16.size
            replace HG16 := HG16.mono (F' := fun i => i < w16.heap.size) fun b hb h => hb
            obtain ⟨a17, c17, a18, c18, rfl, _, _, _⟩ := HG16.ms
            replace E := E.trans (Ext.keep e16)
            replace HG1 := HG1.ext e16
            replace HS1 := HS1.ext e16
            replace HB1 := HB1.ext e16
            replace HG2 := HG2.ext e16
            replace HB4 := HB4.ext e16
            replace HS7 := HS7.ext e16
            replace HS14 := HS14.ext e16
            refine l_v (v_move (t := .tuple _) rfl) ?_
            refine l_v (v_extract (t := .agg _) rfl rfl) ?_
            refine l_v (v_extract (t := .int _ _) rfl rfl) ?_
            refine l_to (to_alloc (z := (.agg #[.int .i64 0, .int .i64 0, .int .i64 0, .int .i64 0, .int .i64 0, .int .i64 0, .int .i64 0, .int .i64 0, .slice none 0 0, .bool false, .slice none 0 0])) (by unfold kZero; kernel_rfl) ?_)
            rintro b19 w19 zb19 HB19 e19 z19
            have zs_e19 := e19.size
            replace E := E.trans (Ext.keep e19)
            replace HG1 := HG1.ext e19
            replace HS1 := HS1.ext e19
            replace HB1 := HB1.ext e19
            replace HG2 := HG2.ext e19
            replace HB4 := HB4.ext e19
            replace HS7 := HS7.ext e19
            replace HS14 := HS14.ext e19
            replace HG16 := HG16.ext e19
            try simp only [Value.cells] at HB19
            refine l_to (to_storeA (n := 11) rfl rfl (show _ = (Value.agg _) from rfl) (by kernel_rfl) rfl (by first | (simp [slice_one]; done) | (simp only [List.forall_mem_cons, List.cons_append, List.nil_append]; repeat' (first | exact rfl | apply And.intro | (intro u hu; cases hu; done)))) HB19 (by first | exact of_decide_eq_true rfl | (simp; done) | decide) ?_)
            rintro w111 HX111 k111 z111
            have zs_k111 := k111.size
            replace E := E.step k111 (by intro i hi he; (try dsimp only [NoK] at hi he ⊢); first | exact he.elim | omega | exact he)
            replace HG1 := HG1.keep k111 (by intro i _ hi he; (try dsimp only [NoK, AllB] at hi he); first | exact hi.elim | exact he.elim | omega | (rcases hi with hi | hi <;> omega) | (rcases he with he | he <;> omega))
            replace HS1 := HS1.keep k111 (by intro i _ hi he; (try dsimp only [NoK, AllB] at hi he); first | exact hi.elim | exact he.elim | omega | (rcases hi with hi | hi <;> omega) | (rcases he with he | he <;> omega))
            replace HB1 := HB1.keep k111 (by intro h; (try dsimp only at h); first | omega)
            replace HG2 := HG2.keep k111 (by intro i _ hi he; (try dsimp only [NoK, AllB] at hi he); first | exact hi.elim | exact he.elim | omega | (rcases hi with hi | hi <;> omega) | (rcases he with he | he <;> omega))
            replace HB4 := HB4.keep k111 (by intro h; (try dsimp only at h); first | omega)
            replace HS7 := HS7.keep k111 (by intro i _ hi he; (try dsimp only [NoK, AllB] at hi he); first | exact hi.elim | exact he.elim | omega | (rcases hi with hi | hi <;> omega) | (rcases he with he | he <;> omega))
            replace HS14 := HS14.keep k111 (by intro i _ hi he; (try dsimp only [NoK, AllB] at hi he); first | exact hi.elim | exact he.elim | omega | (rcases hi with hi | hi <;> omega) | (rcases he with he | he <;> omega))
            replace HG16 := HG16.keep k111 (by intro i _ hi he; (try dsimp only [NoK, AllB] at hi he); first | exact hi.elim | exact he.elim | omega | (rcases hi with hi | hi <;> omega) | (rcases he with he | he <;> omega))
            replace HB19 := HX111
            clear HX111
            try simp only [List.set_cons_zero, List.set_cons_succ, setAt, List.take_zero, List.take_succ_cons, List.drop_zero, List.drop_succ_cons, List.nil_append, List.cons_append, List.append_nil, List.length_cons, List.length_nil, Nat.zero_add, Nat.reduceAdd, List.drop_nil] at HB19
            refine l_v (v_assign (t := .int _ _) rfl) ?_
            refine l_nil ?_
            refine n_then ?_
            refine c_seq ?_
            refine wp_reg (by decide +kernel) ?_
            refine l_v (v_move (t := .int _ _) rfl) ?_
            refine l_to (to_f1 (by kernel_rfl) (show _ = (Value.int _ _) from rfl) (CallsR.mono (num_c) ?_))
            rintro _ w112 ⟨rfl, e112⟩
            have zs_e112 := e112.size
            replace E := E.trans (Ext.keep e112)
            replace HG1 := HG1.ext e112
            replace HS1 := HS1.ext e112
            replace HB1 := HB1.ext e112
            replace HG2 := HG2.ext e112
            replace HB4 := HB4.ext e112
            replace HS7 := HS7.ext e112
            replace HS14 := HS14.ext e112
            replace HG16 := HG16.ext e112
            replace HB19 := HB19.ext e112
            refine l_v (OpVat.as (b := true) (v_neq rfl rfl) rfl) ?_
            refine l_v (v_move (t := .bool _) rfl) ?_
            refine l_skip (u := .bool true) rfl rfl rfl ?_
            refine l_skip (u := .bool true) rfl rfl rfl ?_
            refine l_skip (u := .bool true) rfl rfl rfl ?_
            refine l_skip (u := .bool true) rfl rfl rfl ?_
            refine l_skip (u := undef) rfl rfl rfl ?_
            refine l_skip (u := undef) rfl rfl rfl ?_
            refine l_skip (u := undef) rfl rfl rfl ?_
            refine l_skip (u := .bool true) rfl rfl rfl ?_
            refine l_v (v_orC rfl) ?_
            refine l_v (v_move (t := .bool _) rfl) ?_
            refine l_gt rfl rfl (to_f0 (by kernel_rfl) (CallsR.mono (known_c) ?_))
            rintro _ w113 ⟨rfl, e113⟩
            have zs_e113 := e113.size
            replace E := E.trans (Ext.keep e113)
            replace HG1 := HG1.ext e113
            replace HS1 := HS1.ext e113
            replace HB1 := HB1.ext e113
            replace HG2 := HG2.ext e113
            replace HB4 := HB4.ext e113
            replace HS7 := HS7.ext e113
            replace HS14 := HS14.ext e113
            replace HG16 := HG16.ext e113
            replace HB19 := HB19.ext e113
            refine l_v (v_andT rfl rfl) ?_
            refine l_v (v_assign (t := .bool _) rfl) ?_
            refine l_nil ?_
            refine n_then ?_
            refine c_ret ?_
            refine ret1v rfl (by decide) (show _ = (Value.bool _) from rfl) ?_
            exact ⟨by simp, E⟩
    · skip
      refine c_seq ?_
      refine wp_reg (by decide +kernel) ?_
      refine l_v (v_move (t := .int _ _) rfl) ?_
      refine l_to (to_f1 (by kernel_rfl) (show _ = (Value.int _ _) from rfl) (CallsR.mono (num_c) ?_))
      rintro _ w114 ⟨rfl, e114⟩
      have zs_e114 := e114.size
      replace E := E.trans (Ext.keep e114)
      replace HG1 := HG1.ext e114
      replace HS1 := HS1.ext e114
      replace HB1 := HB1.ext e114
      replace HG2 := HG2.ext e114
      replace HB4 := HB4.ext e114
      replace HS7 := HS7.ext e114
      refine l_v (OpVat.as (b := false) (v_eql rfl rfl) (decide_eq_false he)) ?_
      refine l_v (v_move (t := .bool _) rfl) ?_
      refine l_skip (u := .bool false) rfl rfl rfl ?_
      refine l_skip (u := .bool false) rfl rfl rfl ?_
      refine l_skip (u := .bool false) rfl rfl rfl ?_
      refine l_skip (u := .bool false) rfl rfl rfl ?_
      refine l_skip (u := undef) rfl rfl rfl ?_
      refine l_skip (u := undef) rfl rfl rfl ?_
      refine l_skip (u := undef) rfl rfl rfl ?_
      refine l_skip (u := undef) rfl rfl rfl ?_
      refine l_skip (u := undef) rfl rfl rfl ?_
      refine l_skip (u := .bool false) rfl rfl rfl ?_
      refine l_v (v_andC rfl) ?_
      refine l_nil ?_
      refine n_then ?_
      refine c_cond rfl rfl (fun hs => ?_) (fun hs => ?_)
      · skip
        cases hs
      · skip
        refine c_skip ?_
        refine n_then ?_
        refine c_seq ?_
        refine c_seq ?_
        refine wp_reg (by decide +kernel) ?_
        refine l_v (v_loadA (by kernel_rfl) rfl (by first | exact HB4.pv | exact HB1.pv | assumption) rfl) ?_
        refine l_to (to_f1 (by kernel_rfl) (show _ = (Value.agg _) from rfl) (CallsR.mono (Size_c HG1 r1.1 r1.2) ?_))
        rintro _ w115 ⟨rfl, e115⟩
        have zs_e115 := e115.size
        replace E := E.trans (Ext.keep e115)
        replace HG1 := HG1.ext e115
        replace HS1 := HS1.ext e115
        replace HB1 := HB1.ext e115
        replace HG2 := HG2.ext e115
        replace HB4 := HB4.ext e115
        replace HS7 := HS7.ext e115
        refine l_v (v_gtr rfl rfl) ?_
        refine l_nil ?_
        refine n_then ?_
        refine c_cond rfl rfl (fun hz => ?_) (fun hz => ?_)
        · skip
          refine c_seq ?_
          refine wp_reg (by decide +kernel) ?_
          refine l_to (to_f0 (by kernel_rfl) (CallsR.mono (known_c) ?_))
          rintro _ w116 ⟨rfl, e116⟩
          have zs_e116 := e116.size
          replace E := E.trans (Ext.keep e116)
          replace HG1 := HG1.ext e116
          replace HS1 := HS1.ext e116
          replace HB1 := HB1.ext e116
          replace HG2 := HG2.ext e116
          replace HB4 := HB4.ext e116
          replace HS7 := HS7.ext e116
          refine l_v (v_assign (t := .bool _) rfl) ?_
          refine l_nil ?_
          refine n_then ?_
          refine c_ret ?_
          refine r_then ?_
          refine ret1v rfl (by decide) (show _ = (Value.bool _) from rfl) ?_
          exact ⟨rfl, E⟩
        · skip
          have hz := dfalse hz
          refine c_skip ?_
          refine n_then ?_
          refine c_seq ?_
          refine wp_reg (by decide +kernel) ?_
          refine l_v (v_loadA (by kernel_rfl) rfl (by first | exact HB4.pv | exact HB1.pv | assumption) rfl) ?_
          refine l_to (to_f1 (by kernel_rfl) (show _ = (Value.agg _) from rfl) (CallsR.mono (mBytes_c HG1) ?_))
          rintro _ w14 ⟨⟨x14, rfl, HS14⟩, e14⟩
          have zs_e14 := e14.size
          replace HS14 := HS14.all
          obtain ⟨a15, c15, rfl⟩ := HS14.shape
          replace E := E.trans (Ext.keep e14)
          replace HG1 := HG1.ext e14
          replace HS1 := HS1.ext e14
          replace HB1 := HB1.ext e14
          replace HG2 := HG2.ext e14
          replace HB4 := HB4.ext e14
          replace HS7 := HS7.ext e14
          refine l_v (v_move (t := .tuple _) rfl) ?_
          refine l_v (v_extract (t := .slice _ _ _) rfl rfl) ?_
          refine l_v (v_extract (t := .int _ _) rfl rfl) ?_
          refine l_v (v_assign (t := .slice _ _ _) rfl) ?_
          refine l_v (v_assign (t := .int _ _) rfl) ?_
          refine l_nil ?_
          refine n_then ?_
          by_cases hmm : mayN m = true
          · skip
            refine c_seq ?_
            rw [if_pos hmm] at HS14
            rw [if_pos hmm, if_pos hmm]
            refine wp_reg (by decide +kernel) ?_
            refine l_v (v_move (t := .slice _ _ _) rfl) ?_
            refine l_to (to_f1 (by kernel_rfl) (show _ = (Value.slice _ _ _) from rfl) (CallsR.mono (nRead_c (l := msW m) HS14 (by have := msW_le hmm; omega)) ?_))
            rintro _ w16 ⟨⟨x16, rfl, HG16⟩, e16⟩
            have zs_e16 := e16.size
            rw [read_back hmm] at HG16 ⊢
            replace HG16 := HG16.mono (F' := fun i => i < w16.heap.size) fun b hb h => hb
            obtain ⟨a17, c17, a18, c18, rfl, _, _, _⟩ := HG16.ms
            replace E := E.trans (Ext.keep e16)
            replace HG1 := HG1.ext e16
            replace HS1 := HS1.ext e16
            replace HB1 := HB1.ext e16
            replace HG2 := HG2.ext e16
            replace HB4 := HB4.ext e16
            replace HS7 := HS7.ext e16
            replace HS14 := HS14.ext e16
            refine l_v (v_move (t := .tuple _) rfl) ?_
            refine l_v (v_extract (t := .agg _) rfl rfl) ?_
            refine l_v (v_extract (t := .int _ _) rfl rfl) ?_
            refine l_to (to_alloc (z := (.agg #[.int .i64 0, .int .i64 0, .int .i64 0, .int .i64 0, .int .i64 0, .int .i64 0, .int .i64 0, .int .i64 0, .slice none 0 0, .bool false, .slice none 0 0])) (by unfold kZero; kernel_rfl) ?_)
            rintro b19 w19 zb19 HB19 e19 z19
            have zs_e19 := e19.size
            replace E := E.trans (Ext.keep e19)
            replace HG1 := HG1.ext e19
            replace HS1 := HS1.ext e19
            replace HB1 := HB1.ext e19
            replace HG2 := HG2.ext e19
            replace HB4 := HB4.ext e19
            replace HS7 := HS7.ext e19
            replace HS14 := HS14.ext e19
            replace HG16 := HG16.ext e19
            try simp only [Value.cells] at HB19
            refine l_to (to_storeA (n := 11) rfl rfl (show _ = (Value.agg _) from rfl) (by kernel_rfl) rfl (by first | (simp [slice_one]; done) | (simp only [List.forall_mem_cons, List.cons_append, List.nil_append]; repeat' (first | exact rfl | apply And.intro | (intro u hu; cases hu; done)))) HB19 (by first | exact of_decide_eq_true rfl | (simp; done) | decide) ?_)
            rintro w117 HX117 k117 z117
            have zs_k117 := k117.size
            replace E := E.step k117 (by intro i hi he; (try dsimp only [NoK] at hi he ⊢); first | exact he.elim | omega | exact he)
            replace HG1 := HG1.keep k117 (by intro i _ hi he; (try dsimp only [NoK, AllB] at hi he); first | exact hi.elim | exact he.elim | omega | (rcases hi with hi | hi <;> omega) | (rcases he with he | he <;> omega))
            replace HS1 := HS1.keep k117 (by intro i _ hi he; (try dsimp only [NoK, AllB] at hi he); first | exact hi.elim | exact he.elim | omega | (rcases hi with hi | hi <;> omega) | (rcases he with he | he <;> omega))
            replace HB1 := HB1.keep k117 (by intro h; (try dsimp only at h); first | omega)
            replace HG2 := HG2.keep k117 (by intro i _ hi he; (try dsimp only [NoK, AllB] at hi he); first | exact hi.elim | exact he.elim | omega | (rcases hi with hi | hi <;> omega) | (rcases he with he | he <;> omega))
            replace HB4 := HB4.keep k117 (by intro h; (try dsimp only at h); first | omega)
            replace HS7 := HS7.keep k117 (by intro i _ hi he; (try dsimp only [NoK, AllB] at hi he); first | exact hi.elim | exact he.elim | omega | (rcases hi with hi | hi <;> omega) | (rcases he with he | he <;> omega))
            replace HS14 := HS14.keep k117 (by intro i _ hi he; (try dsimp only [NoK, AllB] at hi he); first | exact hi.elim | exact he.elim | omega | (rcases hi with hi | hi <;> omega) | (rcases he with he | he <;> omega))
            replace HG16 := HG16.keep k117 (by intro i _ hi he; (try dsimp only [NoK, AllB] at hi he); first | exact hi.elim | exact he.elim | omega | (rcases hi with hi | hi <;> omega) | (rcases he with he | he <;> omega))
            replace HB19 := HX117
            clear HX117
            try simp only [List.set_cons_zero, List.set_cons_succ, setAt, List.take_zero, List.take_succ_cons, List.drop_zero, List.drop_succ_cons, List.nil_append, List.cons_append, List.append_nil, List.length_cons, List.length_nil, Nat.zero_add, Nat.reduceAdd, List.drop_nil] at HB19
            refine l_v (v_assign (t := .int _ _) rfl) ?_
            refine l_nil ?_
            refine n_then ?_
            refine c_seq ?_
            refine wp_reg (by decide +kernel) ?_
            refine l_v (v_move (t := .int _ _) rfl) ?_
            refine l_to (to_f1 (by kernel_rfl) (show _ = (Value.int _ _) from rfl) (CallsR.mono (num_c) ?_))
            rintro _ w118 ⟨rfl, e118⟩
            have zs_e118 := e118.size
            replace E := E.trans (Ext.keep e118)
            replace HG1 := HG1.ext e118
            replace HS1 := HS1.ext e118
            replace HB1 := HB1.ext e118
            replace HG2 := HG2.ext e118
            replace HB4 := HB4.ext e118
            replace HS7 := HS7.ext e118
            replace HS14 := HS14.ext e118
            replace HG16 := HG16.ext e118
            replace HB19 := HB19.ext e118
            refine l_v (OpVat.as (b := false) (v_neq rfl rfl) rfl) ?_
            refine l_v (v_move (t := .bool _) rfl) ?_
            refine l_gt rfl rfl (OpTo.of_v (v_move (t := .int _ _) rfl) ?_)
            refine l_gt rfl rfl (to_f1 (by kernel_rfl) (show _ = (Value.int _ _) from rfl) (CallsR.mono (num_c) ?_))
            rintro _ w119 ⟨rfl, e119⟩
            have zs_e119 := e119.size
            replace E := E.trans (Ext.keep e119)
            replace HG1 := HG1.ext e119
            replace HS1 := HS1.ext e119
            replace HB1 := HB1.ext e119
            replace HG2 := HG2.ext e119
            replace HB4 := HB4.ext e119
            replace HS7 := HS7.ext e119
            replace HS14 := HS14.ext e119
            replace HG16 := HG16.ext e119
            replace HB19 := HB19.ext e119
            refine l_gt rfl rfl (OpTo.of_v (OpVat.as (b := true) (v_eql rfl rfl) rfl) ?_)
            refine l_gt rfl rfl (OpTo.of_v (v_move (t := .bool _) rfl) ?_)
            refine l_gt rfl rfl (OpTo.of_v (v_loadA (by kernel_rfl) rfl (by first | exact HB19.pv | exact HB4.pv | exact HB1.pv | assumption) rfl) ?_)
            refine l_gt rfl rfl (OpTo.of_v (v_loadA (by kernel_rfl) rfl (by first | exact HB19.pv | exact HB4.pv | exact HB1.pv | assumption) rfl) ?_)
            refine l_gt rfl rfl (to_f2 (by kernel_rfl) (show _ = (Value.agg _) from rfl) (show _ = (Value.agg _) from rfl) (CallsR.mono (refSame_self HG16 HG1) ?_))
            rintro _ w120 ⟨rfl, e120⟩
            have zs_e120 := e120.size
            replace E := E.trans (Ext.keep e120)
            replace HG1 := HG1.ext e120
            replace HS1 := HS1.ext e120
            replace HB1 := HB1.ext e120
            replace HG2 := HG2.ext e120
            replace HB4 := HB4.ext e120
            replace HS7 := HS7.ext e120
            replace HS14 := HS14.ext e120
            replace HG16 := HG16.ext e120
            replace HB19 := HB19.ext e120
            refine l_gt rfl rfl (OpTo.of_v (v_andT rfl rfl) ?_)
            refine l_v (v_orT rfl rfl) ?_
            refine l_v (v_move (t := .bool _) rfl) ?_
            refine l_gt rfl rfl (to_f0 (by kernel_rfl) (CallsR.mono (known_c) ?_))
            rintro _ w121 ⟨rfl, e121⟩
            have zs_e121 := e121.size
            replace E := E.trans (Ext.keep e121)
            replace HG1 := HG1.ext e121
            replace HS1 := HS1.ext e121
            replace HB1 := HB1.ext e121
            replace HG2 := HG2.ext e121
            replace HB4 := HB4.ext e121
            replace HS7 := HS7.ext e121
            replace HS14 := HS14.ext e121
            replace HG16 := HG16.ext e121
            replace HB19 := HB19.ext e121
            refine l_v (v_andT rfl rfl) ?_
            refine l_v (v_assign (t := .bool _) rfl) ?_
            refine l_nil ?_
            refine n_then ?_
            refine c_ret ?_
            refine ret1v rfl (by decide) (show _ = (Value.bool _) from rfl) ?_
            exact ⟨by simp, E⟩
          · skip
            refine c_seq ?_
            rw [if_neg hmm] at HS14
            rw [if_neg hmm, if_neg hmm]
            refine wp_reg (by decide +kernel) ?_
            refine l_v (v_move (t := .slice _ _ _) rfl) ?_
            refine l_to (to_f1 (by kernel_rfl) (show _ = (Value.slice _ _ _) from rfl) (CallsR.mono (nRead_c (l := []) HS14 (by simp)) ?_))
            rintro _ w16 ⟨⟨x16, rfl, HG16⟩, e16⟩
            have zs_e16 := e16.size
            replace HG16 := HG16.mono (F' := fun i => i < w16.heap.size) fun b hb h => hb
            obtain ⟨a17, c17, a18, c18, rfl, _, _, _⟩ := HG16.ms
            replace E := E.trans (Ext.keep e16)
            replace HG1 := HG1.ext e16
            replace HS1 := HS1.ext e16
            replace HB1 := HB1.ext e16
            replace HG2 := HG2.ext e16
            replace HB4 := HB4.ext e16
            replace HS7 := HS7.ext e16
            replace HS14 := HS14.ext e16
            refine l_v (v_move (t := .tuple _) rfl) ?_
            refine l_v (v_extract (t := .agg _) rfl rfl) ?_
            refine l_v (v_extract (t := .int _ _) rfl rfl) ?_
            refine l_to (to_alloc (z := (.agg #[.int .i64 0, .int .i64 0, .int .i64 0, .int .i64 0, .int .i64 0, .int .i64 0, .int .i64 0, .int .i64 0, .slice none 0 0, .bool false, .slice none 0 0])) (by unfold kZero; kernel_rfl) ?_)
            rintro b19 w19 zb19 HB19 e19 z19
            have zs_e19 := e19.size
            replace E := E.trans (Ext.keep e19)
            replace HG1 := HG1.ext e19
            replace HS1 := HS1.ext e19
            replace HB1 := HB1.ext e19
            replace HG2 := HG2.ext e19
            replace HB4 := HB4.ext e19
            replace HS7 := HS7.ext e19
            replace HS14 := HS14.ext e19
            replace HG16 := HG16.ext e19
            try simp only [Value.cells] at HB19
            refine l_to (to_storeA (n := 11) rfl rfl (show _ = (Value.agg _) from rfl) (by kernel_rfl) rfl (by first | (simp [slice_one]; done) | (simp only [List.forall_mem_cons, List.cons_append, List.nil_append]; repeat' (first | exact rfl | apply And.intro | (intro u hu; cases hu; done)))) HB19 (by first | exact of_decide_eq_true rfl | (simp; done) | decide) ?_)
            rintro w122 HX122 k122 z122
            have zs_k122 := k122.size
            replace E := E.step k122 (by intro i hi he; (try dsimp only [NoK] at hi he ⊢); first | exact he.elim | omega | exact he)
            replace HG1 := HG1.keep k122 (by intro i _ hi he; (try dsimp only [NoK, AllB] at hi he); first | exact hi.elim | exact he.elim | omega | (rcases hi with hi | hi <;> omega) | (rcases he with he | he <;> omega))
            replace HS1 := HS1.keep k122 (by intro i _ hi he; (try dsimp only [NoK, AllB] at hi he); first | exact hi.elim | exact he.elim | omega | (rcases hi with hi | hi <;> omega) | (rcases he with he | he <;> omega))
            replace HB1 := HB1.keep k122 (by intro h; (try dsimp only at h); first | omega)
            replace HG2 := HG2.keep k122 (by intro i _ hi he; (try dsimp only [NoK, AllB] at hi he); first | exact hi.elim | exact he.elim | omega | (rcases hi with hi | hi <;> omega) | (rcases he with he | he <;> omega))
            replace HB4 := HB4.keep k122 (by intro h; (try dsimp only at h); first | omega)
            replace HS7 := HS7.keep k122 (by intro i _ hi he; (try dsimp only [NoK, AllB] at hi he); first | exact hi.elim | exact he.elim | omega | (rcases hi with hi | hi <;> omega) | (rcases he with he | he <;> omega))
            replace HS14 := HS14.keep k122 (by intro i _ hi he; (try dsimp only [NoK, AllB] at hi he); first | exact hi.elim | exact he.elim | omega | (rcases hi with hi | hi <;> omega) | (rcases he with he | he <;> omega))
            replace HG16 := HG16.keep k122 (by intro i _ hi he; (try dsimp only [NoK, AllB] at hi he); first | exact hi.elim | exact he.elim | omega | (rcases hi with hi | hi <;> omega) | (rcases he with he | he <;> omega))
            replace HB19 := HX122
            clear HX122
            try simp only [List.set_cons_zero, List.set_cons_succ, setAt, List.take_zero, List.take_succ_cons, List.drop_zero, List.drop_succ_cons, List.nil_append, List.cons_append, List.append_nil, List.length_cons, List.length_nil, Nat.zero_add, Nat.reduceAdd, List.drop_nil] at HB19
            refine l_v (v_assign (t := .int _ _) rfl) ?_
            refine l_nil ?_
            refine n_then ?_
            refine c_seq ?_
            refine wp_reg (by decide +kernel) ?_
            refine l_v (v_move (t := .int _ _) rfl) ?_
            refine l_to (to_f1 (by kernel_rfl) (show _ = (Value.int _ _) from rfl) (CallsR.mono (num_c) ?_))
            rintro _ w123 ⟨rfl, e123⟩
            have zs_e123 := e123.size
            replace E := E.trans (Ext.keep e123)
            replace HG1 := HG1.ext e123
            replace HS1 := HS1.ext e123
            replace HB1 := HB1.ext e123
            replace HG2 := HG2.ext e123
            replace HB4 := HB4.ext e123
            replace HS7 := HS7.ext e123
            replace HS14 := HS14.ext e123
            replace HG16 := HG16.ext e123
            replace HB19 := HB19.ext e123
            refine l_v (OpVat.as (b := true) (v_neq rfl rfl) rfl) ?_
            refine l_v (v_move (t := .bool _) rfl) ?_
            refine l_skip (u := .bool true) rfl rfl rfl ?_
            refine l_skip (u := .bool true) rfl rfl rfl ?_
            refine l_skip (u := .bool true) rfl rfl rfl ?_
            refine l_skip (u := .bool true) rfl rfl rfl ?_
            refine l_skip (u := undef) rfl rfl rfl ?_
            refine l_skip (u := undef) rfl rfl rfl ?_
            refine l_skip (u := undef) rfl rfl rfl ?_
            refine l_skip (u := .bool true) rfl rfl rfl ?_
            refine l_v (v_orC rfl) ?_
            refine l_v (v_move (t := .bool _) rfl) ?_
            refine l_gt rfl rfl (to_f0 (by kernel_rfl) (CallsR.mono (known_c) ?_))
            rintro _ w124 ⟨rfl, e124⟩
            have zs_e124 := e124.size
            replace E := E.trans (Ext.keep e124)
            replace HG1 := HG1.ext e124
            replace HS1 := HS1.ext e124
            replace HB1 := HB1.ext e124
            replace HG2 := HG2.ext e124
            replace HB4 := HB4.ext e124
            replace HS7 := HS7.ext e124
            replace HS14 := HS14.ext e124
            replace HG16 := HG16.ext e124
            replace HB19 := HB19.ext e124
            refine l_v (v_andT rfl rfl) ?_
            refine l_v (v_assign (t := .bool _) rfl) ?_
            refine l_nil ?_
            refine n_then ?_
            refine c_ret ?_
            refine ret1v rfl (by decide) (show _ = (Value.bool _) from rfl) ?_
            exact ⟨by simp, E⟩
  · skip
    refine c_skip ?_
    refine n_then ?_
    refine c_seq ?_
    refine c_seq ?_
    refine wp_reg (by decide +kernel) ?_
    refine l_v (v_loadA (by kernel_rfl) rfl (by first | exact HB1.pv | assumption) rfl) ?_
    refine l_to (to_f1 (by kernel_rfl) (show _ = (Value.agg _) from rfl) (CallsR.mono (Size_c HG1 r1.1 r1.2) ?_))
    rintro _ w125 ⟨rfl, e125⟩
    have zs_e125 := e125.size
    replace E := E.trans (Ext.keep e125)
    replace HG1 := HG1.ext e125
    replace HS1 := HS1.ext e125
    replace HB1 := HB1.ext e125
    refine l_v (v_gtr rfl rfl) ?_
    refine l_nil ?_
    refine n_then ?_
    refine c_cond rfl rfl (fun hz => ?_) (fun hz => ?_)
    · skip
      refine c_seq ?_
      refine wp_reg (by decide +kernel) ?_
      refine l_to (to_f0 (by kernel_rfl) (CallsR.mono (known_c) ?_))
      rintro _ w126 ⟨rfl, e126⟩
      have zs_e126 := e126.size
      replace E := E.trans (Ext.keep e126)
      replace HG1 := HG1.ext e126
      replace HS1 := HS1.ext e126
      replace HB1 := HB1.ext e126
      refine l_v (v_assign (t := .bool _) rfl) ?_
      refine l_nil ?_
      refine n_then ?_
      refine c_ret ?_
      refine r_then ?_
      refine ret1v rfl (by decide) (show _ = (Value.bool _) from rfl) ?_
      exact ⟨rfl, E⟩
    · skip
      have hz := dfalse hz
      refine c_skip ?_
      refine n_then ?_
      refine c_seq ?_
      refine wp_reg (by decide +kernel) ?_
      refine l_v (v_loadA (by kernel_rfl) rfl (by first | exact HB1.pv | assumption) rfl) ?_
      refine l_to (to_f1 (by kernel_rfl) (show _ = (Value.agg _) from rfl) (CallsR.mono (mBytes_c HG1) ?_))
      rintro _ w14 ⟨⟨x14, rfl, HS14⟩, e14⟩
      have zs_e14 := e14.size
      replace HS14 := HS14.all
      obtain ⟨a15, c15, rfl⟩ := HS14.shape
      replace E := E.trans (Ext.keep e14)
      replace HG1 := HG1.ext e14
      replace HS1 := HS1.ext e14
      replace HB1 := HB1.ext e14
      refine l_v (v_move (t := .tuple _) rfl) ?_
      refine l_v (v_extract (t := .slice _ _ _) rfl rfl) ?_
      refine l_v (v_extract (t := .int _ _) rfl rfl) ?_
      refine l_v (v_assign (t := .slice _ _ _) rfl) ?_
      refine l_v (v_assign (t := .int _ _) rfl) ?_
      refine l_nil ?_
      refine n_then ?_
      by_cases hmm : mayN m = true
      · skip
        refine c_seq ?_
        rw [if_pos hmm] at HS14
        rw [if_pos hmm, if_pos hmm]
        refine wp_reg (by decide +kernel) ?_
        refine l_v (v_move (t := .slice _ _ _) rfl) ?_
        refine l_to (to_f1 (by kernel_rfl) (show _ = (Value.slice _ _ _) from rfl) (CallsR.mono (nRead_c (l := msW m) HS14 (by have := msW_le hmm; omega)) ?_))
        rintro _ w16 ⟨⟨x16, rfl, HG16⟩, e16⟩
        have zs_e16 := e16.size
        rw [read_back hmm] at HG16 ⊢
        replace HG16 := HG16.mono (F' := fun i => i < w16.heap.size) fun b hb h => hb
        obtain ⟨a17, c17, a18, c18, rfl, _, _, _⟩ := HG16.ms
        replace E := E.trans (Ext.keep e16)
        replace HG1 := HG1.ext e16
        replace HS1 := HS1.ext e16
        replace HB1 := HB1.ext e16
        replace HS14 := HS14.ext e16
        refine l_v (v_move (t := .tuple _) rfl) ?_
        refine l_v (v_extract (t := .agg _) rfl rfl) ?_
        refine l_v (v_extract (t := .int _ _) rfl rfl) ?_
        refine l_to (to_alloc (z := (.agg #[.int .i64 0, .int .i64 0, .int .i64 0, .int .i64 0, .int .i64 0, .int .i64 0, .int .i64 0, .int .i64 0, .slice none 0 0, .bool false, .slice none 0 0])) (by unfold kZero; kernel_rfl) ?_)
        rintro b19 w19 zb19 HB19 e19 z19
        have zs_e19 := e19.size
        replace E := E.trans (Ext.keep e19)
        replace HG1 := HG1.ext e19
        replace HS1 := HS1.ext e19
        replace HB1 := HB1.ext e19
        replace HS14 := HS14.ext e19
        replace HG16 := HG16.ext e19
        try simp only [Value.cells] at HB19
        refine l_to (to_storeA (n := 11) rfl rfl (show _ = (Value.agg _) from rfl) (by kernel_rfl) rfl (by first | (simp [slice_one]; done) | (simp only [List.forall_mem_cons, List.cons_append, List.nil_append]; repeat' (first | exact rfl | apply And.intro | (intro u hu; cases hu; done)))) HB19 (by first | exact of_decide_eq_true rfl | (simp; done) | decide) ?_)
        rintro w127 HX127 k127 z127
        have zs_k127 := k127.size
        replace E := E.step k127 (by intro i hi he; (try dsimp only [NoK] at hi he ⊢); first | exact he.elim | omega | exact he)
        replace HG1 := HG1.keep k127 (by intro i _ hi he; (try dsimp only [NoK, AllB] at hi he); first | exact hi.elim | exact he.elim | omega | (rcases hi with hi | hi <;> omega) | (rcases he with he | he <;> omega))
        replace HS1 := HS1.keep k127 (by intro i _ hi he; (try dsimp only [NoK, AllB] at hi he); first | exact hi.elim | exact he.elim | omega | (rcases hi with hi | hi <;> omega) | (rcases he with he | he <;> omega))
        replace HB1 := HB1.keep k127 (by intro h; (try dsimp only at h); first | omega)
        replace HS14 := HS14.keep k127 (by intro i _ hi he; (try dsimp only [NoK, AllB] at hi he); first | exact hi.elim | exact he.elim | omega | (rcases hi with hi | hi <;> omega) | (rcases he with he | he <;> omega))
        replace HG16 := HG16.keep k127 (by intro i _ hi he; (try dsimp only [NoK, AllB] at hi he); first | exact hi.elim | exact he.elim | omega | (rcases hi with hi | hi <;> omega) | (rcases he with he | he <;> omega))
        replace HB19 := HX127
        clear HX127
        try simp only [List.set_cons_zero, List.set_cons_succ, setAt, List.take_zero, List.take_succ_cons, List.drop_zero, List.drop_succ_cons, List.nil_append, List.cons_append, List.append_nil, List.length_cons, List.length_nil, Nat.zero_add, Nat.reduceAdd, List.drop_nil] at HB19
        refine l_v (v_assign (t := .int _ _) rfl) ?_
        refine l_nil ?_
        refine n_then ?_
        refine c_seq ?_
        refine wp_reg (by decide +kernel) ?_
        refine l_v (v_move (t := .int _ _) rfl) ?_
        refine l_to (to_f1 (by kernel_rfl) (show _ = (Value.int _ _) from rfl) (CallsR.mono (num_c) ?_))
        rintro _ w128 ⟨rfl, e128⟩
        have zs_e128 := e128.size
        replace E := E.trans (Ext.keep e128)
        replace HG1 := HG1.ext e128
        replace HS1 := HS1.ext e128
        replace HB1 := HB1.ext e128
        replace HS14 := HS14.ext e128
        replace HG16 := HG16.ext e128
        replace HB19 := HB19.ext e128
        refine l_v (OpVat.as (b := false) (v_neq rfl rfl) rfl) ?_
        refine l_v (v_move (t := .bool _) rfl) ?_
        refine l_gt rfl rfl (OpTo.of_v (v_move (t := .int _ _) rfl) ?_)
        refine l_gt rfl rfl (to_f1 (by kernel_rfl) (show _ = (Value.int _ _) from rfl) (CallsR.mono (num_c) ?_))
        rintro _ w129 ⟨rfl, e129⟩
        have zs_e129 := e129.size
        replace E := E.trans (Ext.keep e129)
        replace HG1 := HG1.ext e129
        replace HS1 := HS1.ext e129
        replace HB1 := HB1.ext e129
        replace HS14 := HS14.ext e129
        replace HG16 := HG16.ext e129
        replace HB19 := HB19.ext e129
        refine l_gt rfl rfl (OpTo.of_v (OpVat.as (b := true) (v_eql rfl rfl) rfl) ?_)
        refine l_gt rfl rfl (OpTo.of_v (v_move (t := .bool _) rfl) ?_)
        refine l_gt rfl rfl (OpTo.of_v (v_loadA (by kernel_rfl) rfl (by first | exact HB19.pv | exact HB1.pv | assumption) rfl) ?_)
        refine l_gt rfl rfl (OpTo.of_v (v_loadA (by kernel_rfl) rfl (by first | exact HB19.pv | exact HB1.pv | assumption) rfl) ?_)
        refine l_gt rfl rfl (to_f2 (by kernel_rfl) (show _ = (Value.agg _) from rfl) (show _ = (Value.agg _) from rfl) (CallsR.mono (refSame_self HG16 HG1) ?_))
        rintro _ w130 ⟨rfl, e130⟩
        have zs_e130 := e130.size
        replace E := E.trans (Ext.keep e130)
        replace HG1 := HG1.ext e130
        replace HS1 := HS1.ext e130
        replace HB1 := HB1.ext e130
        replace HS14 := HS14.ext e130
        replace HG16 := HG16.ext e130
        replace HB19 := HB19.ext e130
        refine l_gt rfl rfl (OpTo.of_v (v_andT rfl rfl) ?_)
        refine l_v (v_orT rfl rfl) ?_
        refine l_v (v_move (t := .bool _) rfl) ?_
        refine l_gt rfl rfl (to_f0 (by kernel_rfl) (CallsR.mono (known_c) ?_))
        rintro _ w131 ⟨rfl, e131⟩
        have zs_e131 := e131.size
        replace E := E.trans (Ext.keep e131)
        replace HG1 := HG1.ext e131
        replace HS1 := HS1.ext e131
        replace HB1 := HB1.ext e131
        replace HS14 := HS14.ext e131
        replace HG16 := HG16.ext e131
        replace HB19 := HB19.ext e131
        refine l_v (v_andT rfl rfl) ?_
        refine l_v (v_assign (t := .bool _) rfl) ?_
        refine l_nil ?_
        refine n_then ?_
        refine c_ret ?_
        refine ret1v rfl (by decide) (show _ = (Value.bool _) from rfl) ?_
        exact ⟨by simp, E⟩
      · skip
        refine c_seq ?_
        rw [if_neg hmm] at HS14
        rw [if_neg hmm, if_neg hmm]
        refine wp_reg (by decide +kernel) ?_
        refine l_v (v_move (t := .slice _ _ _) rfl) ?_
        refine l_to (to_f1 (by kernel_rfl) (show _ = (Value.slice _ _ _) from rfl) (CallsR.mono (nRead_c (l := []) HS14 (by simp)) ?_))
        rintro _ w16 ⟨⟨x16, rfl, HG16⟩, e16⟩
        have zs_e16 := e16.size
        replace HG16 := HG16.mono (F' := fun i => i < w16.heap.size) fun b hb h => hb
        obtain ⟨a17, c17, a18, c18, rfl, _, _, _⟩ := HG16.ms
        replace E := E.trans (Ext.keep e16)
        replace HG1 := HG1.ext e16
        replace HS1 := HS1.ext e16
        replace HB1 := HB1.ext e16
        replace HS14 := HS14.ext e16
        refine l_v (v_move (t := .tuple _) rfl) ?_
        refine l_v (v_extract (t := .agg _) rfl rfl) ?_
        refine l_v (v_extract (t := .int _ _) rfl rfl) ?_
        refine l_to (to_alloc (z := (.agg #[.int .i64 0, .int .i64 0, .int .i64 0, .int .i64 0, .int .i64 0, .int .i64 0, .int .i64 0, .int .i64 0, .slice none 0 0, .bool false, .slice none 0 0])) (by unfold kZero; kernel_rfl) ?_)
        rintro b19 w19 zb19 HB19 e19 z19
        have zs_e19 := e19.size
        replace E := E.trans (Ext.keep e19)
        replace HG1 := HG1.ext e19
        replace HS1 := HS1.ext e19
        replace HB1 := HB1.ext e19
        replace HS14 := HS14.ext e19
        replace HG16 := HG16.ext e19
        try simp only [Value.cells] at HB19
        refine l_to (to_storeA (n := 11) rfl rfl (show _ = (Value.agg _) from rfl) (by kernel_rfl) rfl (by first | (simp [slice_one]; done) | (simp only [List.forall_mem_cons, List.cons_append, List.nil_append]; repeat' (first | exact rfl | apply And.intro | (intro u hu; cases hu; done)))) HB19 (by first | exact of_decide_eq_true rfl | (simp; done) | decide) ?_)
        rintro w132 HX132 k132 z132
        have zs_k132 := k132.size
        replace E := E.step k132 (by intro i hi he; (try dsimp only [NoK] at hi he ⊢); first | exact he.elim | omega | exact he)
        replace HG1 := HG1.keep k132 (by intro i _ hi he; (try dsimp only [NoK, AllB] at hi he); first | exact hi.elim | exact he.elim | omega | (rcases hi with hi | hi <;> omega) | (rcases he with he | he <;> omega))
        replace HS1 := HS1.keep k132 (by intro i _ hi he; (try dsimp only [NoK, AllB] at hi he); first | exact hi.elim | exact he.elim | omega | (rcases hi with hi | hi <;> omega) | (rcases he with he | he <;> omega))
        replace HB1 := HB1.keep k132 (by intro h; (try dsimp only at h); first | omega)
        replace HS14 := HS14.keep k132 (by intro i _ hi he; (try dsimp only [NoK, AllB] at hi he); first | exact hi.elim | exact he.elim | omega | (rcases hi with hi | hi <;> omega) | (rcases he with he | he <;> omega))
        replace HG16 := HG16.keep k132 (by intro i _ hi he; (try dsimp only [NoK, AllB] at hi he); first | exact hi.elim | exact he.elim | omega | (rcases hi with hi | hi <;> omega) | (rcases he with he | he <;> omega))
        replace HB19 := HX132
        clear HX132
        try simp only [List.set_cons_zero, List.set_cons_succ, setAt, List.take_zero, List.take_succ_cons, List.drop_zero, List.drop_succ_cons, List.nil_append, List.cons_append, List.append_nil, List.length_cons, List.length_nil, Nat.zero_add, Nat.reduceAdd, List.drop_nil] at HB19
        refine l_v (v_assign (t := .int _ _) rfl) ?_
        refine l_nil ?_
        refine n_then ?_
        refine c_seq ?_
        refine wp_reg (by decide +kernel) ?_
        refine l_v (v_move (t := .int _ _) rfl) ?_
        refine l_to (to_f1 (by kernel_rfl) (show _ = (Value.int _ _) from rfl) (CallsR.mono (num_c) ?_))
        rintro _ w133 ⟨rfl, e133⟩
        have zs_e133 := e133.size
        replace E := E.trans (Ext.keep e133)
        replace HG1 := HG1.ext e133
        replace HS1 := HS1.ext e133
        replace HB1 := HB1.ext e133
        replace HS14 := HS14.ext e133
        replace HG16 := HG16.ext e133
        replace HB19 := HB19.ext e133
        refine l_v (OpVat.as (b := true) (v_neq rfl rfl) rfl) ?_
        refine l_v (v_move (t := .bool _) rfl) ?_
        refine l_skip (u := .bool true) rfl rfl rfl ?_
        refine l_skip (u := .bool true) rfl rfl rfl ?_
        refine l_skip (u := .bool true) rfl rfl rfl ?_
        refine l_skip (u := .bool true) rfl rfl rfl ?_
        refine l_skip (u := undef) rfl rfl rfl ?_
        refine l_skip (u := undef) rfl rfl rfl ?_
        refine l_skip (u := undef) rfl rfl rfl ?_
        refine l_skip (u := .bool true) rfl rfl rfl ?_
        refine l_v (v_orC rfl) ?_
        refine l_v (v_move (t := .bool _) rfl) ?_
        refine l_gt rfl rfl (to_f0 (by kernel_rfl) (CallsR.mono (known_c) ?_))
        rintro _ w134 ⟨rfl, e134⟩
        have zs_e134 := e134.size
        replace E := E.trans (Ext.keep e134)
        replace HG1 := HG1.ext e134
        replace HS1 := HS1.ext e134
        replace HB1 := HB1.ext e134
        replace HS14 := HS14.ext e134
        replace HG16 := HG16.ext e134
        replace HB19 := HB19.ext e134
        refine l_v (v_andT rfl rfl) ?_
        refine l_v (v_assign (t := .bool _) rfl) ?_
        refine l_nil ?_
        refine n_then ?_
        refine c_ret ?_
        refine ret1v rfl (by decide) (show _ = (Value.bool _) from rfl) ?_
        exact ⟨by simp, E⟩
end Go.Proofs.Ytaidpdjlchnonaa
