/- A part of the proof: steps and lemmas for the walks through the given program. -/
import Derived.Test.YtkaangdfpjkjpaaGt
import Derived.Test.YtkaangdfpjkjpaaGv
import Derived.Test.YtkaangdfpjkjpaaGe
namespace Go.Proofs.Ytkaangdfpjkjpaa
open Go.Vc
set_option linter.unusedVariables false
set_option linter.unusedSimpArgs false
set_option maxRecDepth 100000

theorem Same1_c {w : World} {F G : Nat → Prop} {v u : Value} {r s : RgV} (HG1 : AgV tRg w F v r) (HG2 : AgV tRg w G u s) : CallsR Try.prog 85 #[v, u] w (fun o w' => o = .bool (sameR r s) ∧ Ext w w') := by
  obtain ⟨a1, c1, a2, c2, rfl, HSf, HSt, hg⟩ := HG1.rg
  obtain ⟨a3, c3, a4, c4, rfl, HSg, HSu, hg2⟩ := HG2.rg
  refine enter 31 Try.func85 rfl rfl (by simp) ?_
  refine c_seq ?_
  have E := Keep.refl (K := NoK) w
  replace HSf := HSf.all
  replace HSt := HSt.all
  replace HSg := HSg.all
  replace HSu := HSu.all
  refine wp_reg (by decide +kernel) ?_
  refine l_to (to_box (show _ = (Value.agg _) from rfl) ?_)
  rintro b101 w101 zb101 HB101 e101 z101
  have zs_e101 := e101.size
  replace E := E.trans (Ext.keep e101)
  replace HSf := HSf.ext e101
  replace HSt := HSt.ext e101
  replace HSg := HSg.ext e101
  replace HSu := HSu.ext e101
  try simp only [Value.cells] at HB101
  refine l_to (to_box (show _ = (Value.agg _) from rfl) ?_)
  rintro b102 w102 zb102 HB102 e102 z102
  have zs_e102 := e102.size
  replace E := E.trans (Ext.keep e102)
  replace HSf := HSf.ext e102
  replace HSt := HSt.ext e102
  replace HSg := HSg.ext e102
  replace HSu := HSu.ext e102
  replace HB101 := HB101.ext e102
  try simp only [Value.cells] at HB102
  refine l_v (v_assign rfl) ?_
  refine l_nil ?_
  refine n_then ?_
  refine c_seq ?_
  refine wp_reg (by decide +kernel) ?_
  refine l_v (v_fieldAddr (off := 0) (ft := 35) (by kernel_rfl) rfl) ?_
  refine l_v (v_load (by kernel_rfl) rfl (by first | exact HB102.pv 0 _ rfl | exact HB101.pv 0 _ rfl | assumption)) ?_
  refine l_v (v_fieldAddr (off := 0) (ft := 35) (by kernel_rfl) rfl) ?_
  refine l_v (v_load (by kernel_rfl) rfl (by first | exact HB102.pv 0 _ rfl | exact HB101.pv 0 _ rfl | assumption)) ?_
  refine l_to (to_f2 (by kernel_rfl) (show _ = (Value.slice _ _ _) from rfl) (show _ = (Value.slice _ _ _) from rfl) (CallsR.mono (Equal_c HSf HSg) ?_))
  rintro _ w5 ⟨rfl, e5⟩
  have zs_e5 := e5.size
  replace E := E.trans (Ext.keep e5)
  replace HSf := HSf.ext e5
  replace HSt := HSt.ext e5
  replace HSg := HSg.ext e5
  replace HSu := HSu.ext e5
  replace HB101 := HB101.ext e5
  replace HB102 := HB102.ext e5
  refine l_v (v_move (t := .bool _) rfl) ?_
  refine l_g1 rfl rfl (fun hG => v_fieldAddr (off := 1) (ft := 35) (by kernel_rfl) rfl) ?_
  refine l_g1 rfl rfl (fun hG => v_load (by kernel_rfl) (gd hG rfl) (by first | exact HB102.pv 1 _ rfl | exact HB101.pv 1 _ rfl | assumption)) ?_
  refine l_g1 rfl rfl (fun hG => v_fieldAddr (off := 1) (ft := 35) (by kernel_rfl) rfl) ?_
  refine l_g1 rfl rfl (fun hG => v_load (by kernel_rfl) (gd hG rfl) (by first | exact HB102.pv 1 _ rfl | exact HB101.pv 1 _ rfl | assumption)) ?_
  refine l_g1f rfl rfl (fun hG => to_f2 (by kernel_rfl) (gd hG rfl) (gd hG rfl) (Equal_c HSt HSu)) ?_
  rintro w6 e6
  have zs_e6 := e6.size
  replace E := E.trans (Ext.keep e6)
  replace HSf := HSf.ext e6
  replace HSt := HSt.ext e6
  replace HSg := HSg.ext e6
  replace HSu := HSu.ext e6
  replace HB101 := HB101.ext e6
  replace HB102 := HB102.ext e6
  refine l_v (v_and rfl rfl) ?_
  refine l_v (v_move (t := .bool _) rfl) ?_
  refine l_g1 rfl rfl (fun hG => v_fieldAddr (off := 2) (ft := 4) (by kernel_rfl) rfl) ?_
  refine l_g1 rfl rfl (fun hG => v_load (by kernel_rfl) (gd hG rfl) (by first | exact HB102.pv 2 _ rfl | exact HB101.pv 2 _ rfl | assumption)) ?_
  refine l_g1 rfl rfl (fun hG => v_fieldAddr (off := 2) (ft := 4) (by kernel_rfl) rfl) ?_
  refine l_g1 rfl rfl (fun hG => v_load (by kernel_rfl) (gd hG rfl) (by first | exact HB102.pv 2 _ rfl | exact HB101.pv 2 _ rfl | assumption)) ?_
  refine l_g1 rfl rfl (fun hG => v_beql (by kernel_rfl) (gd hG rfl) (gd hG rfl)) ?_
  refine l_v (v_and rfl rfl) ?_
  refine l_v (v_move (t := .bool _) rfl) ?_
  refine l_g1 rfl rfl (fun hG => v_fieldAddr (off := 3) (ft := 3) (by kernel_rfl) rfl) ?_
  refine l_g1 rfl rfl (fun hG => v_load (by kernel_rfl) (gd hG rfl) (by first | exact HB102.pv 3 _ rfl | exact HB101.pv 3 _ rfl | assumption)) ?_
  refine l_g1 rfl rfl (fun hG => v_fieldAddr (off := 3) (ft := 3) (by kernel_rfl) rfl) ?_
  refine l_g1 rfl rfl (fun hG => v_load (by kernel_rfl) (gd hG rfl) (by first | exact HB102.pv 3 _ rfl | exact HB101.pv 3 _ rfl | assumption)) ?_
  refine l_g1 rfl rfl (fun hG => v_eql (gd hG rfl) (gd hG rfl)) ?_
  refine l_v (v_and rfl rfl) ?_
  refine l_v (v_assign (t := .bool _) rfl) ?_
  refine l_nil ?_
  refine n_then ?_
  refine c_ret ?_
  refine ret1v rfl (by decide) (show _ = (Value.bool _) from rfl) ?_
  refine ⟨?_, E⟩
  rw [sameR]
  all_goals (cases decide (r.1 = s.1) <;> cases decide (r.2.1 = s.2.1) <;> cases (r.2.2.1 == s.2.2.1) <;> rfl)
theorem EqualFuncR_c {w : World} {F G : Nat → Prop} {v u : Value} {rs ss : List RgV} (HSr : SlV tRg w F v rs) (HSs : SlV tRg w G u ss) : CallsR Try.prog 84 #[v, u, .func (.func 85) #[] #[]] w (fun o w' => o = .bool (decide (rs = ss)) ∧ Ext w w') := by
  obtain ⟨a, c, rfl⟩ := HSr.shape
  obtain ⟨a2, c2, rfl⟩ := HSs.shape
  have hmx := HSr.len_max
  have hmx2 := HSs.len_max
  refine enter 32 Try.func84 rfl rfl (by simp) ?_
  refine c_seq ?_
  have E := Keep.refl (K := NoK) w
  replace HSr := HSr.all
  replace HSs := HSs.all
  refine wp_reg (by decide +kernel) ?_
  refine l_v (v_assign rfl) ?_
  refine l_nil ?_
  refine n_then ?_
  refine c_seq ?_
  refine c_seq ?_
  refine wp_reg (by decide +kernel) ?_
  refine l_v (v_move (t := .slice _ _ _) rfl) ?_
  refine l_v (v_len (et := 37) (by kernel_rfl) rfl) ?_
  refine l_v (v_move (t := .slice _ _ _) rfl) ?_
  refine l_v (v_len (et := 37) (by kernel_rfl) rfl) ?_
  refine l_v (v_neq rfl rfl) ?_
  refine l_nil ?_
  refine n_then ?_
  refine c_cond rfl rfl (fun hc => ?_) (fun hc => ?_)
  · skip
    refine c_seq ?_
    refine wp_reg (by decide +kernel) ?_
    refine l_v (v_assign rfl) ?_
    refine l_nil ?_
    refine n_then ?_
    refine c_ret ?_
    refine r_then ?_
    refine ret1v rfl (by decide) (show _ = (Value.bool _) from rfl) ?_
    refine ⟨?_, E⟩
    rw [decide_eq_false]
    intro h; subst h; simp at hc
  · skip
    have hlen : rs.length = ss.length := by simp at hc; omega
    refine c_skip ?_
    refine n_then ?_
    refine c_seq ?_
    refine c_seq ?_
    refine wp_reg (by decide +kernel) ?_
    refine l_v (v_move (t := .slice _ _ _) rfl) ?_
    refine l_v (v_len (et := 37) (by kernel_rfl) rfl) ?_
    refine l_v (v_move rfl) ?_
    refine l_nil ?_
    refine n_then ?_
    refine c_block ?_
    refine c_loop (τ := Nat) [6, 7, 8, 9, 17, 18, 19, 20, 21, 22, 23, 24, 25, 26, 27, 28, 29, 30, 31] (fun i => [(17, .int .i64 i)]) (fun i W => Ext w W ∧ Keep (NoK) w W ∧ i ≤ rs.length ∧ rs.take i = ss.take i) (fun i => rs.length - i) 0 (by exact ⟨rfl, trivial⟩) (by exact ⟨E, Keep.refl _, Nat.zero_le _, rfl⟩) ?_
    rintro i w101 j ⟨E, EL1, h1, h2⟩
    have zs_EL1 := EL1.size
    replace HSr := HSr.ext EL1
    replace HSs := HSs.ext EL1
    refine c_seq ?_
    refine wp_reg (by decide +kernel) ?_
    refine l_v (v_lss rfl rfl) ?_
    refine l_nil ?_
    refine n_then ?_
    refine c_seq ?_
    refine c_cond rfl rfl (fun hlt => ?_) (fun hlt => ?_)
    · skip
      have hlt := dtrue hlt
      obtain ⟨r, hx, hdr⟩ := getE (l := rs) (i := i) (by omega)
      obtain ⟨s, hy, hds⟩ := getE (l := ss) (i := i) (by omega)
      obtain ⟨q1, cs1, rfl, hq1, _, HP1, hr1⟩ := HSr.el hx
      obtain ⟨q2, cs2, rfl, hq2, _, HP2, hr2⟩ := HSs.el hy
      have HG5 : AgV tRg _ _ _ r := ⟨cs1, rfl, hr1⟩
      have HG6 : AgV tRg _ _ _ s := ⟨cs2, rfl, hr2⟩
      obtain ⟨b1, d1, b2, d2, rfl, _, _, _⟩ := tRg_cells hr1
      obtain ⟨b3, d3, b4, d4, rfl, _, _, _⟩ := tRg_cells hr2
      refine c_skip ?_
      refine n_then ?_
      refine c_seq ?_
      refine c_block ?_
      refine c_seq ?_
      refine wp_reg (by decide +kernel) ?_
      refine l_v (v_move (t := .int _ _) rfl) ?_
      refine l_v (v_indexAddr (et := 37) (sz := 4) (k := i) (by kernel_rfl) (by kernel_rfl) rfl rfl (by first | rfl | omega) (by omega)) ?_
      refine l_v (v_loadA (by kernel_rfl) rfl (by first | exact HP2 | exact HP1 | assumption) rfl) ?_
      refine l_to (to_alloc (z := (.agg #[.slice none 0 0, .slice none 0 0, .bool false, .int .i64 0])) (by unfold kZero; kernel_rfl) ?_)
      rintro b8 w8 zb8 HB8 e8 z8
      have zs_e8 := e8.size
      replace E := E.trans (Ext.keep e8)
      replace HSr := HSr.ext e8
      replace HSs := HSs.ext e8
      replace EL1 := EL1.trans (Ext.keep e8)
      replace HP1 := HP1.ext e8
      replace HP2 := HP2.ext e8
      replace HG5 := HG5.ext e8
      replace HG6 := HG6.ext e8
      try simp only [Value.cells] at HB8
      refine l_v (v_assign (t := .int _ _) rfl) ?_
      refine l_to (to_storeA (n := 4) rfl rfl (show _ = (Value.agg _) from rfl) (by kernel_rfl) rfl (by first | (simp [slice_one]; done) | (simp only [List.forall_mem_cons, List.cons_append, List.nil_append]; repeat' (first | exact rfl | apply And.intro | (intro u hu; cases hu; done)))) HB8 (by first | exact of_decide_eq_true rfl | (simp; done) | decide) ?_)
      rintro w102 HX102 k102 z102
      have zs_k102 := k102.size
      replace E := E.step k102 (by intro i hi he; (try dsimp only [NoK] at hi he ⊢); first | exact he.elim | omega | exact he)
      replace HSr := HSr.keep k102 (by intro i _ hi he; (try dsimp only [NoK, AllB] at hi he); first | exact hi.elim | exact he.elim | omega | (rcases hi with hi | hi <;> omega) | (rcases he with he | he <;> omega))
      replace HSs := HSs.keep k102 (by intro i _ hi he; (try dsimp only [NoK, AllB] at hi he); first | exact hi.elim | exact he.elim | omega | (rcases hi with hi | hi <;> omega) | (rcases he with he | he <;> omega))
      replace EL1 := EL1.step k102 (by intro i hi he; (try dsimp only [NoK] at hi he ⊢); first | exact he.elim | omega | exact he)
      replace HP1 := HP1.keep k102 (by intro h; (try dsimp only at h); (try simp only [add_block] at h); first | omega)
      replace HP2 := HP2.keep k102 (by intro h; (try dsimp only at h); (try simp only [add_block] at h); first | omega)
      replace HG5 := HG5.keep k102 (by intro i _ hi he; (try dsimp only [NoK, AllB] at hi he); first | exact hi.elim | exact he.elim | omega | (rcases hi with hi | hi <;> omega) | (rcases he with he | he <;> omega))
      replace HG6 := HG6.keep k102 (by intro i _ hi he; (try dsimp only [NoK, AllB] at hi he); first | exact hi.elim | exact he.elim | omega | (rcases hi with hi | hi <;> omega) | (rcases he with he | he <;> omega))
      replace HB8 := HX102
      clear HX102
      try simp only [List.set_cons_zero, List.set_cons_succ, setAt, List.take_zero, List.take_succ_cons, List.drop_zero, List.drop_succ_cons, List.nil_append, List.cons_append, List.append_nil, List.length_cons, List.length_nil, Nat.zero_add, Nat.reduceAdd, List.drop_nil] at HB8
      refine l_nil ?_
      refine n_then ?_
      refine c_seq ?_
      refine wp_reg (by decide +kernel) ?_
      refine l_v (v_move (t := .slice _ _ _) rfl) ?_
      refine l_v (v_move (t := .int _ _) rfl) ?_
      refine l_v (v_indexAddr (et := 37) (sz := 4) (k := i) (by kernel_rfl) (by kernel_rfl) rfl rfl (by first | rfl | omega) (by omega)) ?_
      refine l_v (v_loadA (by kernel_rfl) rfl (by first | exact HB8.pv | exact HP2 | exact HP1 | assumption) rfl) ?_
      refine l_to (to_alloc (z := (.agg #[.slice none 0 0, .slice none 0 0, .bool false, .int .i64 0])) (by unfold kZero; kernel_rfl) ?_)
      rintro b9 w9 zb9 HB9 e9 z9
      have zs_e9 := e9.size
      replace E := E.trans (Ext.keep e9)
      replace HSr := HSr.ext e9
      replace HSs := HSs.ext e9
      replace EL1 := EL1.trans (Ext.keep e9)
      replace HP1 := HP1.ext e9
      replace HP2 := HP2.ext e9
      replace HG5 := HG5.ext e9
      replace HG6 := HG6.ext e9
      replace HB8 := HB8.ext e9
      try simp only [Value.cells] at HB9
      refine l_to (to_storeA (n := 4) rfl rfl (show _ = (Value.agg _) from rfl) (by kernel_rfl) rfl (by first | (simp [slice_one]; done) | (simp only [List.forall_mem_cons, List.cons_append, List.nil_append]; repeat' (first | exact rfl | apply And.intro | (intro u hu; cases hu; done)))) HB9 (by first | exact of_decide_eq_true rfl | (simp; done) | decide) ?_)
      rintro w103 HX103 k103 z103
      have zs_k103 := k103.size
      replace E := E.step k103 (by intro i hi he; (try dsimp only [NoK] at hi he ⊢); first | exact he.elim | omega | exact he)
      replace HSr := HSr.keep k103 (by intro i _ hi he; (try dsimp only [NoK, AllB] at hi he); first | exact hi.elim | exact he.elim | omega | (rcases hi with hi | hi <;> omega) | (rcases he with he | he <;> omega))
      replace HSs := HSs.keep k103 (by intro i _ hi he; (try dsimp only [NoK, AllB] at hi he); first | exact hi.elim | exact he.elim | omega | (rcases hi with hi | hi <;> omega) | (rcases he with he | he <;> omega))
      replace EL1 := EL1.step k103 (by intro i hi he; (try dsimp only [NoK] at hi he ⊢); first | exact he.elim | omega | exact he)
      replace HP1 := HP1.keep k103 (by intro h; (try dsimp only at h); (try simp only [add_block] at h); first | omega)
      replace HP2 := HP2.keep k103 (by intro h; (try dsimp only at h); (try simp only [add_block] at h); first | omega)
      replace HG5 := HG5.keep k103 (by intro i _ hi he; (try dsimp only [NoK, AllB] at hi he); first | exact hi.elim | exact he.elim | omega | (rcases hi with hi | hi <;> omega) | (rcases he with he | he <;> omega))
      replace HG6 := HG6.keep k103 (by intro i _ hi he; (try dsimp only [NoK, AllB] at hi he); first | exact hi.elim | exact he.elim | omega | (rcases hi with hi | hi <;> omega) | (rcases he with he | he <;> omega))
      replace HB8 := HB8.keep k103 (by intro h; (try dsimp only at h); first | omega)
      replace HB9 := HX103
      clear HX103
      try simp only [List.set_cons_zero, List.set_cons_succ, setAt, List.take_zero, List.take_succ_cons, List.drop_zero, List.drop_succ_cons, List.nil_append, List.cons_append, List.append_nil, List.length_cons, List.length_nil, Nat.zero_add, Nat.reduceAdd, List.drop_nil] at HB9
      refine l_nil ?_
      refine n_then ?_
      refine c_seq ?_
      refine wp_reg (by decide +kernel) ?_
      refine l_v (v_move (t := .func _ _ _) rfl) ?_
      refine l_v (v_loadA (by kernel_rfl) rfl (by first | exact HB9.pv | exact HB8.pv | exact HP2 | exact HP1 | assumption) rfl) ?_
      refine l_v (v_loadA (by kernel_rfl) rfl (by first | exact HB9.pv | exact HB8.pv | exact HP2 | exact HP1 | assumption) rfl) ?_
      refine l_to (to_call2 (by kernel_rfl) rfl (show _ = (Value.agg _) from rfl) (show _ = (Value.agg _) from rfl) (CallsR.mono (Same1_c HG5 HG6) ?_))
      rintro _ w10 ⟨rfl, e10⟩
      have zs_e10 := e10.size
      replace E := E.trans (Ext.keep e10)
      replace HSr := HSr.ext e10
      replace HSs := HSs.ext e10
      replace EL1 := EL1.trans (Ext.keep e10)
      replace HP1 := HP1.ext e10
      replace HP2 := HP2.ext e10
      replace HG5 := HG5.ext e10
      replace HG6 := HG6.ext e10
      replace HB8 := HB8.ext e10
      replace HB9 := HB9.ext e10
      refine l_v (v_not rfl) ?_
      refine l_nil ?_
      refine n_then ?_
      refine c_cond rfl rfl (fun h38 => ?_) (fun h38 => ?_)
      · skip
        refine c_seq ?_
        refine wp_reg (by decide +kernel) ?_
        refine l_v (v_assign rfl) ?_
        refine l_nil ?_
        refine n_then ?_
        refine c_ret ?_
        refine r_blk ?_
        refine r_then ?_
        refine r_then ?_
        refine r_blk ?_
        refine r_then ?_
        refine ret1v rfl (by decide) (show _ = (Value.bool _) from rfl) ?_
        refine ⟨?_, E⟩
        rw [decide_eq_false]
        rintro h; cases h
        rw [hx] at hy; cases hy
        rw [sameR_iff.2 rfl] at h38; cases h38
      · skip
        refine c_skip ?_
        refine n_blk ?_
        refine n_then ?_
        refine wp_reg (by decide +kernel) ?_
        refine l_v (v_add rfl rfl (by first | exact wr_i64 (by omega) (by omega) | rfl)) ?_
        refine l_v (v_move (t := .int _ _) rfl) ?_
        refine l_nil ?_
        refine n_then ?_
        refine ⟨i + 1, _, rfl, by (repeat (first | exact Off.of_over _ _ _ | refine Off.upd ?_ (by decide) _)), ⟨by first | rfl | exact congrArg (Value.int _) (by omega) | (simp; done), trivial⟩, ⟨E, EL1, ?_⟩, ?_⟩
        · skip
          refine ⟨by omega, ?_⟩
          have hs : r = s := by simp only [Bool.not_eq_false'] at h38; exact sameR_iff.1 h38
          rw [List.take_add_one, List.take_add_one, h2, hx, hy, hs]
        · (dsimp only; omega)
    · skip
      refine c_exit ?_
      refine x_then ?_
      refine x_then ?_
      refine x_hit ?_
      refine n_then ?_
      refine c_seq ?_
      refine wp_reg (by decide +kernel) ?_
      refine l_v (v_assign rfl) ?_
      refine l_nil ?_
      refine n_then ?_
      refine c_ret ?_
      refine ret1v rfl (by decide) (show _ = (Value.bool _) from rfl) ?_
      refine ⟨?_, E⟩
      have h := dfalse hlt
      have : rs = ss := by rw [← List.take_of_length_le (l := rs) (i := i) (by omega), h2, List.take_of_length_le (by omega)]
      subst this; simp
theorem Same_c {w : World} {F G : Nat → Prop} {v u : Value} {m n : MpV} (HG1 : AgV tMp w F v m) (HG2 : AgV tMp w G u n) : CallsR Try.prog 48 #[v, u] w (fun o w' => o = .bool (sameM m n) ∧ Ext w w') := by
  obtain ⟨e, rs⟩ := m
  obtain ⟨e2, ss⟩ := n
  obtain ⟨a, c, rfl, HSr, he⟩ := HG1.mp
  obtain ⟨a2, c2, rfl, HSs, he2⟩ := HG2.mp
  simp only at HSr he HSs he2
  refine enter 17 Try.func48 rfl rfl (by simp) ?_
  refine c_seq ?_
  have E := Keep.refl (K := NoK) w
  replace HSr := HSr.all
  replace HSs := HSs.all
  refine wp_reg (by decide +kernel) ?_
  refine l_to (to_box (show _ = (Value.agg _) from rfl) ?_)
  rintro b101 w101 zb101 HB101 e101 z101
  have zs_e101 := e101.size
  replace E := E.trans (Ext.keep e101)
  replace HSr := HSr.ext e101
  replace HSs := HSs.ext e101
  try simp only [Value.cells] at HB101
  refine l_to (to_box (show _ = (Value.agg _) from rfl) ?_)
  rintro b102 w102 zb102 HB102 e102 z102
  have zs_e102 := e102.size
  replace E := E.trans (Ext.keep e102)
  replace HSr := HSr.ext e102
  replace HSs := HSs.ext e102
  replace HB101 := HB101.ext e102
  try simp only [Value.cells] at HB102
  refine l_v (v_assign rfl) ?_
  refine l_nil ?_
  refine n_then ?_
  refine c_seq ?_
  refine wp_reg (by decide +kernel) ?_
  refine l_v (v_fieldAddr (off := 0) (ft := 2) (by kernel_rfl) rfl) ?_
  refine l_v (v_load (by kernel_rfl) rfl (by first | exact HB102.pv 0 _ rfl | exact HB101.pv 0 _ rfl | assumption)) ?_
  refine l_v (v_fieldAddr (off := 0) (ft := 2) (by kernel_rfl) rfl) ?_
  refine l_v (v_load (by kernel_rfl) rfl (by first | exact HB102.pv 0 _ rfl | exact HB101.pv 0 _ rfl | assumption)) ?_
  refine l_v (v_eql rfl rfl) ?_
  refine l_v (v_move (t := .bool _) rfl) ?_
  refine l_g1 rfl rfl (fun hG => v_fieldAddr (off := 1) (ft := 22) (by kernel_rfl) rfl) ?_
  refine l_g1 rfl rfl (fun hG => v_load (by kernel_rfl) (gd hG rfl) (by first | exact HB102.pv 1 _ rfl | exact HB101.pv 1 _ rfl | assumption)) ?_
  refine l_g1 rfl rfl (fun hG => v_fieldAddr (off := 1) (ft := 22) (by kernel_rfl) rfl) ?_
  refine l_g1 rfl rfl (fun hG => v_load (by kernel_rfl) (gd hG rfl) (by first | exact HB102.pv 1 _ rfl | exact HB101.pv 1 _ rfl | assumption)) ?_
  refine l_g1f rfl rfl (fun hG => to_f3 (by kernel_rfl) (gd hG rfl) (gd hG rfl) rfl (EqualFuncR_c HSr HSs)) ?_
  rintro w6 e6
  have zs_e6 := e6.size
  replace E := E.trans (Ext.keep e6)
  replace HSr := HSr.ext e6
  replace HSs := HSs.ext e6
  replace HB101 := HB101.ext e6
  replace HB102 := HB102.ext e6
  refine l_v (v_and rfl rfl) ?_
  refine l_v (v_assign (t := .bool _) rfl) ?_
  refine l_nil ?_
  refine n_then ?_
  refine c_ret ?_
  refine ret1v rfl (by decide) (show _ = (Value.bool _) from rfl) ?_
  refine ⟨?_, E⟩
  rw [sameM, show decide (((e, rs) : MpV) = (e2, ss)) = (decide (e = e2) && decide (rs = ss)) from by rw [← Bool.decide_and]; exact decide_eq_decide.2 (by simp)]
  all_goals (cases decide (e = e2) <;> rfl)
/-- a step -/
abbrev StV := Int × Int × List UInt8
abbrev tSt : Ty StV := tPair (tInt .i64) (tPair (tInt .i64) tBy)
theorem tSt_cells {w : World} {F : Nat → Prop} {cs : List Value} {r : StV} (h : tSt.rep w F cs r) : ∃ a1 c1, cs = [.int .i64 r.1, .int .i64 r.2.1, .slice a1 r.2.2.length c1] ∧ Bv w F (.slice a1 r.2.2.length c1) r.2.2 := by
  obtain ⟨k1, k2, rfl, ⟨rfl, h1⟩, k3, k4, rfl, ⟨rfl, h2⟩, h4⟩ := h
  obtain ⟨a1, c1, rfl, g1⟩ := tBy_cells h4
  exact ⟨a1, c1, rfl, g1⟩
def stepM (m : MpV) (x : StV) : MpV × Int := if x.1 = 1 then splitM m x.2.2 else if x.1 = 2 then unionM m x.2.2 else if x.1 = 3 then giveM m x.2.2 x.2.1 else (mp0, 2)
theorem step_c {w : World} {F G : Nat → Prop} {v u : Value} {m : MpV} {x : StV} (HG1 : AgV tMp w F v m) (HG2 : AgV tSt w G u x) : CallsR Try.prog 45 #[v, u] w (fun o w' => (∃ y, o = .tuple #[y, .int .i64 (stepM m x).2] ∧ AgV tMp w' (fun b => w.heap.size ≤ b) y (stepM m x).1) ∧ Ext w w') := by
  obtain ⟨e, rs⟩ := m
  obtain ⟨a, c, rfl, HSr, he⟩ := HG1.mp
  obtain ⟨cs, rfl, hr⟩ := HG2
  obtain ⟨a1, c1, rfl, HS2⟩ := tSt_cells hr
  simp only at HSr he
  refine enter 35 Try.func45 rfl rfl (by simp) ?_
  refine c_seq ?_
  have E := Keep.refl (K := NoK) w
  replace HG1 := HG1.all
  replace HS2 := HS2.all
  refine wp_reg (by decide +kernel) ?_
  refine l_to (to_box (show _ = (Value.agg _) from rfl) ?_)
  rintro b2 w2 zb2 HB2 e2 z2
  have zs_e2 := e2.size
  replace E := E.trans (Ext.keep e2)
  replace HG1 := HG1.ext e2
  replace HS2 := HS2.ext e2
  try simp only [Value.cells] at HB2
  refine l_to (to_box (show _ = (Value.agg _) from rfl) ?_)
  rintro b3 w3 zb3 HB3 e3 z3
  have zs_e3 := e3.size
  replace E := E.trans (Ext.keep e3)
  replace HG1 := HG1.ext e3
  replace HS2 := HS2.ext e3
  replace HB2 := HB2.ext e3
  try simp only [Value.cells] at HB3
  refine l_to (to_alloc (z := (.agg #[.int .i64 0, .slice none 0 0])) (by unfold kZero; kernel_rfl) ?_)
  rintro b4 w4 zb4 HB4 e4 z4
  have zs_e4 := e4.size
  replace E := E.trans (Ext.keep e4)
  replace HG1 := HG1.ext e4
  replace HS2 := HS2.ext e4
  replace HB2 := HB2.ext e4
  replace HB3 := HB3.ext e4
  try simp only [Value.cells] at HB4
  refine l_v (v_assign rfl) ?_
  refine l_nil ?_
  refine n_then ?_
  refine c_seq ?_
  refine c_seq ?_
  refine wp_reg (by decide +kernel) ?_
  refine l_v (v_fieldAddr (off := 0) (ft := 3) (by kernel_rfl) rfl) ?_
  refine l_v (v_load (by kernel_rfl) rfl (by first | exact HB4.pv 0 _ rfl | exact HB3.pv 0 _ rfl | exact HB2.pv 0 _ rfl | assumption)) ?_
  refine l_nil ?_
  refine n_then ?_
  refine c_block ?_
  refine c_seq ?_
  refine wp_reg (by decide +kernel) ?_
  refine l_v (v_eql rfl rfl) ?_
  refine l_v (v_assign (t := .bool _) rfl) ?_
  refine l_nil ?_
  refine n_then ?_
  refine c_cond rfl rfl (fun h1 => ?_) (fun h1 => ?_)
  · skip
    refine c_seq ?_
    refine wp_reg (by decide +kernel) ?_
    refine l_v (v_loadA (by kernel_rfl) rfl (by first | exact HB4.pv | exact HB3.pv | exact HB2.pv | assumption) rfl) ?_
    refine l_v (v_fieldAddr (off := 2) (ft := 35) (by kernel_rfl) rfl) ?_
    refine l_v (v_load (by kernel_rfl) rfl (by first | exact HB4.pv 2 _ rfl | exact HB3.pv 2 _ rfl | exact HB2.pv 2 _ rfl | assumption)) ?_
    refine l_to (to_f2 (by kernel_rfl) (show _ = (Value.agg _) from rfl) (show _ = (Value.slice _ _ _) from rfl) (CallsR.mono (Split_c HG1 HS2) ?_))
    rintro _ w5 ⟨⟨x5, rfl, HG5⟩, e5⟩
    have zs_e5 := e5.size
    obtain ⟨a5, c5, rfl, HS5, he5⟩ := HG5.mp
    replace E := E.trans (Ext.keep e5)
    replace HG1 := HG1.ext e5
    replace HS2 := HS2.ext e5
    replace HB2 := HB2.ext e5
    replace HB3 := HB3.ext e5
    replace HB4 := HB4.ext e5
    refine l_v (v_extract (t := .agg _) rfl rfl) ?_
    refine l_v (v_extract (t := .int _ _) rfl rfl) ?_
    refine l_to (to_storeA (n := 2) rfl rfl (show _ = (Value.agg _) from rfl) (by kernel_rfl) rfl (by first | (simp [slice_one]; done) | (simp only [List.forall_mem_cons, List.cons_append, List.nil_append]; repeat' (first | exact rfl | apply And.intro | (intro u hu; cases hu; done)))) HB4 (by first | exact of_decide_eq_true rfl | (simp; done) | decide) ?_)
    rintro w101 HX101 k101 z101
    have zs_k101 := k101.size
    replace E := E.step k101 (by intro i hi he; (try dsimp only [NoK] at hi he ⊢); first | exact he.elim | omega | exact he)
    replace HG1 := HG1.keep k101 (by intro i _ hi he; (try dsimp only [NoK, AllB] at hi he); first | exact hi.elim | exact he.elim | omega | (rcases hi with hi | hi <;> omega) | (rcases he with he | he <;> omega))
    replace HS2 := HS2.keep k101 (by intro i _ hi he; (try dsimp only [NoK, AllB] at hi he); first | exact hi.elim | exact he.elim | omega | (rcases hi with hi | hi <;> omega) | (rcases he with he | he <;> omega))
    replace HB2 := HB2.keep k101 (by intro h; (try dsimp only at h); first | omega)
    replace HB3 := HB3.keep k101 (by intro h; (try dsimp only at h); first | omega)
    replace HG5 := HG5.keep k101 (by intro i _ hi he; (try dsimp only [NoK, AllB] at hi he); first | exact hi.elim | exact he.elim | omega | (rcases hi with hi | hi <;> omega) | (rcases he with he | he <;> omega))
    replace HB4 := HX101
    clear HX101
    try simp only [List.set_cons_zero, List.set_cons_succ, setAt, List.take_zero, List.take_succ_cons, List.drop_zero, List.drop_succ_cons, List.nil_append, List.cons_append, List.append_nil, List.length_cons, List.length_nil, Nat.zero_add, Nat.reduceAdd, List.drop_nil] at HB4
    refine l_v (v_assign (t := .int _ _) rfl) ?_
    refine l_nil ?_
    refine n_then ?_
    refine c_ret ?_
    refine r_blk ?_
    refine r_then ?_
    refine ret2cv (n := 2) rfl (by decide) (by decide) rfl (by kernel_rfl) HB4.pv rfl (show _ = (Value.int _ _) from rfl) ?_
    rw [stepM, if_pos (dtrue h1)]
    exact ⟨⟨_, rfl, HG5.mono fun b _ h => by omega⟩, E⟩
  · skip
    refine c_seq ?_
    refine wp_reg (by decide +kernel) ?_
    refine l_v (v_eql rfl rfl) ?_
    refine l_v (v_assign (t := .bool _) rfl) ?_
    refine l_nil ?_
    refine n_then ?_
    refine c_cond rfl rfl (fun h2 => ?_) (fun h2 => ?_)
    · skip
      refine c_seq ?_
      refine wp_reg (by decide +kernel) ?_
      refine l_v (v_loadA (by kernel_rfl) rfl (by first | exact HB4.pv | exact HB3.pv | exact HB2.pv | assumption) rfl) ?_
      refine l_v (v_fieldAddr (off := 2) (ft := 35) (by kernel_rfl) rfl) ?_
      refine l_v (v_load (by kernel_rfl) rfl (by first | exact HB4.pv 2 _ rfl | exact HB3.pv 2 _ rfl | exact HB2.pv 2 _ rfl | assumption)) ?_
      refine l_to (to_f2 (by kernel_rfl) (show _ = (Value.agg _) from rfl) (show _ = (Value.slice _ _ _) from rfl) (CallsR.mono (Union_c HG1 HS2) ?_))
      rintro _ w5 ⟨⟨x5, rfl, HG5⟩, e5⟩
      have zs_e5 := e5.size
      obtain ⟨a5, c5, rfl, HS5, he5⟩ := HG5.mp
      replace E := E.trans (Ext.keep e5)
      replace HG1 := HG1.ext e5
      replace HS2 := HS2.ext e5
      replace HB2 := HB2.ext e5
      replace HB3 := HB3.ext e5
      replace HB4 := HB4.ext e5
      refine l_v (v_extract (t := .agg _) rfl rfl) ?_
      refine l_v (v_extract (t := .int _ _) rfl rfl) ?_
      refine l_to (to_storeA (n := 2) rfl rfl (show _ = (Value.agg _) from rfl) (by kernel_rfl) rfl (by first | (simp [slice_one]; done) | (simp only [List.forall_mem_cons, List.cons_append, List.nil_append]; repeat' (first | exact rfl | apply And.intro | (intro u hu; cases hu; done)))) HB4 (by first | exact of_decide_eq_true rfl | (simp; done) | decide) ?_)
      rintro w102 HX102 k102 z102
      have zs_k102 := k102.size
      replace E := E.step k102 (by intro i hi he; (try dsimp only [NoK] at hi he ⊢); first | exact he.elim | omega | exact he)
      replace HG1 := HG1.keep k102 (by intro i _ hi he; (try dsimp only [NoK, AllB] at hi he); first | exact hi.elim | exact he.elim | omega | (rcases hi with hi | hi <;> omega) | (rcases he with he | he <;> omega))
      replace HS2 := HS2.keep k102 (by intro i _ hi he; (try dsimp only [NoK, AllB] at hi he); first | exact hi.elim | exact he.elim | omega | (rcases hi with hi | hi <;> omega) | (rcases he with he | he <;> omega))
      replace HB2 := HB2.keep k102 (by intro h; (try dsimp only at h); first | omega)
      replace HB3 := HB3.keep k102 (by intro h; (try dsimp only at h); first | omega)
      replace HG5 := HG5.keep k102 (by intro i _ hi he; (try dsimp only [NoK, AllB] at hi he); first | exact hi.elim | exact he.elim | omega | (rcases hi with hi | hi <;> omega) | (rcases he with he | he <;> omega))
      replace HB4 := HX102
      clear HX102
      try simp only [List.set_cons_zero, List.set_cons_succ, setAt, List.take_zero, List.take_succ_cons, List.drop_zero, List.drop_succ_cons, List.nil_append, List.cons_append, List.append_nil, List.length_cons, List.length_nil, Nat.zero_add, Nat.reduceAdd, List.drop_nil] at HB4
      refine l_v (v_assign (t := .int _ _) rfl) ?_
      refine l_nil ?_
      refine n_then ?_
      refine c_ret ?_
      refine r_blk ?_
      refine r_then ?_
      refine ret2cv (n := 2) rfl (by decide) (by decide) rfl (by kernel_rfl) HB4.pv rfl (show _ = (Value.int _ _) from rfl) ?_
      rw [stepM, if_neg (dfalse h1), if_pos (dtrue h2)]
      exact ⟨⟨_, rfl, HG5.mono fun b _ h => by omega⟩, E⟩
    · skip
      refine c_seq ?_
      refine wp_reg (by decide +kernel) ?_
      refine l_v (v_eql rfl rfl) ?_
      refine l_v (v_assign (t := .bool _) rfl) ?_
      refine l_nil ?_
      refine n_then ?_
      refine c_cond rfl rfl (fun h3 => ?_) (fun h3 => ?_)
      · skip
        refine c_seq ?_
        refine wp_reg (by decide +kernel) ?_
        refine l_v (v_loadA (by kernel_rfl) rfl (by first | exact HB4.pv | exact HB3.pv | exact HB2.pv | assumption) rfl) ?_
        refine l_v (v_fieldAddr (off := 2) (ft := 35) (by kernel_rfl) rfl) ?_
        refine l_v (v_load (by kernel_rfl) rfl (by first | exact HB4.pv 2 _ rfl | exact HB3.pv 2 _ rfl | exact HB2.pv 2 _ rfl | assumption)) ?_
        refine l_v (v_fieldAddr (off := 1) (ft := 3) (by kernel_rfl) rfl) ?_
        refine l_v (v_load (by kernel_rfl) rfl (by first | exact HB4.pv 1 _ rfl | exact HB3.pv 1 _ rfl | exact HB2.pv 1 _ rfl | assumption)) ?_
        refine l_to (to_f3 (by kernel_rfl) (show _ = (Value.agg _) from rfl) (show _ = (Value.slice _ _ _) from rfl) (show _ = (Value.int _ _) from rfl) (CallsR.mono (Give_c HG1 HS2) ?_))
        rintro _ w5 ⟨⟨x5, rfl, HG5⟩, e5⟩
        have zs_e5 := e5.size
        obtain ⟨a5, c5, rfl, HS5, he5⟩ := HG5.mp
        replace E := E.trans (Ext.keep e5)
        replace HG1 := HG1.ext e5
        replace HS2 := HS2.ext e5
        replace HB2 := HB2.ext e5
        replace HB3 := HB3.ext e5
        replace HB4 := HB4.ext e5
        refine l_v (v_extract (t := .agg _) rfl rfl) ?_
        refine l_v (v_extract (t := .int _ _) rfl rfl) ?_
        refine l_to (to_storeA (n := 2) rfl rfl (show _ = (Value.agg _) from rfl) (by kernel_rfl) rfl (by first | (simp [slice_one]; done) | (simp only [List.forall_mem_cons, List.cons_append, List.nil_append]; repeat' (first | exact rfl | apply And.intro | (intro u hu; cases hu; done)))) HB4 (by first | exact of_decide_eq_true rfl | (simp; done) | decide) ?_)
        rintro w103 HX103 k103 z103
        have zs_k103 := k103.size
        replace E := E.step k103 (by intro i hi he; (try dsimp only [NoK] at hi he ⊢); first | exact he.elim | omega | exact he)
        replace HG1 := HG1.keep k103 (by intro i _ hi he; (try dsimp only [NoK, AllB] at hi he); first | exact hi.elim | exact he.elim | omega | (rcases hi with hi | hi <;> omega) | (rcases he with he | he <;> omega))
        replace HS2 := HS2.keep k103 (by intro i _ hi he; (try dsimp only [NoK, AllB] at hi he); first | exact hi.elim | exact he.elim | omega | (rcases hi with hi | hi <;> omega) | (rcases he with he | he <;> omega))
        replace HB2 := HB2.keep k103 (by intro h; (try dsimp only at h); first | omega)
        replace HB3 := HB3.keep k103 (by intro h; (try dsimp only at h); first | omega)
        replace HG5 := HG5.keep k103 (by intro i _ hi he; (try dsimp only [NoK, AllB] at hi he); first | exact hi.elim | exact he.elim | omega | (rcases hi with hi | hi <;> omega) | (rcases he with he | he <;> omega))
        replace HB4 := HX103
        clear HX103
        try simp only [List.set_cons_zero, List.set_cons_succ, setAt, List.take_zero, List.take_succ_cons, List.drop_zero, List.drop_succ_cons, List.nil_append, List.cons_append, List.append_nil, List.length_cons, List.length_nil, Nat.zero_add, Nat.reduceAdd, List.drop_nil] at HB4
        refine l_v (v_assign (t := .int _ _) rfl) ?_
        refine l_nil ?_
        refine n_then ?_
        refine c_ret ?_
        refine r_blk ?_
        refine r_then ?_
        refine ret2cv (n := 2) rfl (by decide) (by decide) rfl (by kernel_rfl) HB4.pv rfl (show _ = (Value.int _ _) from rfl) ?_
        rw [stepM, if_neg (dfalse h1), if_neg (dfalse h2), if_pos (dtrue h3)]
        exact ⟨⟨_, rfl, HG5.mono fun b _ h => by omega⟩, E⟩
      · skip
        refine c_skip ?_
        refine n_blk ?_
        refine n_then ?_
        refine c_seq ?_
        refine wp_reg (by decide +kernel) ?_
        refine l_v (v_build (pl := [(0, 1), (1, 1)]) (z := .agg #[.int .i64 0, .slice none 0 0]) (zl := [.int .i64 0, .slice none 0 0]) (by kernel_rfl) (by unfold kZero; kernel_rfl) rfl rfl (cells := [_, _]) rfl) ?_
        refine l_to (to_storeA (n := 2) rfl rfl (show _ = (Value.agg _) from rfl) (by kernel_rfl) rfl (by first | (simp [slice_one]; done) | (simp only [List.forall_mem_cons, List.cons_append, List.nil_append]; repeat' (first | exact rfl | apply And.intro | (intro u hu; cases hu; done)))) HB4 (by first | exact of_decide_eq_true rfl | (simp; done) | decide) ?_)
        rintro w104 HX104 k104 z104
        have zs_k104 := k104.size
        replace E := E.step k104 (by intro i hi he; (try dsimp only [NoK] at hi he ⊢); first | exact he.elim | omega | exact he)
        replace HG1 := HG1.keep k104 (by intro i _ hi he; (try dsimp only [NoK, AllB] at hi he); first | exact hi.elim | exact he.elim | omega | (rcases hi with hi | hi <;> omega) | (rcases he with he | he <;> omega))
        replace HS2 := HS2.keep k104 (by intro i _ hi he; (try dsimp only [NoK, AllB] at hi he); first | exact hi.elim | exact he.elim | omega | (rcases hi with hi | hi <;> omega) | (rcases he with he | he <;> omega))
        replace HB2 := HB2.keep k104 (by intro h; (try dsimp only at h); first | omega)
        replace HB3 := HB3.keep k104 (by intro h; (try dsimp only at h); first | omega)
        replace HB4 := HX104
        clear HX104
        try simp only [List.set_cons_zero, List.set_cons_succ, setAt, List.take_zero, List.take_succ_cons, List.drop_zero, List.drop_succ_cons, List.nil_append, List.cons_append, List.append_nil, List.length_cons, List.length_nil, Nat.zero_add, Nat.reduceAdd, List.drop_nil] at HB4
        refine l_v (v_assign rfl) ?_
        refine l_nil ?_
        refine n_then ?_
        refine c_ret ?_
        refine ret2cv (n := 2) rfl (by decide) (by decide) rfl (by kernel_rfl) HB4.pv rfl (show _ = (Value.int _ _) from rfl) ?_
        rw [stepM, if_neg (dfalse h1), if_neg (dfalse h2), if_neg (dfalse h3)]
        exact ⟨⟨_, rfl, AgV.mkMp (SlV.nil _ _ _) (by decide)⟩, E⟩
theorem back_c {w : World} {F G H : Nat → Prop} {v u kv : Value} {m o : MpV} {k : List UInt8} (HG1 : AgV tMp w F v m) (HG2 : AgV tMp w G u o) (HS3 : Bv w H kv k) : CallsR Try.prog 46 #[v, u, kv] w (fun r w' => r = .bool (decide ((unionM o k).2 = 0) && sameM (m.1, (unionM o k).1.2) m) ∧ Ext w w') := by
  obtain ⟨e, rs⟩ := m
  obtain ⟨eo, os⟩ := o
  obtain ⟨a, c, rfl, HSr, he⟩ := HG1.mp
  obtain ⟨a2, c2, rfl, HSo, he2⟩ := HG2.mp
  obtain ⟨a3, c3, rfl⟩ := HS3.shape
  simp only at HSr he HSo he2
  refine enter 26 Try.func46 rfl rfl (by simp) ?_
  refine c_seq ?_
  have E := Keep.refl (K := NoK) w
  replace HG1 := HG1.all
  replace HG2 := HG2.all
  replace HS3 := HS3.all
  refine wp_reg (by decide +kernel) ?_
  refine l_to (to_box (show _ = (Value.agg _) from rfl) ?_)
  rintro b2 w2 zb2 HB2 e2 z2
  have zs_e2 := e2.size
  replace E := E.trans (Ext.keep e2)
  replace HG1 := HG1.ext e2
  replace HG2 := HG2.ext e2
  replace HS3 := HS3.ext e2
  try simp only [Value.cells] at HB2
  refine l_to (to_box (show _ = (Value.agg _) from rfl) ?_)
  rintro b3 w3 zb3 HB3 e3 z3
  have zs_e3 := e3.size
  replace E := E.trans (Ext.keep e3)
  replace HG1 := HG1.ext e3
  replace HG2 := HG2.ext e3
  replace HS3 := HS3.ext e3
  replace HB2 := HB2.ext e3
  try simp only [Value.cells] at HB3
  refine l_v (v_assign rfl) ?_
  refine l_nil ?_
  refine n_then ?_
  refine c_seq ?_
  refine wp_reg (by decide +kernel) ?_
  refine l_v (v_loadA (by kernel_rfl) rfl (by first | exact HB3.pv | exact HB2.pv | assumption) rfl) ?_
  refine l_v (v_move (t := .slice _ _ _) rfl) ?_
  refine l_to (to_f2 (by kernel_rfl) (show _ = (Value.agg _) from rfl) (show _ = (Value.slice _ _ _) from rfl) (CallsR.mono (Union_c HG2 HS3) ?_))
  rintro _ w5 ⟨⟨x5, rfl, HG5⟩, e5⟩
  have zs_e5 := e5.size
  obtain ⟨a5, c5, rfl, HS5, he5⟩ := HG5.mp
  replace HS5 := HS5.all
  replace E := E.trans (Ext.keep e5)
  replace HG1 := HG1.ext e5
  replace HG2 := HG2.ext e5
  replace HS3 := HS3.ext e5
  replace HB2 := HB2.ext e5
  replace HB3 := HB3.ext e5
  refine l_v (v_move (t := .tuple _) rfl) ?_
  refine l_v (v_extract (t := .agg _) rfl rfl) ?_
  refine l_v (v_extract (t := .int _ _) rfl rfl) ?_
  refine l_to (to_alloc (z := (.agg #[.int .i64 0, .slice none 0 0])) (by unfold kZero; kernel_rfl) ?_)
  rintro b7 w7 zb7 HB7 e7 z7
  have zs_e7 := e7.size
  replace E := E.trans (Ext.keep e7)
  replace HG1 := HG1.ext e7
  replace HG2 := HG2.ext e7
  replace HS3 := HS3.ext e7
  replace HB2 := HB2.ext e7
  replace HB3 := HB3.ext e7
  replace HS5 := HS5.ext e7
  try simp only [Value.cells] at HB7
  have HG6 : AgV tMp w7 (fun b => b < b7) (.agg #[.int .i64 e, _]) (e, _) := AgV.mkMp (HS5.mono fun b _ h => by omega) he
  refine l_to (to_storeA (n := 2) rfl rfl (show _ = (Value.agg _) from rfl) (by kernel_rfl) rfl (by first | (simp [slice_one]; done) | (simp only [List.forall_mem_cons, List.cons_append, List.nil_append]; repeat' (first | exact rfl | apply And.intro | (intro u hu; cases hu; done)))) HB7 (by first | exact of_decide_eq_true rfl | (simp; done) | decide) ?_)
  rintro w101 HX101 k101 z101
  have zs_k101 := k101.size
  replace E := E.step k101 (by intro i hi he; (try dsimp only [NoK] at hi he ⊢); first | exact he.elim | omega | exact he)
  replace HG1 := HG1.keep k101 (by intro i _ hi he; (try dsimp only [NoK, AllB] at hi he); first | exact hi.elim | exact he.elim | omega | (rcases hi with hi | hi <;> omega) | (rcases he with he | he <;> omega))
  replace HG2 := HG2.keep k101 (by intro i _ hi he; (try dsimp only [NoK, AllB] at hi he); first | exact hi.elim | exact he.elim | omega | (rcases hi with hi | hi <;> omega) | (rcases he with he | he <;> omega))
  replace HS3 := HS3.keep k101 (by intro i _ hi he; (try dsimp only [NoK, AllB] at hi he); first | exact hi.elim | exact he.elim | omega | (rcases hi with hi | hi <;> omega) | (rcases he with he | he <;> omega))
  replace HB2 := HB2.keep k101 (by intro h; (try dsimp only at h); first | omega)
  replace HB3 := HB3.keep k101 (by intro h; (try dsimp only at h); first | omega)
  replace HG6 := HG6.keep k101 (by intro i _ hi he; (try dsimp only [NoK, AllB] at hi he); first | exact hi.elim | exact he.elim | omega | (rcases hi with hi | hi <;> omega) | (rcases he with he | he <;> omega))
  replace HB7 := HX101
  clear HX101
  try simp only [List.set_cons_zero, List.set_cons_succ, setAt, List.take_zero, List.take_succ_cons, List.drop_zero, List.drop_succ_cons, List.nil_append, List.cons_append, List.append_nil, List.length_cons, List.length_nil, Nat.zero_add, Nat.reduceAdd, List.drop_nil] at HB7
  refine l_v (v_assign (t := .int _ _) rfl) ?_
  refine l_nil ?_
  refine n_then ?_
  refine c_seq ?_
  refine wp_reg (by decide +kernel) ?_
  refine l_v (v_fieldAddr (off := 0) (ft := 2) (by kernel_rfl) rfl) ?_
  refine l_v (v_load (by kernel_rfl) rfl (by first | exact HB7.pv 0 _ rfl | exact HB3.pv 0 _ rfl | exact HB2.pv 0 _ rfl | assumption)) ?_
  refine l_v (v_fieldAddr (off := 0) (ft := 2) (by kernel_rfl) rfl) ?_
  refine l_to (to_store rfl rfl (show _ = (Value.int _ _) from rfl) rfl (by kernel_rfl) HB7 (by first | exact of_decide_eq_true rfl | (simp; done) | decide) ?_)
  rintro w102 HX102 k102 z102
  have zs_k102 := k102.size
  replace E := E.step k102 (by intro i hi he; (try dsimp only [NoK] at hi he ⊢); first | exact he.elim | omega | exact he)
  replace HG1 := HG1.keep k102 (by intro i _ hi he; (try dsimp only [NoK, AllB] at hi he); first | exact hi.elim | exact he.elim | omega | (rcases hi with hi | hi <;> omega) | (rcases he with he | he <;> omega))
  replace HG2 := HG2.keep k102 (by intro i _ hi he; (try dsimp only [NoK, AllB] at hi he); first | exact hi.elim | exact he.elim | omega | (rcases hi with hi | hi <;> omega) | (rcases he with he | he <;> omega))
  replace HS3 := HS3.keep k102 (by intro i _ hi he; (try dsimp only [NoK, AllB] at hi he); first | exact hi.elim | exact he.elim | omega | (rcases hi with hi | hi <;> omega) | (rcases he with he | he <;> omega))
  replace HB2 := HB2.keep k102 (by intro h; (try dsimp only at h); first | omega)
  replace HB3 := HB3.keep k102 (by intro h; (try dsimp only at h); first | omega)
  replace HG6 := HG6.keep k102 (by intro i _ hi he; (try dsimp only [NoK, AllB] at hi he); first | exact hi.elim | exact he.elim | omega | (rcases hi with hi | hi <;> omega) | (rcases he with he | he <;> omega))
  replace HB7 := HX102
  clear HX102
  try simp only [List.set_cons_zero, List.set_cons_succ, setAt, List.take_zero, List.take_succ_cons, List.drop_zero, List.drop_succ_cons, List.nil_append, List.cons_append, List.append_nil, List.length_cons, List.length_nil, Nat.zero_add, Nat.reduceAdd, List.drop_nil] at HB7
  refine l_nil ?_
  refine n_then ?_
  refine c_seq ?_
  refine wp_reg (by decide +kernel) ?_
  refine l_v (v_move (t := .int _ _) rfl) ?_
  refine l_to (to_f1 (by kernel_rfl) (show _ = (Value.int _ _) from rfl) (CallsR.mono (num_c) ?_))
  rintro _ w8 ⟨rfl, e8⟩
  have zs_e8 := e8.size
  replace E := E.trans (Ext.keep e8)
  replace HG1 := HG1.ext e8
  replace HG2 := HG2.ext e8
  replace HS3 := HS3.ext e8
  replace HB2 := HB2.ext e8
  replace HB3 := HB3.ext e8
  replace HB7 := HB7.ext e8
  replace HG6 := HG6.ext e8
  refine l_v (v_eql rfl rfl) ?_
  refine l_v (v_move (t := .bool _) rfl) ?_
  refine l_g1 rfl rfl (fun hG => v_loadA (by kernel_rfl) rfl (by first | exact HB7.pv | exact HB3.pv | exact HB2.pv | assumption) rfl) ?_
  refine l_g1 rfl rfl (fun hG => v_loadA (by kernel_rfl) rfl (by first | exact HB7.pv | exact HB3.pv | exact HB2.pv | assumption) rfl) ?_
  refine l_g1f rfl rfl (fun hG => to_f2 (by kernel_rfl) (gd hG rfl) (gd hG rfl) (refSame_c HG6 HG1)) ?_
  rintro w9 e9
  have zs_e9 := e9.size
  replace E := E.trans (Ext.keep e9)
  replace HG1 := HG1.ext e9
  replace HG2 := HG2.ext e9
  replace HS3 := HS3.ext e9
  replace HB2 := HB2.ext e9
  replace HB3 := HB3.ext e9
  replace HB7 := HB7.ext e9
  replace HG6 := HG6.ext e9
  refine l_v (v_and rfl rfl) ?_
  refine l_v (v_assign (t := .bool _) rfl) ?_
  refine l_nil ?_
  refine n_then ?_
  refine c_ret ?_
  refine ret1v rfl (by decide) (show _ = (Value.bool _) from rfl) ?_
  refine ⟨?_, E⟩
  all_goals (cases decide ((unionM (eo, os) k).2 = 0) <;> rfl)
theorem single_c {w : World} {F G : Nat → Prop} {v kv : Value} {m : MpV} {k : List UInt8} (HG1 : AgV tMp w F v m) (HS2 : Bv w G kv k) (hm : mayM m = true) : CallsR Try.prog 47 #[v, kv] w (fun r w' => r = .bool true ∧ Ext w w') := by
  obtain ⟨i0, hfo, hi0, hone⟩ := one_has hm k
  obtain ⟨e, rs⟩ := m
  obtain ⟨a, c, rfl, HSr, he⟩ := HG1.mp
  obtain ⟨a3, c3, rfl⟩ := HS2.shape
  simp only at HSr he hi0 hone
  have hmx := HSr.len_max
  refine enter 40 Try.func47 rfl rfl (by simp) ?_
  refine c_seq ?_
  have E := Keep.refl (K := NoK) w
  replace HG1 := HG1.all
  replace HS2 := HS2.all
  replace HSr := HSr.all
  refine wp_reg (by decide +kernel) ?_
  refine l_to (to_box (show _ = (Value.agg _) from rfl) ?_)
  rintro b2 w2 zb2 HB2 e2 z2
  have zs_e2 := e2.size
  replace E := E.trans (Ext.keep e2)
  replace HG1 := HG1.ext e2
  replace HS2 := HS2.ext e2
  replace HSr := HSr.ext e2
  try simp only [Value.cells] at HB2
  refine l_v (v_assign rfl) ?_
  refine l_nil ?_
  refine n_then ?_
  refine c_seq ?_
  refine wp_reg (by decide +kernel) ?_
  refine l_v (v_assign rfl) ?_
  refine l_v (v_assign rfl) ?_
  refine l_nil ?_
  refine n_then ?_
  refine c_seq ?_
  refine c_seq ?_
  refine wp_reg (by decide +kernel) ?_
  refine l_v (v_assign rfl) ?_
  refine l_nil ?_
  refine n_then ?_
  refine c_block ?_
  refine c_loop (τ := Nat) [5, 6, 7, 10, 11, 12, 13, 14, 15, 16, 17, 18, 19, 20, 21, 22, 23, 24, 25, 26] (fun i => [(5, .int .i64 (if i0 < i then 1 else 0)), (6, .int .i64 (if i0 < i then i0 else -1)), (7, .int .i64 i)]) (fun i W => Ext w W ∧ Keep (NoK) w2 W ∧ i ≤ rs.length) (fun i => rs.length - i) 0 (by exact ⟨rfl, rfl, rfl, trivial⟩) (by exact ⟨E, Keep.refl _, Nat.zero_le _⟩) ?_
  rintro i w101 j ⟨E, EL1, h1⟩
  have zs_EL1 := EL1.size
  replace HG1 := HG1.ext EL1
  replace HS2 := HS2.ext EL1
  replace HSr := HSr.ext EL1
  replace HB2 := HB2.ext EL1
  refine c_seq ?_
  refine c_seq ?_
  refine wp_reg (by decide +kernel) ?_
  refine l_v (v_move (t := .int _ _) rfl) ?_
  refine l_v (v_fieldAddr (off := 1) (ft := 22) (by kernel_rfl) rfl) ?_
  refine l_v (v_load (by kernel_rfl) rfl (by first | exact HB2.pv 1 _ rfl | assumption)) ?_
  refine l_v (v_len (et := 37) (by kernel_rfl) rfl) ?_
  refine l_v (v_lss rfl rfl) ?_
  refine l_nil ?_
  refine n_then ?_
  refine c_cond rfl rfl (fun hlt => ?_) (fun hlt => ?_)
  · skip
    have hlt := dtrue hlt
    obtain ⟨r, hx, hdr⟩ := getE (l := rs) (i := i) (by omega)
    obtain ⟨q1, cs1, rfl, hq1, _, HP1, hr1⟩ := HSr.el hx
    have HG5 : AgV tRg _ _ _ r := ⟨cs1, rfl, hr1⟩
    obtain ⟨b1, d1, b3, d3, rfl, _, _, _⟩ := tRg_cells hr1
    refine c_skip ?_
    refine n_then ?_
    refine c_seq ?_
    refine c_block ?_
    refine c_seq ?_
    refine wp_reg (by decide +kernel) ?_
    refine l_v (v_fieldAddr (off := 1) (ft := 22) (by kernel_rfl) rfl) ?_
    refine l_v (v_load (by kernel_rfl) rfl (by first | exact HP1 1 _ rfl | exact HB2.pv 1 _ rfl | assumption)) ?_
    refine l_v (v_move (t := .int _ _) rfl) ?_
    refine l_v (v_indexAddr (et := 37) (sz := 4) (k := i) (by kernel_rfl) (by kernel_rfl) rfl rfl (by first | rfl | omega) (by omega)) ?_
    refine l_v (v_loadA (by kernel_rfl) rfl (by first | exact HP1 | exact HB2.pv | assumption) rfl) ?_
    refine l_v (v_move (t := .slice _ _ _) rfl) ?_
    refine l_to (to_f2 (by kernel_rfl) (show _ = (Value.agg _) from rfl) (show _ = (Value.slice _ _ _) from rfl) (CallsR.mono (Has_c HG5 HS2) ?_))
    rintro _ w5 ⟨rfl, e5⟩
    have zs_e5 := e5.size
    replace E := E.trans (Ext.keep e5)
    replace HG1 := HG1.ext e5
    replace HS2 := HS2.ext e5
    replace HSr := HSr.ext e5
    replace HB2 := HB2.ext e5
    replace EL1 := EL1.trans (Ext.keep e5)
    replace HP1 := HP1.ext e5
    replace HG5 := HG5.ext e5
    refine l_nil ?_
    refine n_then ?_
    have hh := hone i r hx
    refine c_cond rfl rfl (fun h23 => ?_) (fun h23 => ?_)
    · skip
      have hi : i = i0 := by rw [hh] at h23; exact dtrue h23
      refine c_seq ?_
      refine wp_reg (by decide +kernel) ?_
      refine l_v (v_move (t := .int _ _) rfl) ?_
      refine l_v (v_add rfl rfl (by first | exact wr_i64 (by omega) (by omega) | rfl)) ?_
      refine l_v (v_assign (t := .int _ _) rfl) ?_
      refine l_nil ?_
      refine n_then ?_
      refine wp_reg (by decide +kernel) ?_
      refine l_v (v_move (t := .int _ _) rfl) ?_
      refine l_v (v_assign (t := .int _ _) rfl) ?_
      refine l_nil ?_
      refine n_blk ?_
      refine n_then ?_
      refine wp_reg (by decide +kernel) ?_
      refine l_v (v_move (t := .int _ _) rfl) ?_
      refine l_v (v_add rfl rfl (by first | exact wr_i64 (by omega) (by omega) | rfl)) ?_
      refine l_v (v_assign (t := .int _ _) rfl) ?_
      refine l_nil ?_
      refine n_then ?_
      refine ⟨i + 1, _, rfl, by (repeat (first | exact Off.of_over _ _ _ | refine Off.upd ?_ (by decide) _)), ⟨by first | rfl | exact congrArg (Value.int _) (by omega) | (simp; done), by first | rfl | exact congrArg (Value.int _) (by omega) | (simp; done), by first | rfl | exact congrArg (Value.int _) (by omega) | (simp; done), trivial⟩, ⟨E, EL1, ?_⟩, ?_⟩
      · skip
        exact (by omega)
      · (dsimp only; omega)
    · skip
      have hi : i ≠ i0 := by rw [hh] at h23; exact dfalse h23
      refine c_skip ?_
      refine n_blk ?_
      refine n_then ?_
      refine wp_reg (by decide +kernel) ?_
      refine l_v (v_move (t := .int _ _) rfl) ?_
      refine l_v (v_add rfl rfl (by first | exact wr_i64 (by omega) (by omega) | rfl)) ?_
      refine l_v (v_assign (t := .int _ _) rfl) ?_
      refine l_nil ?_
      refine n_then ?_
      refine ⟨i + 1, _, rfl, by (repeat (first | exact Off.of_over _ _ _ | refine Off.upd ?_ (by decide) _)), ⟨by first | rfl | exact congrArg (Value.int _) (by omega) | (simp; done), by first | rfl | exact congrArg (Value.int _) (by omega) | (simp; done), by first | rfl | exact congrArg (Value.int _) (by omega) | (simp; done), trivial⟩, ⟨E, EL1, ?_⟩, ?_⟩
      · skip
        exact (by omega)
      · (dsimp only; omega)
  · skip
    have hge : rs.length ≤ i := by have := dfalse hlt; omega
    have hii : i0 < i := by omega
    refine c_exit ?_
    refine x_then ?_
    refine x_then ?_
    refine x_hit ?_
    refine n_then ?_
    refine c_seq ?_
    refine wp_reg (by decide +kernel) ?_
    refine l_v (v_loadA (by kernel_rfl) rfl (by first | exact HB2.pv | assumption) rfl) ?_
    refine l_v (v_move (t := .slice _ _ _) rfl) ?_
    refine l_to (to_f2 (by kernel_rfl) (show _ = (Value.agg _) from rfl) (show _ = (Value.slice _ _ _) from rfl) (CallsR.mono (Find_c HG1 HS2) ?_))
    rintro _ w6 ⟨⟨x6, rfl, HG6⟩, e6⟩
    have zs_e6 := e6.size
    obtain ⟨a4, c4, d4, f4, rfl, HS4, HT4, hg4⟩ := HG6.rg
    replace E := E.trans (Ext.keep e6)
    replace HG1 := HG1.ext e6
    replace HS2 := HS2.ext e6
    replace HSr := HSr.ext e6
    replace HB2 := HB2.ext e6
    refine l_v (v_move (t := .tuple _) rfl) ?_
    refine l_v (v_extract (t := .agg _) rfl rfl) ?_
    refine l_v (v_extract (t := .int _ _) rfl rfl) ?_
    refine l_to (to_alloc (z := (.agg #[.slice none 0 0, .slice none 0 0, .bool false, .int .i64 0])) (by unfold kZero; kernel_rfl) ?_)
    rintro b8 w8 zb8 HB8 e8 z8
    have zs_e8 := e8.size
    replace E := E.trans (Ext.keep e8)
    replace HG1 := HG1.ext e8
    replace HS2 := HS2.ext e8
    replace HSr := HSr.ext e8
    replace HB2 := HB2.ext e8
    try simp only [Value.cells] at HB8
    refine l_to (to_storeA (n := 4) rfl rfl (show _ = (Value.agg _) from rfl) (by kernel_rfl) rfl (by first | (simp [slice_one]; done) | (simp only [List.forall_mem_cons, List.cons_append, List.nil_append]; repeat' (first | exact rfl | apply And.intro | (intro u hu; cases hu; done)))) HB8 (by first | exact of_decide_eq_true rfl | (simp; done) | decide) ?_)
    rintro w102 HX102 k102 z102
    have zs_k102 := k102.size
    replace E := E.step k102 (by intro i hi he; (try dsimp only [NoK] at hi he ⊢); first | exact he.elim | omega | exact he)
    replace HG1 := HG1.keep k102 (by intro i _ hi he; (try dsimp only [NoK, AllB] at hi he); first | exact hi.elim | exact he.elim | omega | (rcases hi with hi | hi <;> omega) | (rcases he with he | he <;> omega))
    replace HS2 := HS2.keep k102 (by intro i _ hi he; (try dsimp only [NoK, AllB] at hi he); first | exact hi.elim | exact he.elim | omega | (rcases hi with hi | hi <;> omega) | (rcases he with he | he <;> omega))
    replace HSr := HSr.keep k102 (by intro i _ hi he; (try dsimp only [NoK, AllB] at hi he); first | exact hi.elim | exact he.elim | omega | (rcases hi with hi | hi <;> omega) | (rcases he with he | he <;> omega))
    replace HB2 := HB2.keep k102 (by intro h; (try dsimp only at h); first | omega)
    replace HB8 := HX102
    clear HX102
    try simp only [List.set_cons_zero, List.set_cons_succ, setAt, List.take_zero, List.take_succ_cons, List.drop_zero, List.drop_succ_cons, List.nil_append, List.cons_append, List.append_nil, List.length_cons, List.length_nil, Nat.zero_add, Nat.reduceAdd, List.drop_nil] at HB8
    refine l_v (v_assign (t := .int _ _) rfl) ?_
    refine l_nil ?_
    refine n_then ?_
    refine c_seq ?_
    refine wp_reg (by decide +kernel) ?_
    refine l_v (v_move (t := .int _ _) rfl) ?_
    refine l_v (v_eql rfl rfl) ?_
    refine l_v (v_move (t := .bool _) rfl) ?_
    refine l_g1 rfl rfl (fun hG => v_move (t := .int _ _) rfl) ?_
    refine l_g1 rfl rfl (fun hG => v_move (t := .int _ _) rfl) ?_
    refine l_g1 rfl rfl (fun hG => v_eql (gd hG rfl) (gd hG rfl)) ?_
    refine l_v (v_and rfl rfl) ?_
    refine l_v (v_assign (t := .bool _) rfl) ?_
    refine l_nil ?_
    refine n_then ?_
    refine c_ret ?_
    refine ret1v rfl (by decide) (show _ = (Value.bool _) from rfl) ?_
    refine ⟨?_, E⟩
    rw [hfo, if_pos hii, if_pos hii]; simp [optI]
end Go.Proofs.Ytkaangdfpjkjpaa
