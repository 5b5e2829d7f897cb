/- A part of the proof: steps and lemmas for the walks through the given program. -/
import Derived.Test.YtkaangdfpjkjpaaR1
namespace Go.Proofs.Ytkaangdfpjkjpaa
open Go.Vc
set_option linter.unusedVariables false
set_option linter.unusedSimpArgs false
set_option maxRecDepth 100000

theorem mayM_head {e : Int} {r0 : RgV} {l : List RgV} (h : ((((decide (e < 1) || decide (2147483647 < e)) || decide (((r0 :: l).length : Int) < 1)) || decide (16 < ((r0 :: l).length : Int))) || decide (0 < (r0.1.length : Int))) = true) : mayM (e, r0 :: l) = false := by
  simp only [Bool.or_eq_true, decide_eq_true_eq] at h
  have : ¬ (1 ≤ e ∧ e ≤ 2147483647 ∧ 1 ≤ (r0 :: l).length ∧ (r0 :: l).length ≤ 16 ∧ r0.1 = []) := by
    rintro ⟨h1, h2, h3, h4, h5⟩
    rw [h5] at h
    simp only [List.length_nil] at h
    omega
  rw [← Bool.not_eq_true]
  intro hh
  simp only [mayM, Bool.and_eq_true, decide_eq_true_eq, List.headD_cons] at hh
  exact this ⟨hh.1.1.1.1.1, hh.1.1.1.1.2, hh.1.1.1.2, hh.1.1.2, List.isEmpty_iff.1 hh.1.2⟩
theorem mayM_head2 {e : Int} {r0 : RgV} {l : List RgV} (h : ((((decide (e < 1) || decide (2147483647 < e)) || decide (((r0 :: l).length : Int) < 1)) || decide (16 < ((r0 :: l).length : Int))) || decide (0 < (r0.1.length : Int))) = false) : mayM (e, r0 :: l) = mayL (r0 :: l) ∧ (r0 :: l).length ≤ 16 := by
  simp only [Bool.or_eq_false_iff, decide_eq_false_iff_not] at h
  have h5 : r0.1 = [] := List.eq_nil_of_length_eq_zero (by omega)
  have h1 : decide (1 ≤ e) = true := decide_eq_true (by omega)
  have h2 : decide (e ≤ 2147483647) = true := decide_eq_true (by omega)
  have h3 : decide (1 ≤ (r0 :: l).length) = true := decide_eq_true (by omega)
  have h4 : decide ((r0 :: l).length ≤ 16) = true := decide_eq_true (by omega)
  refine ⟨?_, by omega⟩
  unfold mayM
  simp only [List.headD_cons]
  rw [h1, h2, h3, h4, h5]; rfl
theorem mayM_nil {e : Int} : mayM (e, []) = false := by simp [mayM]

theorem May_c {w : World} {F : Nat → Prop} {v : Value} {e : Int} {rs : List RgV} (HG1 : AgV tMp w F v (e, rs)) : CallsR Try.prog 22 #[v] w (fun o w' => o = .bool (mayM (e, rs)) ∧ Ext w w') := by
  obtain ⟨a, c, rfl, HSr, he⟩ := HG1.mp
  simp only at HSr he
  have hmx := HSr.len_max
  rcases rs with _ | ⟨r0, l⟩
  · skip
    refine enter 93 Try.func22 rfl rfl (by simp) ?_
    refine c_seq ?_
    have E := Keep.refl (K := NoK) w
    replace HSr := HSr.all
    refine wp_reg (by decide +kernel) ?_
    refine l_to (to_box (show _ = (Value.agg _) from rfl) ?_)
    rintro b101 w101 zb101 HB101 e101 z101
    have zs_e101 := e101.size
    replace E := E.trans (Ext.keep e101)
    replace HSr := HSr.ext e101
    try simp only [Value.cells] at HB101
    refine l_v (v_assign rfl) ?_
    refine l_nil ?_
    refine n_then ?_
    refine c_seq ?_
    refine c_seq ?_
    refine wp_reg (by decide +kernel) ?_
    refine l_v (v_fieldAddr (off := 0) (ft := 2) (by kernel_rfl) rfl) ?_
    refine l_v (v_load (by kernel_rfl) rfl (by first | exact HB101.pv 0 _ rfl | assumption)) ?_
    refine l_v (v_lss rfl rfl) ?_
    refine l_v (v_move (t := .bool _) rfl) ?_
    refine l_g1 rfl rfl (fun hG => v_fieldAddr (off := 0) (ft := 2) (by kernel_rfl) rfl) ?_
    refine l_g1 rfl rfl (fun hG => v_load (by kernel_rfl) (gd hG rfl) (by first | exact HB101.pv 0 _ rfl | assumption)) ?_
    refine l_g1 rfl rfl (fun hG => v_gtr (gd hG rfl) rfl) ?_
    refine l_v (v_or rfl rfl) ?_
    refine l_v (v_move (t := .bool _) rfl) ?_
    refine l_g1 rfl rfl (fun hG => v_fieldAddr (off := 1) (ft := 22) (by kernel_rfl) rfl) ?_
    refine l_g1 rfl rfl (fun hG => v_load (by kernel_rfl) (gd hG rfl) (by first | exact HB101.pv 1 _ rfl | assumption)) ?_
    refine l_g1 rfl rfl (fun hG => v_len (et := 37) (by kernel_rfl) (gd hG rfl)) ?_
    refine l_g1 rfl rfl (fun hG => v_lss (gd hG rfl) rfl) ?_
    refine l_v (v_or rfl rfl) ?_
    refine l_v (v_move (t := .bool _) rfl) ?_
    refine l_g1 rfl rfl (fun hG => v_fieldAddr (off := 1) (ft := 22) (by kernel_rfl) rfl) ?_
    refine l_g1 rfl rfl (fun hG => v_load (by kernel_rfl) (gd hG rfl) (by first | exact HB101.pv 1 _ rfl | assumption)) ?_
    refine l_g1 rfl rfl (fun hG => v_len (et := 37) (by kernel_rfl) (gd hG rfl)) ?_
    refine l_g1 rfl rfl (fun hG => v_gtr (gd hG rfl) rfl) ?_
    refine l_v (v_or rfl rfl) ?_
    refine l_v (v_move (t := .bool _) rfl) ?_
    refine l_g1 rfl rfl (fun hG => v_fieldAddr (off := 1) (ft := 22) (by kernel_rfl) rfl) ?_
    refine l_g1 rfl rfl (fun hG => v_load (by kernel_rfl) (gd hG rfl) (by first | exact HB101.pv 1 _ rfl | assumption)) ?_
    refine l_g1 rfl rfl (fun hG => show OpVat _ _ _ _ (undef) from False.elim ((by simp at hG))) ?_
    refine l_g1 rfl rfl (fun hG => show OpVat _ _ _ _ (undef) from False.elim ((by simp at hG))) ?_
    refine l_g1 rfl rfl (fun hG => show OpVat _ _ _ _ (undef) from False.elim ((by simp at hG))) ?_
    refine l_g1 rfl rfl (fun hG => show OpVat _ _ _ _ (undef) from False.elim ((by simp at hG))) ?_
    refine l_g1 rfl rfl (fun hG => show OpVat _ _ _ _ (.bool true) from False.elim ((by simp at hG))) ?_
    refine l_v (v_or rfl rfl) ?_
    refine l_nil ?_
    refine n_then ?_
    refine c_cond rfl rfl (fun hc => ?_) (fun hc => ?_)
    · skip
      refine c_seq ?_
      refine wp_reg (by decide +kernel) ?_
      refine l_v (v_assign rfl) ?_
      refine l_nil ?_
      refine n_then ?_
      refine c_ret ?_
      refine r_then ?_
      refine ret1v rfl (by decide) (show _ = (Value.bool _) from rfl) ?_
      exact ⟨by rw [mayM_nil], E⟩
    · skip
      simp at hc
  · replace HSr := HSr.all
    obtain ⟨q0, cs0, rfl, hq0, _, HP0, hr0⟩ := HSr.el (k := 0) rfl
    obtain ⟨b1, d1, b2, d2, rfl, HSf0, HSt0, hg0⟩ := tRg_cells hr0
    obtain ⟨rs, hrs⟩ : ∃ x, x = r0 :: l := ⟨_, rfl⟩
    refine enter 93 Try.func22 rfl rfl (by simp) ?_
    refine c_seq ?_
    have E := Keep.refl (K := NoK) w
    replace HSr := HSr.all
    refine wp_reg (by decide +kernel) ?_
    refine l_to (to_box (show _ = (Value.agg _) from rfl) ?_)
    rintro b101 w101 zb101 HB101 e101 z101
    have zs_e101 := e101.size
    replace E := E.trans (Ext.keep e101)
    replace HSr := HSr.ext e101
    replace HP0 := HP0.ext e101
    try simp only [Value.cells] at HB101
    refine l_v (v_assign rfl) ?_
    refine l_nil ?_
    refine n_then ?_
    refine c_seq ?_
    refine c_seq ?_
    refine wp_reg (by decide +kernel) ?_
    refine l_v (v_fieldAddr (off := 0) (ft := 2) (by kernel_rfl) rfl) ?_
    refine l_v (v_load (by kernel_rfl) rfl (by first | exact HB101.pv 0 _ rfl | exact HP0 0 _ rfl | assumption)) ?_
    refine l_v (v_lss rfl rfl) ?_
    refine l_v (v_move (t := .bool _) rfl) ?_
    refine l_g1 rfl rfl (fun hG => v_fieldAddr (off := 0) (ft := 2) (by kernel_rfl) rfl) ?_
    refine l_g1 rfl rfl (fun hG => v_load (by kernel_rfl) (gd hG rfl) (by first | exact HB101.pv 0 _ rfl | exact HP0 0 _ rfl | assumption)) ?_
    refine l_g1 rfl rfl (fun hG => v_gtr (gd hG rfl) rfl) ?_
    refine l_v (v_or rfl rfl) ?_
    refine l_v (v_move (t := .bool _) rfl) ?_
    refine l_g1 rfl rfl (fun hG => v_fieldAddr (off := 1) (ft := 22) (by kernel_rfl) rfl) ?_
    refine l_g1 rfl rfl (fun hG => v_load (by kernel_rfl) (gd hG rfl) (by first | exact HB101.pv 1 _ rfl | exact HP0 1 _ rfl | assumption)) ?_
    refine l_g1 rfl rfl (fun hG => v_len (et := 37) (by kernel_rfl) (gd hG rfl)) ?_
    refine l_g1 rfl rfl (fun hG => v_lss (gd hG rfl) rfl) ?_
    refine l_v (v_or rfl rfl) ?_
    refine l_v (v_move (t := .bool _) rfl) ?_
    refine l_g1 rfl rfl (fun hG => v_fieldAddr (off := 1) (ft := 22) (by kernel_rfl) rfl) ?_
    refine l_g1 rfl rfl (fun hG => v_load (by kernel_rfl) (gd hG rfl) (by first | exact HB101.pv 1 _ rfl | exact HP0 1 _ rfl | assumption)) ?_
    refine l_g1 rfl rfl (fun hG => v_len (et := 37) (by kernel_rfl) (gd hG rfl)) ?_
    refine l_g1 rfl rfl (fun hG => v_gtr (gd hG rfl) rfl) ?_
    refine l_v (v_or rfl rfl) ?_
    refine l_v (v_move (t := .bool _) rfl) ?_
    refine l_g1 rfl rfl (fun hG => v_fieldAddr (off := 1) (ft := 22) (by kernel_rfl) rfl) ?_
    refine l_g1 rfl rfl (fun hG => v_load (by kernel_rfl) (gd hG rfl) (by first | exact HB101.pv 1 _ rfl | exact HP0 1 _ rfl | assumption)) ?_
    refine l_g1 rfl rfl (fun hG => v_indexAddr (et := 37) (sz := 4) (k := 0) (by kernel_rfl) (by kernel_rfl) (gd hG rfl) rfl (by first | rfl | omega) (by simp)) ?_
    refine l_g1 rfl rfl (fun hG => v_fieldAddr (off := 0) (ft := 35) (by kernel_rfl) (gd hG rfl)) ?_
    refine l_g1 rfl rfl (fun hG => v_load (by kernel_rfl) (gd hG rfl) (by first | exact HB101.pv 0 _ rfl | exact HP0 0 _ rfl | assumption)) ?_
    refine l_g1 rfl rfl (fun hG => v_len (et := 5) (by kernel_rfl) (gd hG rfl)) ?_
    refine l_g1 rfl rfl (fun hG => v_gtr (gd hG rfl) rfl) ?_
    refine l_v (v_or rfl rfl) ?_
    refine l_nil ?_
    refine n_then ?_
    refine c_cond rfl rfl (fun hc => ?_) (fun hc => ?_)
    · skip
      refine c_seq ?_
      refine wp_reg (by decide +kernel) ?_
      refine l_v (v_assign rfl) ?_
      refine l_nil ?_
      refine n_then ?_
      refine c_ret ?_
      refine r_then ?_
      refine ret1v rfl (by decide) (show _ = (Value.bool _) from rfl) ?_
      exact ⟨by rw [mayM_head hc], E⟩
    · skip
      obtain ⟨hm, h16⟩ := mayM_head2 hc
      rw [← hrs] at *
      refine c_skip ?_
      refine n_then ?_
      refine c_seq ?_
      refine c_seq ?_
      refine wp_reg (by decide +kernel) ?_
      refine l_v (v_fieldAddr (off := 1) (ft := 22) (by kernel_rfl) rfl) ?_
      refine l_v (v_load (by kernel_rfl) rfl (by first | exact HB101.pv 1 _ rfl | assumption)) ?_
      refine l_v (v_len (et := 37) (by kernel_rfl) rfl) ?_
      refine l_v (v_move rfl) ?_
      refine l_nil ?_
      refine n_then ?_
      refine c_block ?_
      refine c_loop (τ := Nat) [2, 3, 4, 5, 38, 39, 40, 41, 42, 43, 44, 45, 46, 47, 48, 49, 50, 51, 52, 53, 54, 55, 56, 57, 58, 59, 60, 61, 62, 63, 64, 65, 66, 67, 68, 69, 70, 71, 72, 73, 74, 75, 76, 77, 78, 79, 80, 81, 82, 83, 84, 85, 86, 87, 88, 89, 90, 91, 92] (fun i => [(38, .int .i64 i)]) (fun i W => Ext w W ∧ Keep (NoK) w101 W ∧ i ≤ rs.length ∧ mayL rs = mayL (rs.drop i)) (fun i => rs.length - i) 0 (by exact ⟨rfl, trivial⟩) (by exact ⟨E, Keep.refl _, Nat.zero_le _, by rw [List.drop_zero]⟩) ?_
      rintro i w102 j ⟨E, EL1, h1, h2⟩
      have zs_EL1 := EL1.size
      replace HSr := HSr.ext EL1
      replace HB101 := HB101.ext EL1
      refine c_seq ?_
      refine wp_reg (by decide +kernel) ?_
      refine l_v (v_lss rfl rfl) ?_
      refine l_nil ?_
      refine n_then ?_
      refine c_seq ?_
      refine c_cond rfl rfl (fun hlt => ?_) (fun hlt => ?_)
      · skip
        have hlt := dtrue hlt
        obtain ⟨r, hx, hdr⟩ := getE (l := rs) (i := i) (by omega)
        rw [hdr] at h2
        refine c_skip ?_
        refine n_then ?_
        refine c_seq ?_
        refine c_block ?_
        refine c_seq ?_
        refine wp_reg (by decide +kernel) ?_
        refine l_v (v_move (t := .int _ _) rfl) ?_
        refine l_to (to_index (et := 37) (by kernel_rfl) (by kernel_rfl) (show _ = (Value.slice _ _ _) from rfl) HSr (show _ = (Value.int _ _) from rfl) rfl hx ?_)
        rintro q cs hF HPq hr
        obtain ⟨a1, c1, a2, c2, rfl, HSf, HSt, hg⟩ := tRg_cells hr
        refine l_v (v_loadA (by kernel_rfl) rfl (by first | exact HPq | exact HB101.pv | assumption) rfl) ?_
        refine l_to (to_alloc (z := .agg #[.slice none 0 0, .slice none 0 0, .bool false, .int .i64 0]) (by unfold kZero; kernel_rfl) ?_)
        rintro b103 w103 zb103 HB103 e103 z103
        have zs_e103 := e103.size
        replace E := E.trans (Ext.keep e103)
        replace HSr := HSr.ext e103
        replace HB101 := HB101.ext e103
        replace EL1 := EL1.trans (Ext.keep e103)
        replace HPq := HPq.ext e103
        replace HSf := HSf.ext e103
        replace HSt := HSt.ext e103
        try simp only [Value.cells] at HB103
        refine l_v (v_assign (t := .int _ _) rfl) ?_
        refine l_to (to_storeA (n := 4) rfl rfl (show _ = (Value.agg _) from rfl) (by kernel_rfl) rfl (by first | (simp [slice_one]; done) | (simp only [List.forall_mem_cons, List.cons_append, List.nil_append]; repeat' (first | exact rfl | apply And.intro | (intro u hu; cases hu; done)))) HB103 (by first | exact of_decide_eq_true rfl | (simp; done) | decide) ?_)
        rintro w104 HX104 k104 z104
        have zs_k104 := k104.size
        replace E := E.step k104 (by intro i hi he; have he0 := he; have hi := hi; have he := he; (try dsimp only [NoK] at hi he ⊢); (try simp only [Value.ownBlock, Option.some.injEq] at he); first | exact he.elim | omega | exact he)
        replace HSr := HSr.keep k104 (by first | exact fun h => h | (intro h; have he0 := h; have h := h; (try dsimp only at h); (try simp only [Value.ownBlock, Option.some.injEq] at h); (try simp only [add_block] at h); (try simp only [add_block] at he0); first | omega) | (intro i _ hi he; have he0 := he; have hi := hi; have he := he; (try dsimp only [NoK, AllB] at hi he); (try simp only [Value.ownBlock, Option.some.injEq] at he); first | exact hi.elim | exact he.elim | omega | (rcases hi with hi | hi <;> omega) | (rcases he with he | he <;> omega)))
        replace HB101 := HB101.keep k104 (by first | exact fun h => h | (intro h; have he0 := h; have h := h; (try dsimp only at h); (try simp only [Value.ownBlock, Option.some.injEq] at h); (try simp only [add_block] at h); (try simp only [add_block] at he0); first | omega) | (intro i _ hi he; have he0 := he; have hi := hi; have he := he; (try dsimp only [NoK, AllB] at hi he); (try simp only [Value.ownBlock, Option.some.injEq] at he); first | exact hi.elim | exact he.elim | omega | (rcases hi with hi | hi <;> omega) | (rcases he with he | he <;> omega)))
        replace EL1 := EL1.step k104 (by intro i hi he; have he0 := he; have hi := hi; have he := he; (try dsimp only [NoK] at hi he ⊢); (try simp only [Value.ownBlock, Option.some.injEq] at he); first | exact he.elim | omega | exact he)
        replace HPq := HPq.keep k104 (by first | exact fun h => h | (intro h; have he0 := h; have h := h; (try dsimp only at h); (try simp only [Value.ownBlock, Option.some.injEq] at h); (try simp only [add_block] at h); (try simp only [add_block] at he0); first | omega) | (intro i _ hi he; have he0 := he; have hi := hi; have he := he; (try dsimp only [NoK, AllB] at hi he); (try simp only [Value.ownBlock, Option.some.injEq] at he); first | exact hi.elim | exact he.elim | omega | (rcases hi with hi | hi <;> omega) | (rcases he with he | he <;> omega)))
        replace HSf := HSf.keep k104 (by first | exact fun h => h | (intro h; have he0 := h; have h := h; (try dsimp only at h); (try simp only [Value.ownBlock, Option.some.injEq] at h); (try simp only [add_block] at h); (try simp only [add_block] at he0); first | omega) | (intro i _ hi he; have he0 := he; have hi := hi; have he := he; (try dsimp only [NoK, AllB] at hi he); (try simp only [Value.ownBlock, Option.some.injEq] at he); first | exact hi.elim | exact he.elim | omega | (rcases hi with hi | hi <;> omega) | (rcases he with he | he <;> omega)))
        replace HSt := HSt.keep k104 (by first | exact fun h => h | (intro h; have he0 := h; have h := h; (try dsimp only at h); (try simp only [Value.ownBlock, Option.some.injEq] at h); (try simp only [add_block] at h); (try simp only [add_block] at he0); first | omega) | (intro i _ hi he; have he0 := he; have hi := hi; have he := he; (try dsimp only [NoK, AllB] at hi he); (try simp only [Value.ownBlock, Option.some.injEq] at he); first | exact hi.elim | exact he.elim | omega | (rcases hi with hi | hi <;> omega) | (rcases he with he | he <;> omega)))
        replace HB103 := HX104
        clear HX104
        try simp only [List.set_cons_zero, List.set_cons_succ, setAt, List.take_zero, List.take_succ_cons, List.drop_zero, List.drop_succ_cons, List.nil_append, List.cons_append, List.append_nil, List.length_cons, List.length_nil, Nat.zero_add, Nat.reduceAdd, List.drop_nil] at HB103
        refine l_nil ?_
        refine n_then ?_
        refine c_seq ?_
        refine wp_reg (by decide +kernel) ?_
        refine l_v (v_move (t := .int _ _) rfl) ?_
        refine l_v (v_fieldAddr (off := 1) (ft := 22) (by kernel_rfl) rfl) ?_
        refine l_v (v_load (by kernel_rfl) rfl (by first | exact HB103.pv 1 _ rfl | exact HPq 1 _ rfl | exact HB101.pv 1 _ rfl | assumption)) ?_
        refine l_v (v_len (et := 37) (by kernel_rfl) rfl) ?_
        refine l_v (v_sub rfl rfl (by first | exact wr_i64 (by omega) (by omega) | rfl)) ?_
        refine l_v (v_eql rfl rfl) ?_
        refine l_v (v_assign (t := .bool _) rfl) ?_
        refine l_nil ?_
        refine n_then ?_
        refine c_block ?_
        refine c_seq ?_
        refine wp_reg (by decide +kernel) ?_
        refine l_v (v_fieldAddr (off := 3) (ft := 3) (by kernel_rfl) rfl) ?_
        refine l_v (v_load (by kernel_rfl) rfl (by first | exact HB103.pv 3 _ rfl | exact HPq 3 _ rfl | exact HB101.pv 3 _ rfl | assumption)) ?_
        refine l_to (to_f1 (by kernel_rfl) (show _ = (Value.int _ _) from rfl) (CallsR.mono (group_c) ?_))
        rintro _ w105 ⟨rfl, e105⟩
        have zs_e105 := e105.size
        replace E := E.trans (Ext.keep e105)
        replace HSr := HSr.ext e105
        replace HB101 := HB101.ext e105
        replace EL1 := EL1.trans (Ext.keep e105)
        replace HPq := HPq.ext e105
        replace HSf := HSf.ext e105
        replace HSt := HSt.ext e105
        replace HB103 := HB103.ext e105
        have hlast : decide ((i : Int) = (rs.length : Int) - 1) = decide (rs.drop (i + 1) = []) := decide_eq_decide.2 (by rw [List.drop_eq_nil_iff]; omega)
        rw [hlast]
        refine l_v (v_not rfl) ?_
        refine l_v (v_move (t := .bool _) rfl) ?_
        refine l_g1 rfl rfl (fun hG => v_fieldAddr (off := 2) (ft := 4) (by kernel_rfl) rfl) ?_
        refine l_g1 rfl rfl (fun hG => v_load (by kernel_rfl) (gd hG rfl) (by first | exact HB103.pv 2 _ rfl | exact HPq 2 _ rfl | exact HB101.pv 2 _ rfl | assumption)) ?_
        refine l_g1 rfl rfl (fun hG => v_move (t := .bool _) rfl) ?_
        refine l_g1 rfl rfl (fun hG => v_beql (by kernel_rfl) (gd hG rfl) (gd hG rfl)) ?_
        refine l_v (v_or rfl rfl) ?_
        refine l_v (v_assign (t := .bool _) rfl) ?_
        refine l_nil ?_
        refine n_then ?_
        refine c_cond rfl rfl (fun h49 => ?_) (fun h49 => ?_)
        · skip
          refine c_seq ?_
          refine wp_reg (by decide +kernel) ?_
          refine l_v (v_assign rfl) ?_
          refine l_nil ?_
          refine n_then ?_
          refine c_ret ?_
          refine r_blk ?_
          refine r_blk ?_
          refine r_then ?_
          refine r_then ?_
          refine r_blk ?_
          refine r_then ?_
          refine ret1v rfl (by decide) (show _ = (Value.bool _) from rfl) ?_
          refine ⟨?_, E⟩
          rw [hm, h2]
          cases hd : rs.drop (i + 1) with
          | nil => rw [hd] at h49; revert h49; simp only [mayL]; cases grpB r.2.2.2 <;> cases r.2.2.1 <;> simp
          | cons s l2 => rw [hd] at h49; revert h49; simp only [mayL]; cases grpB r.2.2.2 <;> cases r.2.2.1 <;> simp
        · skip
          refine c_seq ?_
          refine wp_reg (by decide +kernel) ?_
          refine l_v (v_move (t := .bool _) rfl) ?_
          refine l_v (v_assign (t := .bool _) rfl) ?_
          refine l_nil ?_
          refine n_then ?_
          refine c_cond rfl rfl (fun hl => ?_) (fun hl => ?_)
          · skip
            refine c_seq ?_
            refine wp_reg (by decide +kernel) ?_
            refine l_v (v_fieldAddr (off := 1) (ft := 35) (by kernel_rfl) rfl) ?_
            refine l_v (v_load (by kernel_rfl) rfl (by first | exact HB103.pv 1 _ rfl | exact HPq 1 _ rfl | exact HB101.pv 1 _ rfl | assumption)) ?_
            refine l_v (v_len (et := 5) (by kernel_rfl) rfl) ?_
            refine l_v (v_eql rfl rfl) ?_
            refine l_v (v_assign (t := .bool _) rfl) ?_
            refine l_nil ?_
            refine n_then ?_
            refine c_ret ?_
            refine r_blk ?_
            refine r_blk ?_
            refine r_then ?_
            refine r_then ?_
            refine r_blk ?_
            refine r_then ?_
            refine ret1v rfl (by decide) (show _ = (Value.bool _) from rfl) ?_
            refine ⟨?_, E⟩
            have hd := dtrue hl
            rw [hd] at h49 h2
            rw [hm, h2]
            rw [isE_len]
            revert h49
            simp only [mayL]
            cases grpB r.2.2.2 <;> cases r.2.2.1 <;> simp
          · skip
            have hnl := dfalse hl
            have hlt2 : i + 1 < rs.length := by rw [List.drop_eq_nil_iff] at hnl; omega
            obtain ⟨s, hx2, hds⟩ := getE (l := rs) (i := i + 1) hlt2
            obtain ⟨q1, cs1, hq1, hF1, _, HPs, hrs1⟩ := HSr.el hx2
            cases hq1
            obtain ⟨a3, c3, a4, c4, rfl, HSsf, HSst, hgs⟩ := tRg_cells hrs1
            replace HSsf := HSsf.all
            refine c_seq ?_
            refine wp_regd (NoK) (by kernel_rfl) (by decide +kernel) (by decide +kernel) ?_
            refine rt_v (fun vals w hR hd => v_fieldAddr (off := 1) (ft := 35) (by kernel_rfl) rfl) ?_
            refine rt_v (fun vals w hR hd => v_load (by kernel_rfl) (hd 0 rfl) (by first | exact (HPs.ext hR) 1 _ rfl | exact (HB103.ext hR).pv 1 _ rfl | exact (HPq.ext hR) 1 _ rfl | exact (HB101.ext hR).pv 1 _ rfl | assumption)) ?_
            refine rt_v (fun vals w hR hd => v_len (et := 5) (by kernel_rfl) (hd 1 rfl)) ?_
            refine rt_v (fun vals w hR hd => v_gtr (hd 2 rfl) rfl) ?_
            refine rt_v (fun vals w hR hd => v_move (t := .bool _) (hd 3 rfl)) ?_
            refine rt_g1 rfl (fun vals w hd => hd 4 rfl) (fun vals w hR hd hG => v_fieldAddr (off := 0) (ft := 35) (by kernel_rfl) rfl) ?_
            refine rt_g1 rfl (fun vals w hd => hd 4 rfl) (fun vals w hR hd hG => v_load (by kernel_rfl) (gd hG (hd 5 rfl)) (by first | exact (HPs.ext hR) 0 _ rfl | exact (HB103.ext hR).pv 0 _ rfl | exact (HPq.ext hR) 0 _ rfl | exact (HB101.ext hR).pv 0 _ rfl | assumption)) ?_
            refine rt_g1 rfl (fun vals w hd => hd 4 rfl) (fun vals w hR hd hG => v_fieldAddr (off := 1) (ft := 35) (by kernel_rfl) rfl) ?_
            refine rt_g1 rfl (fun vals w hd => hd 4 rfl) (fun vals w hR hd hG => v_load (by kernel_rfl) (gd hG (hd 7 rfl)) (by first | exact (HPs.ext hR) 1 _ rfl | exact (HB103.ext hR).pv 1 _ rfl | exact (HPq.ext hR) 1 _ rfl | exact (HB101.ext hR).pv 1 _ rfl | assumption)) ?_
            refine rt_g1f rfl (fun vals w hd => hd 4 rfl) (fun vals w hR hd hG => to_f2 (by kernel_rfl) (gd hG (hd 6 rfl)) (gd hG (hd 8 rfl)) (Compare_c (HSf.ext hR) (HSt.ext hR))) ?_
            refine rt_g1 rfl (fun vals w hd => hd 4 rfl) (fun vals w hR hd hG => v_geq (gd hG (hd 9 rfl)) rfl) ?_
            refine rt_v (fun vals w hR hd => v_or (hd 4 rfl) (hd 10 rfl)) ?_
            refine rt_v (fun vals w hR hd => v_move (t := .bool _) (hd 11 rfl)) ?_
            refine rt_g1 rfl (fun vals w hd => hd 12 rfl) (fun vals w hR hd hG => v_fieldAddr (off := 1) (ft := 35) (by kernel_rfl) rfl) ?_
            refine rt_g1 rfl (fun vals w hd => hd 12 rfl) (fun vals w hR hd hG => v_load (by kernel_rfl) (gd hG (hd 13 rfl)) (by first | exact (HPs.ext hR) 1 _ rfl | exact (HB103.ext hR).pv 1 _ rfl | exact (HPq.ext hR) 1 _ rfl | exact (HB101.ext hR).pv 1 _ rfl | assumption)) ?_
            refine rt_g1 rfl (fun vals w hd => hd 12 rfl) (fun vals w hR hd hG => v_fieldAddr (off := 1) (ft := 22) (by kernel_rfl) rfl) ?_
            refine rt_g1 rfl (fun vals w hd => hd 12 rfl) (fun vals w hR hd hG => v_load (by kernel_rfl) (gd hG (hd 15 rfl)) (by first | exact (HPs.ext hR) 1 _ rfl | exact (HB103.ext hR).pv 1 _ rfl | exact (HPq.ext hR) 1 _ rfl | exact (HB101.ext hR).pv 1 _ rfl | assumption)) ?_
            refine rt_g1 rfl (fun vals w hd => hd 12 rfl) (fun vals w hR hd hG => v_move (t := .int _ _) rfl) ?_
            refine rt_g1 rfl (fun vals w hd => hd 12 rfl) (fun vals w hR hd hG => v_add (gd hG (hd 17 rfl)) rfl (by first | exact wr_i64 (by omega) (by omega) | rfl)) ?_
            refine rt_g1 rfl (fun vals w hd => hd 12 rfl) (fun vals w hR hd hG => v_indexAddr (et := 37) (sz := 4) (k := i + 1) (by kernel_rfl) (by kernel_rfl) (gd hG (hd 16 rfl)) (gd hG (hd 18 rfl)) (by first | rfl | omega) (hlt2)) ?_
            refine rt_g1 rfl (fun vals w hd => hd 12 rfl) (fun vals w hR hd hG => v_fieldAddr (off := 0) (ft := 35) (by kernel_rfl) (gd hG (hd 19 rfl))) ?_
            refine rt_g1 rfl (fun vals w hd => hd 12 rfl) (fun vals w hR hd hG => v_load (by kernel_rfl) (gd hG (hd 20 rfl)) (by first | exact (HPs.ext hR) 0 _ rfl | exact (HB103.ext hR).pv 0 _ rfl | exact (HPq.ext hR) 0 _ rfl | exact (HB101.ext hR).pv 0 _ rfl | assumption)) ?_
            refine rt_g1f rfl (fun vals w hd => hd 12 rfl) (fun vals w hR hd hG => to_f2 (by kernel_rfl) (gd hG (hd 14 rfl)) (gd hG (hd 21 rfl)) (Equal_c (HSt.ext hR) (HSsf.ext hR))) ?_
            refine rt_g1 rfl (fun vals w hd => hd 12 rfl) (fun vals w hR hd hG => v_not (gd hG (hd 22 rfl))) ?_
            refine rt_v (fun vals w hR hd => v_or (hd 12 rfl) (hd 23 rfl)) ?_
            refine rt_v (fun vals w hR hd => v_assign (t := .bool _) (hd 24 rfl)) ?_
            refine rt_nil (fun w106 e106 => ?_)
            rintro _ rfl _ rfl _ rfl _ rfl _ rfl _ rfl _ rfl _ rfl _ rfl _ rfl _ rfl _ rfl _ rfl _ rfl _ rfl _ rfl _ rfl _ rfl _ rfl _ rfl _ rfl _ rfl _ rfl _ rfl _ rfl _ rfl
            have zs_e106 := e106.size
            replace E := E.trans (Ext.keep e106)
            replace HSr := HSr.ext e106
            replace HB101 := HB101.ext e106
            replace EL1 := EL1.trans (Ext.keep e106)
            replace HPq := HPq.ext e106
            replace HSf := HSf.ext e106
            replace HSt := HSt.ext e106
            replace HB103 := HB103.ext e106
            replace HPs := HPs.ext e106
            replace HSsf := HSsf.ext e106
            refine fin_nil ?_
            refine n_then ?_
            refine c_cond rfl rfl (fun h66 => ?_) (fun h66 => ?_)
            · skip
              refine c_seq ?_
              refine wp_reg (by decide +kernel) ?_
              refine l_v (v_assign rfl) ?_
              refine l_nil ?_
              refine n_then ?_
              refine c_ret ?_
              refine r_blk ?_
              refine r_blk ?_
              refine r_then ?_
              refine r_then ?_
              refine r_blk ?_
              refine r_then ?_
              refine ret1v rfl (by decide) (show _ = (Value.bool _) from rfl) ?_
              refine ⟨?_, E⟩
              rw [hds] at h49 h2
              rw [hm, h2]
              have e1 : decide (24 < (r.2.1.length : Int)) = !decide (r.2.1.length ≤ 24) := by rw [← decide_not]; exact decide_eq_decide.2 (by omega)
              rw [e1, d_cmp_ge] at h66
              revert h49 h66
              simp only [mayL]
              cases grpB r.2.2.2 <;> cases r.2.2.1 <;> cases decide (r.2.1.length ≤ 24) <;> cases decide (r.1 < r.2.1) <;> cases decide (r.2.1 = s.1) <;> simp
            · skip
              refine c_skip ?_
              refine n_blk ?_
              refine n_blk ?_
              refine n_then ?_
              refine wp_reg (by decide +kernel) ?_
              refine l_v (v_add rfl rfl (by first | exact wr_i64 (by omega) (by omega) | rfl)) ?_
              refine l_v (v_move (t := .int _ _) rfl) ?_
              refine l_nil ?_
              refine n_then ?_
              refine ⟨i + 1, _, rfl, by (repeat (first | exact Off.of_over _ _ _ | refine Off.upd ?_ (by decide) _)), ⟨by first | rfl | exact congrArg (Value.int _) (by omega) | (simp; done), trivial⟩, ⟨E, EL1, ?_⟩, ?_⟩
              · skip
                refine ⟨by omega, ?_⟩
                rw [hds] at h49 h2 ⊢
                have e1 : decide (24 < (r.2.1.length : Int)) = !decide (r.2.1.length ≤ 24) := by rw [← decide_not]; exact decide_eq_decide.2 (by omega)
                rw [e1, d_cmp_ge] at h66
                rw [h2]
                revert h49 h66
                simp only [mayL]
                cases grpB r.2.2.2 <;> cases r.2.2.1 <;> cases decide (r.2.1.length ≤ 24) <;> cases decide (r.1 < r.2.1) <;> cases decide (r.2.1 = s.1) <;> simp
              · (dsimp only; omega)
      · skip
        refine c_exit ?_
        refine x_then ?_
        refine x_then ?_
        refine x_hit ?_
        refine n_then ?_
        refine c_seq ?_
        refine wp_reg (by decide +kernel) ?_
        refine l_v (v_assign rfl) ?_
        refine l_nil ?_
        refine n_then ?_
        refine c_ret ?_
        refine ret1v rfl (by decide) (show _ = (Value.bool _) from rfl) ?_
        refine ⟨?_, E⟩
        have h := dfalse hlt
        rw [hm, h2, List.drop_eq_nil_of_le (by omega)]; rfl
end Go.Proofs.Ytkaangdfpjkjpaa
