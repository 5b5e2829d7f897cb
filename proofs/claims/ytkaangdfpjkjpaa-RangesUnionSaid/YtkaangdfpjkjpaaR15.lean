/- A part of the proof: steps and lemmas for the walks through the given program. -/
import Derived.Test.YtkaangdfpjkjpaaR13
namespace Go.Proofs.Ytkaangdfpjkjpaa
open Go.Vc
set_option linter.unusedVariables false
set_option linter.unusedSimpArgs false
set_option maxRecDepth 100000

theorem ltl_nil {x y : List UInt8} (h : y.length < 1) : ¬ x < y := by
  have : y = [] := List.eq_nil_of_length_eq_zero (by omega)
  subst this; simp
def refA (r : RgV) (b : Bool) : Bool := decide (r.2.2.2 < 1) || decide (5 ≤ r.2.2.2) || !(r.2.2.1 == b) || (!r.2.2.1 && decide (0 < (r.2.1.length : Int)))
def refB (r s : RgV) : Bool := decide ((s.1.length : Int) < 1) || decide (24 < (s.1.length : Int)) || !decide (r.2.1 = s.1) || !decide (r.1 < s.1)
theorem grp_n (g : Int) : grpB g = !(decide (g < 1) || decide (5 ≤ g)) := by
  rw [Bool.eq_iff_iff]
  simp only [grpB, Bool.and_eq_true, Bool.not_eq_true', Bool.or_eq_false_iff, decide_eq_true_eq, decide_eq_false_iff_not]
  omega
theorem emp_n (l : List UInt8) : l.isEmpty = !decide (0 < (l.length : Int)) := by cases l <;> simp <;> omega
theorem refA_last (r : RgV) : mayL [r] = !refA r false := by
  unfold mayL refA
  rw [grp_n, emp_n]
  cases r.2.2.1 <;> cases decide (r.2.2.2 < 1) <;> cases decide (5 ≤ r.2.2.2) <;> cases decide (0 < (r.2.1.length : Int)) <;> rfl
theorem refA_false {r : RgV} (h : refA r true = false) : grpB r.2.2.2 = true ∧ r.2.2.1 = true := by
  simp only [refA, Bool.or_eq_false_iff, decide_eq_false_iff_not] at h
  obtain ⟨⟨⟨h1, h2⟩, h3⟩, _⟩ := h
  refine ⟨by simp only [grpB, Bool.and_eq_true, decide_eq_true_eq]; omega, ?_⟩
  revert h3; cases r.2.2.1 <;> simp
theorem refA_more {r s : RgV} {l : List RgV} (h : refA r true = true) : mayL (r :: s :: l) = false := by
  cases h1 : grpB r.2.2.2 with
  | false => simp [mayL, h1]
  | true =>
    cases h2 : r.2.2.1 with
    | false => simp [mayL, h2]
    | true =>
      have := grpB_range h1
      simp [refA, h2] at h
      omega
theorem refC {r s : RgV} {l : List RgV} (h : refA r true = false) : mayL (r :: s :: l) = (!refB r s && mayL (s :: l)) := by
  obtain ⟨hg, he⟩ := refA_false h
  simp only [mayL, hg, he, Bool.true_and]
  congr 1
  rw [Bool.eq_iff_iff]
  simp only [refB, Bool.and_eq_true, Bool.not_eq_true', Bool.or_eq_false_iff, Bool.not_eq_false', decide_eq_true_eq, decide_eq_false_iff_not]
  constructor
  · rintro ⟨⟨h1, h2⟩, h3⟩
    rw [h3] at h1 h2
    refine ⟨⟨⟨fun hn => ltl_nil (by omega) h2, by omega⟩, h3⟩, h2⟩
  · rintro ⟨⟨⟨_, h1⟩, h3⟩, h2⟩
    rw [h3]
    exact ⟨⟨by omega, h2⟩, rfl⟩
theorem refMay_c {w : World} {F : Nat → Prop} {v : Value} {e : Int} {rs : List RgV} (HG1 : AgV tMp w F v (e, rs)) : CallsR Try.prog 23 #[v] w (fun o w' => o = .bool (mayM (e, rs)) ∧ Ext w w') := by
  obtain ⟨a, c, rfl, HSr, he⟩ := HG1.mp
  simp only at HSr he
  have hmx := HSr.len_max
  rcases rs with _ | ⟨r0, l⟩
  · skip
    refine enter 108 Try.func23 rfl rfl (by simp) ?_
    refine c_seq ?_
    have E := Keep.refl (K := NoK) w
    replace HSr := HSr.all
    refine wp_reg (by decide +kernel) ?_
    refine l_to (to_box (show _ = (Value.agg _) from rfl) ?_)
    rintro b101 w101 zb101 HB101 e101 z101
    have zs_e101 := e101.size
    replace E := E.trans (Ext.keep e101)
    replace HSr := HSr.ext e101
    try simp only [Value.cells] at HB101
    refine l_v (v_assign rfl) ?_
    refine l_nil ?_
    refine n_then ?_
    refine c_seq ?_
    refine wp_reg (by decide +kernel) ?_
    refine l_v (v_fieldAddr (off := 1) (ft := 22) (by kernel_rfl) rfl) ?_
    refine l_v (v_load (by kernel_rfl) rfl (by first | exact HB101.pv 1 _ rfl | assumption)) ?_
    refine l_v (v_len (et := 37) (by kernel_rfl) rfl) ?_
    refine l_v (v_assign (t := .int _ _) rfl) ?_
    refine l_nil ?_
    refine n_then ?_
    refine c_seq ?_
    refine c_seq ?_
    refine wp_reg (by decide +kernel) ?_
    refine l_v (v_fieldAddr (off := 0) (ft := 2) (by kernel_rfl) rfl) ?_
    refine l_v (v_load (by kernel_rfl) rfl (by first | exact HB101.pv 0 _ rfl | assumption)) ?_
    refine l_v (v_lss rfl rfl) ?_
    refine l_v (v_move (t := .bool _) rfl) ?_
    refine l_g1 rfl rfl (fun hG => v_fieldAddr (off := 0) (ft := 2) (by kernel_rfl) rfl) ?_
    refine l_g1 rfl rfl (fun hG => v_load (by kernel_rfl) (gd hG rfl) (by first | exact HB101.pv 0 _ rfl | assumption)) ?_
    refine l_g1 rfl rfl (fun hG => v_gtr (gd hG rfl) rfl) ?_
    refine l_v (v_or rfl rfl) ?_
    refine l_v (v_move (t := .bool _) rfl) ?_
    refine l_g1 rfl rfl (fun hG => v_move (t := .int _ _) rfl) ?_
    refine l_g1 rfl rfl (fun hG => v_lss (gd hG rfl) rfl) ?_
    refine l_v (v_or rfl rfl) ?_
    refine l_v (v_move (t := .bool _) rfl) ?_
    refine l_g1 rfl rfl (fun hG => v_move (t := .int _ _) rfl) ?_
    refine l_g1 rfl rfl (fun hG => v_gtr (gd hG rfl) rfl) ?_
    refine l_v (v_or rfl rfl) ?_
    refine l_v (v_move (t := .bool _) rfl) ?_
    refine l_g1 rfl rfl (fun hG => show OpVat _ _ _ _ (undef) from False.elim ((by simp at hG))) ?_
    refine l_g1 rfl rfl (fun hG => show OpVat _ _ _ _ (undef) from False.elim ((by simp at hG))) ?_
    refine l_g1 rfl rfl (fun hG => show OpVat _ _ _ _ (undef) from False.elim ((by simp at hG))) ?_
    refine l_g1 rfl rfl (fun hG => show OpVat _ _ _ _ (undef) from False.elim ((by simp at hG))) ?_
    refine l_g1 rfl rfl (fun hG => show OpVat _ _ _ _ (undef) from False.elim ((by simp at hG))) ?_
    refine l_g1 rfl rfl (fun hG => show OpVat _ _ _ _ (undef) from False.elim ((by simp at hG))) ?_
    refine l_g1 rfl rfl (fun hG => show OpVat _ _ _ _ (.bool true) from False.elim ((by simp at hG))) ?_
    refine l_v (v_or rfl rfl) ?_
    refine l_nil ?_
    refine n_then ?_
    refine c_cond rfl rfl (fun hc => ?_) (fun hc => ?_)
    · skip
      refine c_seq ?_
      refine wp_reg (by decide +kernel) ?_
      refine l_v (v_assign rfl) ?_
      refine l_nil ?_
      refine n_then ?_
      refine c_ret ?_
      refine r_then ?_
      refine ret1v rfl (by decide) (show _ = (Value.bool _) from rfl) ?_
      exact ⟨by rw [mayM_nil], E⟩
    · skip
      simp at hc
  · replace HSr := HSr.all
    obtain ⟨q0, cs0, rfl, hq0, _, HP0, hr0⟩ := HSr.el (k := 0) rfl
    obtain ⟨b1, d1, b2, d2, rfl, HSf0, HSt0, hg0⟩ := tRg_cells hr0
    obtain ⟨rs, hrs⟩ : ∃ x, x = r0 :: l := ⟨_, rfl⟩
    refine enter 108 Try.func23 rfl rfl (by simp) ?_
    refine c_seq ?_
    have E := Keep.refl (K := NoK) w
    replace HSr := HSr.all
    refine wp_reg (by decide +kernel) ?_
    refine l_to (to_box (show _ = (Value.agg _) from rfl) ?_)
    rintro b101 w101 zb101 HB101 e101 z101
    have zs_e101 := e101.size
    replace E := E.trans (Ext.keep e101)
    replace HSr := HSr.ext e101
    replace HP0 := HP0.ext e101
    try simp only [Value.cells] at HB101
    refine l_v (v_assign rfl) ?_
    refine l_nil ?_
    refine n_then ?_
    refine c_seq ?_
    refine wp_reg (by decide +kernel) ?_
    refine l_v (v_fieldAddr (off := 1) (ft := 22) (by kernel_rfl) rfl) ?_
    refine l_v (v_load (by kernel_rfl) rfl (by first | exact HB101.pv 1 _ rfl | exact HP0 1 _ rfl | assumption)) ?_
    refine l_v (v_len (et := 37) (by kernel_rfl) rfl) ?_
    refine l_v (v_assign (t := .int _ _) rfl) ?_
    refine l_nil ?_
    refine n_then ?_
    refine c_seq ?_
    refine c_seq ?_
    refine wp_reg (by decide +kernel) ?_
    refine l_v (v_fieldAddr (off := 0) (ft := 2) (by kernel_rfl) rfl) ?_
    refine l_v (v_load (by kernel_rfl) rfl (by first | exact HB101.pv 0 _ rfl | exact HP0 0 _ rfl | assumption)) ?_
    refine l_v (v_lss rfl rfl) ?_
    refine l_v (v_move (t := .bool _) rfl) ?_
    refine l_g1 rfl rfl (fun hG => v_fieldAddr (off := 0) (ft := 2) (by kernel_rfl) rfl) ?_
    refine l_g1 rfl rfl (fun hG => v_load (by kernel_rfl) (gd hG rfl) (by first | exact HB101.pv 0 _ rfl | exact HP0 0 _ rfl | assumption)) ?_
    refine l_g1 rfl rfl (fun hG => v_gtr (gd hG rfl) rfl) ?_
    refine l_v (v_or rfl rfl) ?_
    refine l_v (v_move (t := .bool _) rfl) ?_
    refine l_g1 rfl rfl (fun hG => v_move (t := .int _ _) rfl) ?_
    refine l_g1 rfl rfl (fun hG => v_lss (gd hG rfl) rfl) ?_
    refine l_v (v_or rfl rfl) ?_
    refine l_v (v_move (t := .bool _) rfl) ?_
    refine l_g1 rfl rfl (fun hG => v_move (t := .int _ _) rfl) ?_
    refine l_g1 rfl rfl (fun hG => v_gtr (gd hG rfl) rfl) ?_
    refine l_v (v_or rfl rfl) ?_
    refine l_v (v_move (t := .bool _) rfl) ?_
    refine l_g1 rfl rfl (fun hG => v_fieldAddr (off := 1) (ft := 22) (by kernel_rfl) rfl) ?_
    refine l_g1 rfl rfl (fun hG => v_load (by kernel_rfl) (gd hG rfl) (by first | exact HB101.pv 1 _ rfl | exact HP0 1 _ rfl | assumption)) ?_
    refine l_g1 rfl rfl (fun hG => v_indexAddr (et := 37) (sz := 4) (k := 0) (by kernel_rfl) (by kernel_rfl) (gd hG rfl) rfl (by first | rfl | omega) (by simp)) ?_
    refine l_g1 rfl rfl (fun hG => v_fieldAddr (off := 0) (ft := 35) (by kernel_rfl) (gd hG rfl)) ?_
    refine l_g1 rfl rfl (fun hG => v_load (by kernel_rfl) (gd hG rfl) (by first | exact HB101.pv 0 _ rfl | exact HP0 0 _ rfl | assumption)) ?_
    refine l_g1 rfl rfl (fun hG => v_len (et := 5) (by kernel_rfl) (gd hG rfl)) ?_
    refine l_g1 rfl rfl (fun hG => v_gtr (gd hG rfl) rfl) ?_
    refine l_v (v_or rfl rfl) ?_
    refine l_nil ?_
    refine n_then ?_
    refine c_cond rfl rfl (fun hc => ?_) (fun hc => ?_)
    · skip
      refine c_seq ?_
      refine wp_reg (by decide +kernel) ?_
      refine l_v (v_assign rfl) ?_
      refine l_nil ?_
      refine n_then ?_
      refine c_ret ?_
      refine r_then ?_
      refine ret1v rfl (by decide) (show _ = (Value.bool _) from rfl) ?_
      exact ⟨by rw [mayM_head hc], E⟩
    · skip
      obtain ⟨hm, h16⟩ := mayM_head2 hc
      rw [← hrs] at *
      refine c_skip ?_
      refine n_then ?_
      refine c_seq ?_
      refine c_seq ?_
      refine wp_reg (by decide +kernel) ?_
      refine l_v (v_assign rfl) ?_
      refine l_nil ?_
      refine n_then ?_
      refine c_block ?_
      refine c_loop (τ := Nat) [2, 4, 5, 6, 35, 36, 37, 38, 39, 40, 41, 42, 43, 44, 45, 46, 47, 48, 49, 50, 51, 52, 53, 54, 55, 56, 57, 58, 59, 60, 61, 62, 63, 64, 65, 66, 67, 68, 69, 70, 71, 72, 73, 74, 75, 76, 77, 78, 79, 80, 81, 82, 83, 84, 85, 86, 87, 88, 89, 90, 91, 92, 93, 94, 95, 96, 97, 98, 99, 100, 101, 102, 103, 104, 105, 106, 107] (fun i => [(4, .int .i64 i)]) (fun i W => Ext w W ∧ Keep (NoK) w101 W ∧ i ≤ rs.length ∧ mayL rs = mayL (rs.drop i)) (fun i => rs.length - i) 0 (by exact ⟨rfl, trivial⟩) (by exact ⟨E, Keep.refl _, Nat.zero_le _, by rw [List.drop_zero]⟩) ?_
      rintro i w102 j ⟨E, EL1, h1, h2⟩
      have zs_EL1 := EL1.size
      replace HSr := HSr.ext EL1
      replace HB101 := HB101.ext EL1
      refine c_seq ?_
      refine c_seq ?_
      refine wp_reg (by decide +kernel) ?_
      refine l_v (v_move (t := .int _ _) rfl) ?_
      refine l_v (v_move (t := .int _ _) rfl) ?_
      refine l_v (v_lss rfl rfl) ?_
      refine l_nil ?_
      refine n_then ?_
      refine c_cond rfl rfl (fun hlt => ?_) (fun hlt => ?_)
      · skip
        have hlt := dtrue hlt
        obtain ⟨r, hx, hdr⟩ := getE (l := rs) (i := i) (by omega)
        rw [hdr] at h2
        refine c_skip ?_
        refine n_then ?_
        refine c_seq ?_
        refine c_block ?_
        refine c_seq ?_
        refine wp_reg (by decide +kernel) ?_
        refine l_v (v_fieldAddr (off := 1) (ft := 22) (by kernel_rfl) rfl) ?_
        refine l_v (v_load (by kernel_rfl) rfl (by first | exact HB101.pv 1 _ rfl | assumption)) ?_
        refine l_v (v_move (t := .int _ _) rfl) ?_
        refine l_to (to_index (et := 37) (by kernel_rfl) (by kernel_rfl) (show _ = (Value.slice _ _ _) from rfl) HSr (show _ = (Value.int _ _) from rfl) rfl hx ?_)
        rintro q cs hF HPq hr
        obtain ⟨a1, c1, a2, c2, rfl, HSf, HSt, hg⟩ := tRg_cells hr
        refine l_v (v_loadA (by kernel_rfl) rfl (by first | exact HPq | exact HB101.pv | assumption) rfl) ?_
        refine l_to (to_alloc (z := (.agg #[.slice none 0 0, .slice none 0 0, .bool false, .int .i64 0])) (by unfold kZero; kernel_rfl) ?_)
        rintro b8 w8 zb8 HB8 e8 z8
        have zs_e8 := e8.size
        replace E := E.trans (Ext.keep e8)
        replace HSr := HSr.ext e8
        replace HB101 := HB101.ext e8
        replace EL1 := EL1.trans (Ext.keep e8)
        replace HPq := HPq.ext e8
        replace HSf := HSf.ext e8
        replace HSt := HSt.ext e8
        try simp only [Value.cells] at HB8
        refine l_to (to_storeA (n := 4) rfl rfl (show _ = (Value.agg _) from rfl) (by kernel_rfl) rfl (by first | (simp [slice_one]; done) | (simp only [List.forall_mem_cons, List.cons_append, List.nil_append]; repeat' (first | exact rfl | apply And.intro | (intro u hu; cases hu; done)))) HB8 (by first | exact of_decide_eq_true rfl | (simp; done) | decide) ?_)
        rintro w103 HX103 k103 z103
        have zs_k103 := k103.size
        replace E := E.step k103 (by intro i hi he; have he0 := he; have hi := hi; have he := he; (try dsimp only [NoK] at hi he ⊢); (try simp only [Value.ownBlock, Option.some.injEq] at he); first | exact he.elim | omega | exact he)
        replace HSr := HSr.keep k103 (by first | exact fun h => h | (intro h; have he0 := h; have h := h; (try dsimp only at h); (try simp only [Value.ownBlock, Option.some.injEq] at h); (try simp only [add_block] at h); (try simp only [add_block] at he0); first | omega) | (intro i _ hi he; have he0 := he; have hi := hi; have he := he; (try dsimp only [NoK, AllB] at hi he); (try simp only [Value.ownBlock, Option.some.injEq] at he); first | exact hi.elim | exact he.elim | omega | (rcases hi with hi | hi <;> omega) | (rcases he with he | he <;> omega)))
        replace HB101 := HB101.keep k103 (by first | exact fun h => h | (intro h; have he0 := h; have h := h; (try dsimp only at h); (try simp only [Value.ownBlock, Option.some.injEq] at h); (try simp only [add_block] at h); (try simp only [add_block] at he0); first | omega) | (intro i _ hi he; have he0 := he; have hi := hi; have he := he; (try dsimp only [NoK, AllB] at hi he); (try simp only [Value.ownBlock, Option.some.injEq] at he); first | exact hi.elim | exact he.elim | omega | (rcases hi with hi | hi <;> omega) | (rcases he with he | he <;> omega)))
        replace EL1 := EL1.step k103 (by intro i hi he; have he0 := he; have hi := hi; have he := he; (try dsimp only [NoK] at hi he ⊢); (try simp only [Value.ownBlock, Option.some.injEq] at he); first | exact he.elim | omega | exact he)
        replace HPq := HPq.keep k103 (by first | exact fun h => h | (intro h; have he0 := h; have h := h; (try dsimp only at h); (try simp only [Value.ownBlock, Option.some.injEq] at h); (try simp only [add_block] at h); (try simp only [add_block] at he0); first | omega) | (intro i _ hi he; have he0 := he; have hi := hi; have he := he; (try dsimp only [NoK, AllB] at hi he); (try simp only [Value.ownBlock, Option.some.injEq] at he); first | exact hi.elim | exact he.elim | omega | (rcases hi with hi | hi <;> omega) | (rcases he with he | he <;> omega)))
        replace HSf := HSf.keep k103 (by first | exact fun h => h | (intro h; have he0 := h; have h := h; (try dsimp only at h); (try simp only [Value.ownBlock, Option.some.injEq] at h); (try simp only [add_block] at h); (try simp only [add_block] at he0); first | omega) | (intro i _ hi he; have he0 := he; have hi := hi; have he := he; (try dsimp only [NoK, AllB] at hi he); (try simp only [Value.ownBlock, Option.some.injEq] at he); first | exact hi.elim | exact he.elim | omega | (rcases hi with hi | hi <;> omega) | (rcases he with he | he <;> omega)))
        replace HSt := HSt.keep k103 (by first | exact fun h => h | (intro h; have he0 := h; have h := h; (try dsimp only at h); (try simp only [Value.ownBlock, Option.some.injEq] at h); (try simp only [add_block] at h); (try simp only [add_block] at he0); first | omega) | (intro i _ hi he; have he0 := he; have hi := hi; have he := he; (try dsimp only [NoK, AllB] at hi he); (try simp only [Value.ownBlock, Option.some.injEq] at he); first | exact hi.elim | exact he.elim | omega | (rcases hi with hi | hi <;> omega) | (rcases he with he | he <;> omega)))
        replace HB8 := HX103
        clear HX103
        try simp only [List.set_cons_zero, List.set_cons_succ, setAt, List.take_zero, List.take_succ_cons, List.drop_zero, List.drop_succ_cons, List.nil_append, List.cons_append, List.append_nil, List.length_cons, List.length_nil, Nat.zero_add, Nat.reduceAdd, List.drop_nil] at HB8
        refine l_nil ?_
        refine n_then ?_
        refine c_seq ?_
        refine c_seq ?_
        refine wp_reg (by decide +kernel) ?_
        refine l_v (v_fieldAddr (off := 3) (ft := 3) (by kernel_rfl) rfl) ?_
        refine l_v (v_load (by kernel_rfl) rfl (by first | exact HB8.pv 3 _ rfl | exact HPq 3 _ rfl | exact HB101.pv 3 _ rfl | assumption)) ?_
        refine l_v (v_lss rfl rfl) ?_
        refine l_v (v_move (t := .bool _) rfl) ?_
        refine l_g1 rfl rfl (fun hG => v_fieldAddr (off := 3) (ft := 3) (by kernel_rfl) rfl) ?_
        refine l_g1 rfl rfl (fun hG => v_load (by kernel_rfl) (gd hG rfl) (by first | exact HB8.pv 3 _ rfl | exact HPq 3 _ rfl | exact HB101.pv 3 _ rfl | assumption)) ?_
        refine l_g1 rfl rfl (fun hG => v_geq (gd hG rfl) rfl) ?_
        refine l_v (v_or rfl rfl) ?_
        refine l_v (v_move (t := .bool _) rfl) ?_
        refine l_g1 rfl rfl (fun hG => v_fieldAddr (off := 2) (ft := 4) (by kernel_rfl) rfl) ?_
        refine l_g1 rfl rfl (fun hG => v_load (by kernel_rfl) (gd hG rfl) (by first | exact HB8.pv 2 _ rfl | exact HPq 2 _ rfl | exact HB101.pv 2 _ rfl | assumption)) ?_
        refine l_g1 rfl rfl (fun hG => v_move (t := .int _ _) rfl) ?_
        refine l_g1 rfl rfl (fun hG => v_move (t := .int _ _) rfl) ?_
        refine l_g1 rfl rfl (fun hG => v_sub (gd hG rfl) rfl (by first | exact wr_i64 (by omega) (by omega) | rfl)) ?_
        refine l_g1 rfl rfl (fun hG => v_lss (gd hG rfl) (gd hG rfl)) ?_
        refine l_g1 rfl rfl (fun hG => v_bneq (by kernel_rfl) (gd hG rfl) (gd hG rfl)) ?_
        refine l_v (v_or rfl rfl) ?_
        refine l_v (v_move (t := .bool _) rfl) ?_
        refine l_g1 rfl rfl (fun hG => v_fieldAddr (off := 2) (ft := 4) (by kernel_rfl) rfl) ?_
        refine l_g1 rfl rfl (fun hG => v_load (by kernel_rfl) (gd hG rfl) (by first | exact HB8.pv 2 _ rfl | exact HPq 2 _ rfl | exact HB101.pv 2 _ rfl | assumption)) ?_
        refine l_g1 rfl rfl (fun hG => v_not (gd hG rfl)) ?_
        refine l_g1 rfl rfl (fun hG => v_move (t := .bool _) (gd hG rfl)) ?_
        refine l_g2 rfl rfl (fun hG => v_fieldAddr (off := 1) (ft := 35) (by kernel_rfl) rfl) ?_
        refine l_g2 rfl rfl (fun hG => v_load (by kernel_rfl) (gd hG rfl) (by first | exact HB8.pv 1 _ rfl | exact HPq 1 _ rfl | exact HB101.pv 1 _ rfl | assumption)) ?_
        refine l_g2 rfl rfl (fun hG => v_len (et := 5) (by kernel_rfl) (gd hG rfl)) ?_
        refine l_g2 rfl rfl (fun hG => v_gtr (gd hG rfl) rfl) ?_
        refine l_g1 rfl rfl (fun hG => v_and (gd hG rfl) (gda hG rfl)) ?_
        refine l_v (v_or rfl rfl) ?_
        refine l_nil ?_
        refine n_then ?_
        refine c_cond rfl rfl (fun h72 => ?_) (fun h72 => ?_)
        · skip
          refine c_seq ?_
          refine wp_reg (by decide +kernel) ?_
          refine l_v (v_assign rfl) ?_
          refine l_nil ?_
          refine n_then ?_
          refine c_ret ?_
          refine r_then ?_
          refine r_blk ?_
          refine r_then ?_
          refine r_then ?_
          refine r_blk ?_
          refine r_then ?_
          refine ret1v rfl (by decide) (show _ = (Value.bool _) from rfl) ?_
          refine ⟨?_, E⟩
          rw [hm, h2]
          cases hd : rs.drop (i + 1) with
          | nil =>
            have h9 : decide ((i : Int) < (rs.length : Int) - 1) = false := decide_eq_false (by rw [List.drop_eq_nil_iff] at hd; omega)
            rw [h9] at h72
            rw [refA_last, show refA r false = true from h72]; rfl
          | cons s l2 =>
            have h9 : decide ((i : Int) < (rs.length : Int) - 1) = true := decide_eq_true (by have := congrArg List.length hd; simp at this; omega)
            rw [h9] at h72
            rw [refA_more (s := s) (l := l2) h72]
        · skip
          refine c_skip ?_
          refine n_then ?_
          refine c_seq ?_
          refine wp_reg (by decide +kernel) ?_
          refine l_v (v_move (t := .int _ _) rfl) ?_
          refine l_v (v_move (t := .int _ _) rfl) ?_
          refine l_v (v_sub rfl rfl (by first | exact wr_i64 (by omega) (by omega) | rfl)) ?_
          refine l_v (v_lss rfl rfl) ?_
          refine l_nil ?_
          refine n_then ?_
          refine c_cond rfl rfl (fun h76 => ?_) (fun h76 => ?_)
          · skip
            have hlt2 : i + 1 < rs.length := by have := dtrue h76; omega
            obtain ⟨s, hx2, hds⟩ := getE (l := rs) (i := i + 1) hlt2
            obtain ⟨q1, cs1, hq1, hF1, _, HPs, hrs1⟩ := HSr.el hx2
            cases hq1
            obtain ⟨a3, c3, a4, c4, rfl, HSsf, HSst, hgs⟩ := tRg_cells hrs1
            replace HSsf := HSsf.all
            refine c_seq ?_
            refine wp_reg (by decide +kernel) ?_
            refine l_v (v_fieldAddr (off := 1) (ft := 22) (by kernel_rfl) rfl) ?_
            refine l_v (v_load (by kernel_rfl) rfl (by first | exact HPs 1 _ rfl | exact HB8.pv 1 _ rfl | exact HPq 1 _ rfl | exact HB101.pv 1 _ rfl | assumption)) ?_
            refine l_v (v_move (t := .int _ _) rfl) ?_
            refine l_v (v_add rfl rfl (by first | exact wr_i64 (by omega) (by omega) | rfl)) ?_
            refine l_v (v_indexAddr (et := 37) (sz := 4) (k := i + 1) (by kernel_rfl) (by kernel_rfl) rfl rfl (by first | rfl | omega) (hlt2)) ?_
            refine l_v (v_fieldAddr (off := 0) (ft := 35) (by kernel_rfl) rfl) ?_
            refine l_v (v_load (by kernel_rfl) rfl (by first | exact HPs 0 _ rfl | exact HB8.pv 0 _ rfl | exact HPq 0 _ rfl | exact HB101.pv 0 _ rfl | assumption)) ?_
            refine l_v (v_assign (t := .slice _ _ _) rfl) ?_
            refine l_nil ?_
            refine n_then ?_
            refine c_seq ?_
            refine wp_reg (by decide +kernel) ?_
            refine l_v (v_move (t := .slice _ _ _) rfl) ?_
            refine l_v (v_len (et := 5) (by kernel_rfl) rfl) ?_
            refine l_v (v_lss rfl rfl) ?_
            refine l_v (v_move (t := .bool _) rfl) ?_
            refine l_g1 rfl rfl (fun hG => v_move (t := .slice _ _ _) rfl) ?_
            refine l_g1 rfl rfl (fun hG => v_len (et := 5) (by kernel_rfl) (gd hG rfl)) ?_
            refine l_g1 rfl rfl (fun hG => v_gtr (gd hG rfl) rfl) ?_
            refine l_v (v_or rfl rfl) ?_
            refine l_v (v_move (t := .bool _) rfl) ?_
            refine l_g1 rfl rfl (fun hG => v_fieldAddr (off := 1) (ft := 35) (by kernel_rfl) rfl) ?_
            refine l_g1 rfl rfl (fun hG => v_load (by kernel_rfl) (gd hG rfl) (by first | exact HPs 1 _ rfl | exact HB8.pv 1 _ rfl | exact HPq 1 _ rfl | exact HB101.pv 1 _ rfl | assumption)) ?_
            refine l_g1 rfl rfl (fun hG => v_b2s (et := 5) (by kernel_rfl) (by kernel_rfl) (by kernel_rfl) (gd hG rfl) HSt) ?_
            refine l_g1 rfl rfl (fun hG => v_move (t := .slice _ _ _) rfl) ?_
            refine l_g1 rfl rfl (fun hG => v_b2s (et := 5) (by kernel_rfl) (by kernel_rfl) (by kernel_rfl) (gd hG rfl) HSsf) ?_
            refine l_g1 rfl rfl (fun hG => v_sne (gd hG rfl) (gd hG rfl)) ?_
            refine l_v (v_or rfl rfl) ?_
            refine l_v (v_move (t := .bool _) rfl) ?_
            refine l_g1 rfl rfl (fun hG => v_fieldAddr (off := 0) (ft := 35) (by kernel_rfl) rfl) ?_
            refine l_g1 rfl rfl (fun hG => v_load (by kernel_rfl) (gd hG rfl) (by first | exact HPs 0 _ rfl | exact HB8.pv 0 _ rfl | exact HPq 0 _ rfl | exact HB101.pv 0 _ rfl | assumption)) ?_
            refine l_g1 rfl rfl (fun hG => v_b2s (et := 5) (by kernel_rfl) (by kernel_rfl) (by kernel_rfl) (gd hG rfl) HSf) ?_
            refine l_g1 rfl rfl (fun hG => v_move (t := .slice _ _ _) rfl) ?_
            refine l_g1 rfl rfl (fun hG => v_b2s (et := 5) (by kernel_rfl) (by kernel_rfl) (by kernel_rfl) (gd hG rfl) HSsf) ?_
            refine l_g1 rfl rfl (fun hG => v_sge (gd hG rfl) (gd hG rfl)) ?_
            refine l_v (v_or rfl rfl) ?_
            refine l_nil ?_
            refine n_then ?_
            refine c_cond rfl rfl (fun h107 => ?_) (fun h107 => ?_)
            · skip
              refine c_seq ?_
              refine wp_reg (by decide +kernel) ?_
              refine l_v (v_assign rfl) ?_
              refine l_nil ?_
              refine n_then ?_
              refine c_ret ?_
              refine r_blk ?_
              refine r_then ?_
              refine r_then ?_
              refine r_blk ?_
              refine r_then ?_
              refine ret1v rfl (by decide) (show _ = (Value.bool _) from rfl) ?_
              refine ⟨?_, E⟩
              rw [hm, h2]
              rw [hds, refC (by rw [h76] at h72; exact h72), show refB r s = true from h107]; rfl
            · skip
              refine c_skip ?_
              refine n_blk ?_
              refine n_then ?_
              refine wp_reg (by decide +kernel) ?_
              refine l_v (v_move (t := .int _ _) rfl) ?_
              refine l_v (v_add rfl rfl (by first | exact wr_i64 (by omega) (by omega) | rfl)) ?_
              refine l_v (v_assign (t := .int _ _) rfl) ?_
              refine l_nil ?_
              refine n_then ?_
              refine ⟨i + 1, _, rfl, by (repeat (first | exact Off.of_over _ _ _ | refine Off.upd ?_ (by decide) _)), ⟨by first | rfl | exact congrArg (Value.int _) (by omega) | (simp; done), trivial⟩, ⟨E, EL1, ?_⟩, ?_⟩
              · skip
                refine ⟨by omega, ?_⟩
                rw [h2, hds, refC (by rw [h76] at h72; exact h72), show refB r s = false from h107]; rfl
              · (dsimp only; omega)
          · skip
            refine c_skip ?_
            refine n_blk ?_
            refine n_then ?_
            refine wp_reg (by decide +kernel) ?_
            refine l_v (v_move (t := .int _ _) rfl) ?_
            refine l_v (v_add rfl rfl (by first | exact wr_i64 (by omega) (by omega) | rfl)) ?_
            refine l_v (v_assign (t := .int _ _) rfl) ?_
            refine l_nil ?_
            refine n_then ?_
            refine ⟨i + 1, _, rfl, by (repeat (first | exact Off.of_over _ _ _ | refine Off.upd ?_ (by decide) _)), ⟨by first | rfl | exact congrArg (Value.int _) (by omega) | (simp; done), trivial⟩, ⟨E, EL1, ?_⟩, ?_⟩
            · skip
              refine ⟨by omega, ?_⟩
              have hd : rs.drop (i + 1) = [] := List.drop_eq_nil_of_le (by have := dfalse h76; omega)
              rw [h2, hd, refA_last, show refA r false = false from (by rw [h76] at h72; exact h72)]; rfl
            · (dsimp only; omega)
      · skip
        refine c_exit ?_
        refine x_then ?_
        refine x_then ?_
        refine x_hit ?_
        refine n_then ?_
        refine c_seq ?_
        refine wp_reg (by decide +kernel) ?_
        refine l_v (v_assign rfl) ?_
        refine l_nil ?_
        refine n_then ?_
        refine c_ret ?_
        refine ret1v rfl (by decide) (show _ = (Value.bool _) from rfl) ?_
        refine ⟨?_, E⟩
        have h := dfalse hlt
        rw [hm, h2, List.drop_eq_nil_of_le (by omega)]; rfl
end Go.Proofs.Ytkaangdfpjkjpaa
