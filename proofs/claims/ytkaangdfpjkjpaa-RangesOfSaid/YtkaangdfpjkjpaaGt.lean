/- A part of the proof: steps and lemmas for the walks through the given program. -/
import Derived.Test.YtkaangdfpjkjpaaR13
namespace Go.Proofs.Ytkaangdfpjkjpaa
open Go.Vc
set_option linter.unusedVariables false
set_option linter.unusedSimpArgs false
set_option maxRecDepth 100000

theorem sameM_self (m : MpV) : sameM m m = true := by
  simp [sameM, sameRs_iff]

theorem RangesNew_c {w : World} {g : Int} (hg : -9223372036854775808 ≤ g ∧ g ≤ 9223372036854775807) : CallsR Try.prog 3 #[.int .i64 g] w (fun o w' => o = .bool true ∧ Ext w w') := by
  refine enter 29 Try.func3 rfl rfl (by simp) ?_
  refine c_seq ?_
  have E := Keep.refl (K := NoK) w
  refine wp_reg (by decide +kernel) ?_
  refine l_v (v_assign rfl) ?_
  refine l_nil ?_
  refine n_then ?_
  refine c_seq ?_
  refine wp_reg (by decide +kernel) ?_
  refine l_v (v_move (t := .int _ _) rfl) ?_
  refine l_to (to_f1 (by kernel_rfl) (show _ = (Value.int _ _) from rfl) (CallsR.mono (New_c hg) ?_))
  rintro _ w1 ⟨⟨x1, rfl, HG1⟩, e1⟩
  have zs_e1 := e1.size
  replace HG1 := HG1.all
  obtain ⟨a1, c1, rfl, HS1, he1⟩ := HG1.mp
  replace E := E.trans (Ext.keep e1)
  refine l_v (v_move (t := .tuple _) rfl) ?_
  refine l_v (v_extract (t := .agg _) rfl rfl) ?_
  refine l_v (v_extract (t := .int _ _) rfl rfl) ?_
  refine l_to (to_alloc (z := (.agg #[.int .i64 0, .slice none 0 0])) (by unfold kZero; kernel_rfl) ?_)
  rintro b11 w11 zb11 HB11 e11 z11
  have zs_e11 := e11.size
  replace E := E.trans (Ext.keep e11)
  replace HG1 := HG1.ext e11
  try simp only [Value.cells] at HB11
  refine l_to (to_storeA (n := 2) rfl rfl (show _ = (Value.agg _) from rfl) (by kernel_rfl) rfl (by first | (simp [slice_one]; done) | (simp only [List.forall_mem_cons, List.cons_append, List.nil_append]; repeat' (first | exact rfl | apply And.intro | (intro u hu; cases hu; done)))) HB11 (by first | exact of_decide_eq_true rfl | (simp; done) | decide) ?_)
  rintro w101 HX101 k101 z101
  have zs_k101 := k101.size
  replace E := E.step k101 (by intro i hi he; (try dsimp only [NoK] at hi he ⊢); first | exact he.elim | omega | exact he)
  replace HG1 := HG1.keep k101 (by intro i _ hi he; (try dsimp only [NoK, AllB] at hi he); first | exact hi.elim | exact he.elim | omega | (rcases hi with hi | hi <;> omega) | (rcases he with he | he <;> omega))
  replace HB11 := HX101
  clear HX101
  try simp only [List.set_cons_zero, List.set_cons_succ, setAt, List.take_zero, List.take_succ_cons, List.drop_zero, List.drop_succ_cons, List.nil_append, List.cons_append, List.append_nil, List.length_cons, List.length_nil, Nat.zero_add, Nat.reduceAdd, List.drop_nil] at HB11
  refine l_v (v_assign (t := .int _ _) rfl) ?_
  refine l_nil ?_
  refine n_then ?_
  refine c_seq ?_
  refine wp_reg (by decide +kernel) ?_
  refine l_v (v_move (t := .int _ _) rfl) ?_
  refine l_to (to_f1 (by kernel_rfl) (show _ = (Value.int _ _) from rfl) (CallsR.mono (refNew_c hg) ?_))
  rintro _ w2 ⟨⟨x2, rfl, HG2⟩, e2⟩
  have zs_e2 := e2.size
  replace HG2 := HG2.all
  obtain ⟨a2, c2, rfl, HS2, he2⟩ := HG2.mp
  replace E := E.trans (Ext.keep e2)
  replace HG1 := HG1.ext e2
  replace HB11 := HB11.ext e2
  refine l_v (v_move (t := .tuple _) rfl) ?_
  refine l_v (v_extract (t := .agg _) rfl rfl) ?_
  refine l_v (v_extract (t := .int _ _) rfl rfl) ?_
  refine l_to (to_alloc (z := (.agg #[.int .i64 0, .slice none 0 0])) (by unfold kZero; kernel_rfl) ?_)
  rintro b12 w12 zb12 HB12 e12 z12
  have zs_e12 := e12.size
  replace E := E.trans (Ext.keep e12)
  replace HG1 := HG1.ext e12
  replace HB11 := HB11.ext e12
  replace HG2 := HG2.ext e12
  try simp only [Value.cells] at HB12
  refine l_to (to_storeA (n := 2) rfl rfl (show _ = (Value.agg _) from rfl) (by kernel_rfl) rfl (by first | (simp [slice_one]; done) | (simp only [List.forall_mem_cons, List.cons_append, List.nil_append]; repeat' (first | exact rfl | apply And.intro | (intro u hu; cases hu; done)))) HB12 (by first | exact of_decide_eq_true rfl | (simp; done) | decide) ?_)
  rintro w102 HX102 k102 z102
  have zs_k102 := k102.size
  replace E := E.step k102 (by intro i hi he; (try dsimp only [NoK] at hi he ⊢); first | exact he.elim | omega | exact he)
  replace HG1 := HG1.keep k102 (by intro i _ hi he; (try dsimp only [NoK, AllB] at hi he); first | exact hi.elim | exact he.elim | omega | (rcases hi with hi | hi <;> omega) | (rcases he with he | he <;> omega))
  replace HB11 := HB11.keep k102 (by intro h; (try dsimp only at h); first | omega)
  replace HG2 := HG2.keep k102 (by intro i _ hi he; (try dsimp only [NoK, AllB] at hi he); first | exact hi.elim | exact he.elim | omega | (rcases hi with hi | hi <;> omega) | (rcases he with he | he <;> omega))
  replace HB12 := HX102
  clear HX102
  try simp only [List.set_cons_zero, List.set_cons_succ, setAt, List.take_zero, List.take_succ_cons, List.drop_zero, List.drop_succ_cons, List.nil_append, List.cons_append, List.append_nil, List.length_cons, List.length_nil, Nat.zero_add, Nat.reduceAdd, List.drop_nil] at HB12
  refine l_v (v_assign (t := .int _ _) rfl) ?_
  refine l_nil ?_
  refine n_then ?_
  refine c_seq ?_
  refine wp_reg (by decide +kernel) ?_
  refine l_v (v_loadA (by kernel_rfl) rfl (by first | exact HB12.pv | exact HB11.pv | assumption) rfl) ?_
  refine l_v (v_loadA (by kernel_rfl) rfl (by first | exact HB12.pv | exact HB11.pv | assumption) rfl) ?_
  refine l_to (to_f2 (by kernel_rfl) (show _ = (Value.agg _) from rfl) (show _ = (Value.agg _) from rfl) (CallsR.mono (refSame_c HG1 HG2) ?_))
  rintro _ w103 ⟨rfl, e103⟩
  have zs_e103 := e103.size
  replace E := E.trans (Ext.keep e103)
  replace HG1 := HG1.ext e103
  replace HB11 := HB11.ext e103
  replace HG2 := HG2.ext e103
  replace HB12 := HB12.ext e103
  refine l_v (v_move (t := .bool _) rfl) ?_
  refine l_g1 rfl rfl (fun hG => v_move (t := .int _ _) rfl) ?_
  refine l_g1f rfl rfl (fun hG => to_f1 (by kernel_rfl) (gd hG rfl) (num_c)) ?_
  rintro w104 e104
  have zs_e104 := e104.size
  replace E := E.trans (Ext.keep e104)
  replace HG1 := HG1.ext e104
  replace HB11 := HB11.ext e104
  replace HG2 := HG2.ext e104
  replace HB12 := HB12.ext e104
  refine l_g1 rfl rfl (fun hG => v_move (t := .int _ _) rfl) ?_
  refine l_g1 rfl rfl (fun hG => v_eql (gd hG rfl) (gd hG rfl)) ?_
  refine l_v (v_and rfl rfl) ?_
  refine l_v (v_move (t := .bool _) rfl) ?_
  refine l_g1f rfl rfl (fun hG => to_f0 (by kernel_rfl) (known_c)) ?_
  rintro w105 e105
  have zs_e105 := e105.size
  replace E := E.trans (Ext.keep e105)
  replace HG1 := HG1.ext e105
  replace HB11 := HB11.ext e105
  replace HG2 := HG2.ext e105
  replace HB12 := HB12.ext e105
  refine l_v (v_and rfl rfl) ?_
  refine l_v (v_assign (t := .bool _) rfl) ?_
  refine l_nil ?_
  refine n_then ?_
  refine c_ret ?_
  refine ret1v rfl (by decide) (show _ = (Value.bool _) from rfl) ?_
  refine ⟨?_, E⟩
  rw [sameM_self]; simp
theorem RangesHas_c {w : World} {F G : Nat → Prop} {v kv : Value} {r : RgV} {k : List UInt8} (HG1 : AgV tRg w F v r) (HS2 : Bv w G kv k) : CallsR Try.prog 6 #[v, kv] w (fun o w' => o = .bool true ∧ Ext w w') := by
  obtain ⟨a1, c1, a2, c2, rfl, HSf, HSt, hg⟩ := HG1.rg
  obtain ⟨a3, c3, rfl⟩ := HS2.shape
  refine enter 27 Try.func6 rfl rfl (by simp) ?_
  refine c_seq ?_
  have E := Keep.refl (K := NoK) w
  replace HG1 := HG1.all
  replace HS2 := HS2.all
  refine wp_reg (by decide +kernel) ?_
  refine l_to (to_box (show _ = (Value.agg _) from rfl) ?_)
  rintro b2 w2 zb2 HB2 e2 z2
  have zs_e2 := e2.size
  replace E := E.trans (Ext.keep e2)
  replace HG1 := HG1.ext e2
  replace HS2 := HS2.ext e2
  try simp only [Value.cells] at HB2
  refine l_v (v_assign rfl) ?_
  refine l_nil ?_
  refine n_then ?_
  refine c_seq ?_
  refine c_seq ?_
  refine wp_reg (by decide +kernel) ?_
  refine l_v (v_fieldAddr (off := 0) (ft := 35) (by kernel_rfl) rfl) ?_
  refine l_v (v_load (by kernel_rfl) rfl (by first | exact HB2.pv 0 _ rfl | assumption)) ?_
  refine l_v (v_len (et := 5) (by kernel_rfl) rfl) ?_
  refine l_v (v_fieldAddr (off := 1) (ft := 35) (by kernel_rfl) rfl) ?_
  refine l_v (v_load (by kernel_rfl) rfl (by first | exact HB2.pv 1 _ rfl | assumption)) ?_
  refine l_v (v_len (et := 5) (by kernel_rfl) rfl) ?_
  refine l_v (v_add rfl rfl (by first | exact wr_i64 (by omega) (by omega) | rfl)) ?_
  refine l_v (v_move (t := .slice _ _ _) rfl) ?_
  refine l_v (v_len (et := 5) (by kernel_rfl) rfl) ?_
  refine l_v (v_add rfl rfl (by first | exact wr_i64 (by omega) (by omega) | rfl)) ?_
  refine l_v (v_gtr rfl rfl) ?_
  refine l_nil ?_
  refine n_then ?_
  refine c_cond rfl rfl (fun hc => ?_) (fun hc => ?_)
  · skip
    refine c_seq ?_
    refine wp_reg (by decide +kernel) ?_
    refine l_to (to_f0 (by kernel_rfl) (CallsR.mono (known_c) ?_))
    rintro _ w101 ⟨rfl, e101⟩
    have zs_e101 := e101.size
    replace E := E.trans (Ext.keep e101)
    replace HG1 := HG1.ext e101
    replace HS2 := HS2.ext e101
    replace HB2 := HB2.ext e101
    refine l_v (v_assign (t := .bool _) rfl) ?_
    refine l_nil ?_
    refine n_then ?_
    refine c_ret ?_
    refine r_then ?_
    refine ret1v rfl (by decide) (show _ = (Value.bool _) from rfl) ?_
    exact ⟨rfl, E⟩
  · skip
    refine c_skip ?_
    refine n_then ?_
    refine c_seq ?_
    refine wp_regd (NoK) (by kernel_rfl) (by decide +kernel) (by decide +kernel) ?_
    refine rt_v (fun vals w hR hd => v_loadA (by kernel_rfl) rfl (by first | exact (HB2.ext hR).pv | assumption) rfl) ?_
    refine rt_v (fun vals w hR hd => v_move (t := .slice _ _ _) rfl) ?_
    refine rt_vf (fun vals w hR hd => to_f2 (by kernel_rfl) (hd 0 rfl) (hd 1 rfl) (Has_c (HG1.ext hR) (HS2.ext hR))) ?_
    refine rt_v (fun vals w hR hd => v_loadA (by kernel_rfl) rfl (by first | exact (HB2.ext hR).pv | assumption) rfl) ?_
    refine rt_v (fun vals w hR hd => v_move (t := .slice _ _ _) rfl) ?_
    refine rt_vf (fun vals w hR hd => to_f2 (by kernel_rfl) (hd 3 rfl) (hd 4 rfl) (refHas_c (HG1.ext hR) (HS2.ext hR))) ?_
    refine rt_v (fun vals w hR hd => v_beql (by kernel_rfl) (hd 2 rfl) (hd 5 rfl)) ?_
    refine rt_v (fun vals w hR hd => v_move (t := .bool _) (hd 6 rfl)) ?_
    refine rt_g1f rfl (fun vals w hd => hd 7 rfl) (fun vals w hR hd hG => to_f0 (by kernel_rfl) (known_c)) ?_
    refine rt_v (fun vals w hR hd => v_and (hd 7 rfl) (hd 8 rfl)) ?_
    refine rt_v (fun vals w hR hd => v_assign (t := .bool _) (hd 9 rfl)) ?_
    refine rt_nil (fun w102 e102 => ?_)
    rintro _ rfl _ rfl _ rfl _ rfl _ rfl _ rfl _ rfl _ rfl _ rfl _ rfl _ rfl
    have zs_e102 := e102.size
    replace E := E.trans (Ext.keep e102)
    replace HG1 := HG1.ext e102
    replace HS2 := HS2.ext e102
    replace HB2 := HB2.ext e102
    refine fin_nil ?_
    refine n_then ?_
    refine c_ret ?_
    refine ret1v rfl (by decide) (show _ = (Value.bool _) from rfl) ?_
    refine ⟨?_, E⟩
    simp
end Go.Proofs.Ytkaangdfpjkjpaa

namespace Go.Proofs.Ytkaangdfpjkjpaa
open Go.Vc
set_option linter.unusedVariables false
set_option linter.unusedSimpArgs false
set_option maxRecDepth 100000

theorem ltl_nil {x y : List UInt8} (h : y.length < 1) : ¬ x < y := by
  have : y = [] := List.eq_nil_of_length_eq_zero (by omega)
  subst this; simp
def refA (r : RgV) (b : Bool) : Bool := decide (r.2.2.2 < 1) || decide (5 ≤ r.2.2.2) || !(r.2.2.1 == b) || (!r.2.2.1 && decide (0 < (r.2.1.length : Int)))
def refB (r s : RgV) : Bool := decide ((s.1.length : Int) < 1) || decide (24 < (s.1.length : Int)) || !decide (r.2.1 = s.1) || !decide (r.1 < s.1)
theorem grp_n (g : Int) : grpB g = !(decide (g < 1) || decide (5 ≤ g)) := by
  rw [Bool.eq_iff_iff]
  simp only [grpB, Bool.and_eq_true, Bool.not_eq_true', Bool.or_eq_false_iff, decide_eq_true_eq, decide_eq_false_iff_not]
  omega
theorem emp_n (l : List UInt8) : l.isEmpty = !decide (0 < (l.length : Int)) := by cases l <;> simp <;> omega
theorem refA_last (r : RgV) : mayL [r] = !refA r false := by
  unfold mayL refA
  rw [grp_n, emp_n]
  cases r.2.2.1 <;> cases decide (r.2.2.2 < 1) <;> cases decide (5 ≤ r.2.2.2) <;> cases decide (0 < (r.2.1.length : Int)) <;> rfl
theorem refA_false {r : RgV} (h : refA r true = false) : grpB r.2.2.2 = true ∧ r.2.2.1 = true := by
  simp only [refA, Bool.or_eq_false_iff, decide_eq_false_iff_not] at h
  obtain ⟨⟨⟨h1, h2⟩, h3⟩, _⟩ := h
  refine ⟨by simp only [grpB, Bool.and_eq_true, decide_eq_true_eq]; omega, ?_⟩
  revert h3; cases r.2.2.1 <;> simp
theorem refA_more {r s : RgV} {l : List RgV} (h : refA r true = true) : mayL (r :: s :: l) = false := by
  cases h1 : grpB r.2.2.2 with
  | false => simp [mayL, h1]
  | true =>
    cases h2 : r.2.2.1 with
    | false => simp [mayL, h2]
    | true =>
      have := grpB_range h1
      simp [refA, h2] at h
      omega
theorem refC {r s : RgV} {l : List RgV} (h : refA r true = false) : mayL (r :: s :: l) = (!refB r s && mayL (s :: l)) := by
  obtain ⟨hg, he⟩ := refA_false h
  simp only [mayL, hg, he, Bool.true_and]
  congr 1
  rw [Bool.eq_iff_iff]
  simp only [refB, Bool.and_eq_true, Bool.not_eq_true', Bool.or_eq_false_iff, Bool.not_eq_false', decide_eq_true_eq, decide_eq_false_iff_not]
  constructor
  · rintro ⟨⟨h1, h2⟩, h3⟩
    rw [h3] at h1 h2
    refine ⟨⟨⟨fun hn => ltl_nil (by omega) h2, by omega⟩, h3⟩, h2⟩
  · rintro ⟨⟨⟨_, h1⟩, h3⟩, h2⟩
    rw [h3]
    exact ⟨⟨by omega, h2⟩, rfl⟩
theorem refMay_c {w : World} {F : Nat → Prop} {v : Value} {e : Int} {rs : List RgV} (HG1 : AgV tMp w F v (e, rs)) : CallsR Try.prog 23 #[v] w (fun o w' => o = .bool (mayM (e, rs)) ∧ Ext w w') := by
  obtain ⟨a, c, rfl, HSr, he⟩ := HG1.mp
  simp only at HSr he
  have hmx := HSr.len_max
  rcases rs with _ | ⟨r0, l⟩
  · skip
    refine enter 108 Try.func23 rfl rfl (by simp) ?_
    refine c_seq ?_
    have E := Keep.refl (K := NoK) w
    replace HSr := HSr.all
    refine wp_reg (by decide +kernel) ?_
    refine l_to (to_box (show _ = (Value.agg _) from rfl) ?_)
    rintro b101 w101 zb101 HB101 e101 z101
    have zs_e101 := e101.size
    replace E := E.trans (Ext.keep e101)
    replace HSr := HSr.ext e101
    try simp only [Value.cells] at HB101
    refine l_v (v_assign rfl) ?_
    refine l_nil ?_
    refine n_then ?_
    refine c_seq ?_
    refine wp_reg (by decide +kernel) ?_
    refine l_v (v_fieldAddr (off := 1) (ft := 22) (by kernel_rfl) rfl) ?_
    refine l_v (v_load (by kernel_rfl) rfl (by first | exact HB101.pv 1 _ rfl | assumption)) ?_
    refine l_v (v_len (et := 37) (by kernel_rfl) rfl) ?_
    refine l_v (v_assign (t := .int _ _) rfl) ?_
    refine l_nil ?_
    refine n_then ?_
    refine c_seq ?_
    refine c_seq ?_
    refine wp_reg (by decide +kernel) ?_
    refine l_v (v_fieldAddr (off := 0) (ft := 2) (by kernel_rfl) rfl) ?_
    refine l_v (v_load (by kernel_rfl) rfl (by first | exact HB101.pv 0 _ rfl | assumption)) ?_
    refine l_v (v_lss rfl rfl) ?_
    refine l_v (v_move (t := .bool _) rfl) ?_
    refine l_g1 rfl rfl (fun hG => v_fieldAddr (off := 0) (ft := 2) (by kernel_rfl) rfl) ?_
    refine l_g1 rfl rfl (fun hG => v_load (by kernel_rfl) (gd hG rfl) (by first | exact HB101.pv 0 _ rfl | assumption)) ?_
    refine l_g1 rfl rfl (fun hG => v_gtr (gd hG rfl) rfl) ?_
    refine l_v (v_or rfl rfl) ?_
    refine l_v (v_move (t := .bool _) rfl) ?_
    refine l_g1 rfl rfl (fun hG => v_move (t := .int _ _) rfl) ?_
    refine l_g1 rfl rfl (fun hG => v_lss (gd hG rfl) rfl) ?_
    refine l_v (v_or rfl rfl) ?_
    refine l_v (v_move (t := .bool _) rfl) ?_
    refine l_g1 rfl rfl (fun hG => v_move (t := .int _ _) rfl) ?_
    refine l_g1 rfl rfl (fun hG => v_gtr (gd hG rfl) rfl) ?_
    refine l_v (v_or rfl rfl) ?_
    refine l_v (v_move (t := .bool _) rfl) ?_
    refine l_g1 rfl rfl (fun hG => show OpVat _ _ _ _ (undef) from False.elim ((by simp at hG))) ?_
    refine l_g1 rfl rfl (fun hG => show OpVat _ _ _ _ (undef) from False.elim ((by simp at hG))) ?_
    refine l_g1 rfl rfl (fun hG => show OpVat _ _ _ _ (undef) from False.elim ((by simp at hG))) ?_
    refine l_g1 rfl rfl (fun hG => show OpVat _ _ _ _ (undef) from False.elim ((by simp at hG))) ?_
    refine l_g1 rfl rfl (fun hG => show OpVat _ _ _ _ (undef) from False.elim ((by simp at hG))) ?_
    refine l_g1 rfl rfl (fun hG => show OpVat _ _ _ _ (undef) from False.elim ((by simp at hG))) ?_
    refine l_g1 rfl rfl (fun hG => show OpVat _ _ _ _ (.bool true) from False.elim ((by simp at hG))) ?_
    refine l_v (v_or rfl rfl) ?_
    refine l_nil ?_
    refine n_then ?_
    refine c_cond rfl rfl (fun hc => ?_) (fun hc => ?_)
    · skip
      refine c_seq ?_
      refine wp_reg (by decide +kernel) ?_
      refine l_v (v_assign rfl) ?_
      refine l_nil ?_
      refine n_then ?_
      refine c_ret ?_
      refine r_then ?_
      refine ret1v rfl (by decide) (show _ = (Value.bool _) from rfl) ?_
      exact ⟨by rw [mayM_nil], E⟩
    · skip
      simp at hc
  · replace HSr := HSr.all
    obtain ⟨q0, cs0, rfl, hq0, _, HP0, hr0⟩ := HSr.el (k := 0) rfl
    obtain ⟨b1, d1, b2, d2, rfl, HSf0, HSt0, hg0⟩ := tRg_cells hr0
    obtain ⟨rs, hrs⟩ : ∃ x, x = r0 :: l := ⟨_, rfl⟩
    refine enter 108 Try.func23 rfl rfl (by simp) ?_
    refine c_seq ?_
    have E := Keep.refl (K := NoK) w
    replace HSr := HSr.all
    refine wp_reg (by decide +kernel) ?_
    refine l_to (to_box (show _ = (Value.agg _) from rfl) ?_)
    rintro b101 w101 zb101 HB101 e101 z101
    have zs_e101 := e101.size
    replace E := E.trans (Ext.keep e101)
    replace HSr := HSr.ext e101
    replace HP0 := HP0.ext e101
    try simp only [Value.cells] at HB101
    refine l_v (v_assign rfl) ?_
    refine l_nil ?_
    refine n_then ?_
    refine c_seq ?_
    refine wp_reg (by decide +kernel) ?_
    refine l_v (v_fieldAddr (off := 1) (ft := 22) (by kernel_rfl) rfl) ?_
    refine l_v (v_load (by kernel_rfl) rfl (by first | exact HB101.pv 1 _ rfl | exact HP0 1 _ rfl | assumption)) ?_
    refine l_v (v_len (et := 37) (by kernel_rfl) rfl) ?_
    refine l_v (v_assign (t := .int _ _) rfl) ?_
    refine l_nil ?_
    refine n_then ?_
    refine c_seq ?_
    refine c_seq ?_
    refine wp_reg (by decide +kernel) ?_
    refine l_v (v_fieldAddr (off := 0) (ft := 2) (by kernel_rfl) rfl) ?_
    refine l_v (v_load (by kernel_rfl) rfl (by first | exact HB101.pv 0 _ rfl | exact HP0 0 _ rfl | assumption)) ?_
    refine l_v (v_lss rfl rfl) ?_
    refine l_v (v_move (t := .bool _) rfl) ?_
    refine l_g1 rfl rfl (fun hG => v_fieldAddr (off := 0) (ft := 2) (by kernel_rfl) rfl) ?_
    refine l_g1 rfl rfl (fun hG => v_load (by kernel_rfl) (gd hG rfl) (by first | exact HB101.pv 0 _ rfl | exact HP0 0 _ rfl | assumption)) ?_
    refine l_g1 rfl rfl (fun hG => v_gtr (gd hG rfl) rfl) ?_
    refine l_v (v_or rfl rfl) ?_
    refine l_v (v_move (t := .bool _) rfl) ?_
    refine l_g1 rfl rfl (fun hG => v_move (t := .int _ _) rfl) ?_
    refine l_g1 rfl rfl (fun hG => v_lss (gd hG rfl) rfl) ?_
    refine l_v (v_or rfl rfl) ?_
    refine l_v (v_move (t := .bool _) rfl) ?_
    refine l_g1 rfl rfl (fun hG => v_move (t := .int _ _) rfl) ?_
    refine l_g1 rfl rfl (fun hG => v_gtr (gd hG rfl) rfl) ?_
    refine l_v (v_or rfl rfl) ?_
    refine l_v (v_move (t := .bool _) rfl) ?_
    refine l_g1 rfl rfl (fun hG => v_fieldAddr (off := 1) (ft := 22) (by kernel_rfl) rfl) ?_
    refine l_g1 rfl rfl (fun hG => v_load (by kernel_rfl) (gd hG rfl) (by first | exact HB101.pv 1 _ rfl | exact HP0 1 _ rfl | assumption)) ?_
    refine l_g1 rfl rfl (fun hG => v_indexAddr (et := 37) (sz := 4) (k := 0) (by kernel_rfl) (by kernel_rfl) (gd hG rfl) rfl (by first | rfl | omega) (by simp)) ?_
    refine l_g1 rfl rfl (fun hG => v_fieldAddr (off := 0) (ft := 35) (by kernel_rfl) (gd hG rfl)) ?_
    refine l_g1 rfl rfl (fun hG => v_load (by kernel_rfl) (gd hG rfl) (by first | exact HB101.pv 0 _ rfl | exact HP0 0 _ rfl | assumption)) ?_
    refine l_g1 rfl rfl (fun hG => v_len (et := 5) (by kernel_rfl) (gd hG rfl)) ?_
    refine l_g1 rfl rfl (fun hG => v_gtr (gd hG rfl) rfl) ?_
    refine l_v (v_or rfl rfl) ?_
    refine l_nil ?_
    refine n_then ?_
    refine c_cond rfl rfl (fun hc => ?_) (fun hc => ?_)
    · skip
      refine c_seq ?_
      refine wp_reg (by decide +kernel) ?_
      refine l_v (v_assign rfl) ?_
      refine l_nil ?_
      refine n_then ?_
      refine c_ret ?_
      refine r_then ?_
      refine ret1v rfl (by decide) (show _ = (Value.bool _) from rfl) ?_
      exact ⟨by rw [mayM_head hc], E⟩
    · skip
      obtain ⟨hm, h16⟩ := mayM_head2 hc
      rw [← hrs] at *
      refine c_skip ?_
      refine n_then ?_
      refine c_seq ?_
      refine c_seq ?_
      refine wp_reg (by decide +kernel) ?_
      refine l_v (v_assign rfl) ?_
      refine l_nil ?_
      refine n_then ?_
      refine c_block ?_
      refine c_loop (τ := Nat) [2, 4, 5, 6, 35, 36, 37, 38, 39, 40, 41, 42, 43, 44, 45, 46, 47, 48, 49, 50, 51, 52, 53, 54, 55, 56, 57, 58, 59, 60, 61, 62, 63, 64, 65, 66, 67, 68, 69, 70, 71, 72, 73, 74, 75, 76, 77, 78, 79, 80, 81, 82, 83, 84, 85, 86, 87, 88, 89, 90, 91, 92, 93, 94, 95, 96, 97, 98, 99, 100, 101, 102, 103, 104, 105, 106, 107] (fun i => [(4, .int .i64 i)]) (fun i W => Ext w W ∧ Keep (NoK) w101 W ∧ i ≤ rs.length ∧ mayL rs = mayL (rs.drop i)) (fun i => rs.length - i) 0 (by exact ⟨rfl, trivial⟩) (by exact ⟨E, Keep.refl _, Nat.zero_le _, by rw [List.drop_zero]⟩) ?_
      rintro i w102 j ⟨E, EL1, h1, h2⟩
      have zs_EL1 := EL1.size
      replace HSr := HSr.ext EL1
      replace HB101 := HB101.ext EL1
      refine c_seq ?_
      refine c_seq ?_
      refine wp_reg (by decide +kernel) ?_
      refine l_v (v_move (t := .int _ _) rfl) ?_
      refine l_v (v_move (t := .int _ _) rfl) ?_
      refine l_v (v_lss rfl rfl) ?_
      refine l_nil ?_
      refine n_then ?_
      refine c_cond rfl rfl (fun hlt => ?_) (fun hlt => ?_)
      · skip
        have hlt := dtrue hlt
        obtain ⟨r, hx, hdr⟩ := getE (l := rs) (i := i) (by omega)
        rw [hdr] at h2
        refine c_skip ?_
        refine n_then ?_
        refine c_seq ?_
        refine c_block ?_
        refine c_seq ?_
        refine wp_reg (by decide +kernel) ?_
        refine l_v (v_fieldAddr (off := 1) (ft := 22) (by kernel_rfl) rfl) ?_
        refine l_v (v_load (by kernel_rfl) rfl (by first | exact HB101.pv 1 _ rfl | assumption)) ?_
        refine l_v (v_move (t := .int _ _) rfl) ?_
        refine l_to (to_index (et := 37) (by kernel_rfl) (by kernel_rfl) (show _ = (Value.slice _ _ _) from rfl) HSr (show _ = (Value.int _ _) from rfl) rfl hx ?_)
        rintro q cs hF HPq hr
        obtain ⟨a1, c1, a2, c2, rfl, HSf, HSt, hg⟩ := tRg_cells hr
        refine l_v (v_loadA (by kernel_rfl) rfl (by first | exact HPq | exact HB101.pv | assumption) rfl) ?_
        refine l_to (to_alloc (z := (.agg #[.slice none 0 0, .slice none 0 0, .bool false, .int .i64 0])) (by unfold kZero; kernel_rfl) ?_)
        rintro b8 w8 zb8 HB8 e8 z8
        have zs_e8 := e8.size
        replace E := E.trans (Ext.keep e8)
        replace HSr := HSr.ext e8
        replace HB101 := HB101.ext e8
        replace EL1 := EL1.trans (Ext.keep e8)
        replace HPq := HPq.ext e8
        replace HSf := HSf.ext e8
        replace HSt := HSt.ext e8
        try simp only [Value.cells] at HB8
        refine l_to (to_storeA (n := 4) rfl rfl (show _ = (Value.agg _) from rfl) (by kernel_rfl) rfl (by first | (simp [slice_one]; done) | (simp only [List.forall_mem_cons, List.cons_append, List.nil_append]; repeat' (first | exact rfl | apply And.intro | (intro u hu; cases hu; done)))) HB8 (by first | exact of_decide_eq_true rfl | (simp; done) | decide) ?_)
        rintro w103 HX103 k103 z103
        have zs_k103 := k103.size
        replace E := E.step k103 (by intro i hi he; (try dsimp only [NoK] at hi he ⊢); first | exact he.elim | omega | exact he)
        replace HSr := HSr.keep k103 (by intro i _ hi he; (try dsimp only [NoK, AllB] at hi he); first | exact hi.elim | exact he.elim | omega | (rcases hi with hi | hi <;> omega) | (rcases he with he | he <;> omega))
        replace HB101 := HB101.keep k103 (by intro h; (try dsimp only at h); first | omega)
        replace EL1 := EL1.step k103 (by intro i hi he; (try dsimp only [NoK] at hi he ⊢); first | exact he.elim | omega | exact he)
        replace HPq := HPq.keep k103 (by intro h; (try dsimp only at h); (try simp only [add_block] at h); first | omega)
        replace HSf := HSf.keep k103 (by intro i _ hi he; (try dsimp only [NoK, AllB] at hi he); first | exact hi.elim | exact he.elim | omega | (rcases hi with hi | hi <;> omega) | (rcases he with he | he <;> omega))
        replace HSt := HSt.keep k103 (by intro i _ hi he; (try dsimp only [NoK, AllB] at hi he); first | exact hi.elim | exact he.elim | omega | (rcases hi with hi | hi <;> omega) | (rcases he with he | he <;> omega))
        replace HB8 := HX103
        clear HX103
        try simp only [List.set_cons_zero, List.set_cons_succ, setAt, List.take_zero, List.take_succ_cons, List.drop_zero, List.drop_succ_cons, List.nil_append, List.cons_append, List.append_nil, List.length_cons, List.length_nil, Nat.zero_add, Nat.reduceAdd, List.drop_nil] at HB8
        refine l_nil ?_
        refine n_then ?_
        refine c_seq ?_
        refine c_seq ?_
        refine wp_reg (by decide +kernel) ?_
        refine l_v (v_fieldAddr (off := 3) (ft := 3) (by kernel_rfl) rfl) ?_
        refine l_v (v_load (by kernel_rfl) rfl (by first | exact HB8.pv 3 _ rfl | exact HPq 3 _ rfl | exact HB101.pv 3 _ rfl | assumption)) ?_
        refine l_v (v_lss rfl rfl) ?_
        refine l_v (v_move (t := .bool _) rfl) ?_
        refine l_g1 rfl rfl (fun hG => v_fieldAddr (off := 3) (ft := 3) (by kernel_rfl) rfl) ?_
        refine l_g1 rfl rfl (fun hG => v_load (by kernel_rfl) (gd hG rfl) (by first | exact HB8.pv 3 _ rfl | exact HPq 3 _ rfl | exact HB101.pv 3 _ rfl | assumption)) ?_
        refine l_g1 rfl rfl (fun hG => v_geq (gd hG rfl) rfl) ?_
        refine l_v (v_or rfl rfl) ?_
        refine l_v (v_move (t := .bool _) rfl) ?_
        refine l_g1 rfl rfl (fun hG => v_fieldAddr (off := 2) (ft := 4) (by kernel_rfl) rfl) ?_
        refine l_g1 rfl rfl (fun hG => v_load (by kernel_rfl) (gd hG rfl) (by first | exact HB8.pv 2 _ rfl | exact HPq 2 _ rfl | exact HB101.pv 2 _ rfl | assumption)) ?_
        refine l_g1 rfl rfl (fun hG => v_move (t := .int _ _) rfl) ?_
        refine l_g1 rfl rfl (fun hG => v_move (t := .int _ _) rfl) ?_
        refine l_g1 rfl rfl (fun hG => v_sub (gd hG rfl) rfl (by first | exact wr_i64 (by omega) (by omega) | rfl)) ?_
        refine l_g1 rfl rfl (fun hG => v_lss (gd hG rfl) (gd hG rfl)) ?_
        refine l_g1 rfl rfl (fun hG => v_bneq (by kernel_rfl) (gd hG rfl) (gd hG rfl)) ?_
        refine l_v (v_or rfl rfl) ?_
        refine l_v (v_move (t := .bool _) rfl) ?_
        refine l_g1 rfl rfl (fun hG => v_fieldAddr (off := 2) (ft := 4) (by kernel_rfl) rfl) ?_
        refine l_g1 rfl rfl (fun hG => v_load (by kernel_rfl) (gd hG rfl) (by first | exact HB8.pv 2 _ rfl | exact HPq 2 _ rfl | exact HB101.pv 2 _ rfl | assumption)) ?_
        refine l_g1 rfl rfl (fun hG => v_not (gd hG rfl)) ?_
        refine l_g1 rfl rfl (fun hG => v_move (t := .bool _) (gd hG rfl)) ?_
        refine l_g2 rfl rfl (fun hG => v_fieldAddr (off := 1) (ft := 35) (by kernel_rfl) rfl) ?_
        refine l_g2 rfl rfl (fun hG => v_load (by kernel_rfl) (gd hG rfl) (by first | exact HB8.pv 1 _ rfl | exact HPq 1 _ rfl | exact HB101.pv 1 _ rfl | assumption)) ?_
        refine l_g2 rfl rfl (fun hG => v_len (et := 5) (by kernel_rfl) (gd hG rfl)) ?_
        refine l_g2 rfl rfl (fun hG => v_gtr (gd hG rfl) rfl) ?_
        refine l_g1 rfl rfl (fun hG => v_and (gd hG rfl) (gda hG rfl)) ?_
        refine l_v (v_or rfl rfl) ?_
        refine l_nil ?_
        refine n_then ?_
        refine c_cond rfl rfl (fun h72 => ?_) (fun h72 => ?_)
        · skip
          refine c_seq ?_
          refine wp_reg (by decide +kernel) ?_
          refine l_v (v_assign rfl) ?_
          refine l_nil ?_
          refine n_then ?_
          refine c_ret ?_
          refine r_then ?_
          refine r_blk ?_
          refine r_then ?_
          refine r_then ?_
          refine r_blk ?_
          refine r_then ?_
          refine ret1v rfl (by decide) (show _ = (Value.bool _) from rfl) ?_
          refine ⟨?_, E⟩
          rw [hm, h2]
          cases hd : rs.drop (i + 1) with
          | nil =>
            have h9 : decide ((i : Int) < (rs.length : Int) - 1) = false := decide_eq_false (by rw [List.drop_eq_nil_iff] at hd; omega)
            rw [h9] at h72
            rw [refA_last, show refA r false = true from h72]; rfl
          | cons s l2 =>
            have h9 : decide ((i : Int) < (rs.length : Int) - 1) = true := decide_eq_true (by have := congrArg List.length hd; simp at this; omega)
            rw [h9] at h72
            rw [refA_more (s := s) (l := l2) h72]
        · skip
          refine c_skip ?_
          refine n_then ?_
          refine c_seq ?_
          refine wp_reg (by decide +kernel) ?_
          refine l_v (v_move (t := .int _ _) rfl) ?_
          refine l_v (v_move (t := .int _ _) rfl) ?_
          refine l_v (v_sub rfl rfl (by first | exact wr_i64 (by omega) (by omega) | rfl)) ?_
          refine l_v (v_lss rfl rfl) ?_
          refine l_nil ?_
          refine n_then ?_
          refine c_cond rfl rfl (fun h76 => ?_) (fun h76 => ?_)
          · skip
            have hlt2 : i + 1 < rs.length := by have := dtrue h76; omega
            obtain ⟨s, hx2, hds⟩ := getE (l := rs) (i := i + 1) hlt2
            obtain ⟨q1, cs1, hq1, hF1, _, HPs, hrs1⟩ := HSr.el hx2
            cases hq1
            obtain ⟨a3, c3, a4, c4, rfl, HSsf, HSst, hgs⟩ := tRg_cells hrs1
            replace HSsf := HSsf.all
            refine c_seq ?_
            refine wp_reg (by decide +kernel) ?_
            refine l_v (v_fieldAddr (off := 1) (ft := 22) (by kernel_rfl) rfl) ?_
            refine l_v (v_load (by kernel_rfl) rfl (by first | exact HPs 1 _ rfl | exact HB8.pv 1 _ rfl | exact HPq 1 _ rfl | exact HB101.pv 1 _ rfl | assumption)) ?_
            refine l_v (v_move (t := .int _ _) rfl) ?_
            refine l_v (v_add rfl rfl (by first | exact wr_i64 (by omega) (by omega) | rfl)) ?_
            refine l_v (v_indexAddr (et := 37) (sz := 4) (k := i + 1) (by kernel_rfl) (by kernel_rfl) rfl rfl (by first | rfl | omega) (hlt2)) ?_
            refine l_v (v_fieldAddr (off := 0) (ft := 35) (by kernel_rfl) rfl) ?_
            refine l_v (v_load (by kernel_rfl) rfl (by first | exact HPs 0 _ rfl | exact HB8.pv 0 _ rfl | exact HPq 0 _ rfl | exact HB101.pv 0 _ rfl | assumption)) ?_
            refine l_v (v_assign (t := .slice _ _ _) rfl) ?_
            refine l_nil ?_
            refine n_then ?_
            refine c_seq ?_
            refine wp_reg (by decide +kernel) ?_
            refine l_v (v_move (t := .slice _ _ _) rfl) ?_
            refine l_v (v_len (et := 5) (by kernel_rfl) rfl) ?_
            refine l_v (v_lss rfl rfl) ?_
            refine l_v (v_move (t := .bool _) rfl) ?_
            refine l_g1 rfl rfl (fun hG => v_move (t := .slice _ _ _) rfl) ?_
            refine l_g1 rfl rfl (fun hG => v_len (et := 5) (by kernel_rfl) (gd hG rfl)) ?_
            refine l_g1 rfl rfl (fun hG => v_gtr (gd hG rfl) rfl) ?_
            refine l_v (v_or rfl rfl) ?_
            refine l_v (v_move (t := .bool _) rfl) ?_
            refine l_g1 rfl rfl (fun hG => v_fieldAddr (off := 1) (ft := 35) (by kernel_rfl) rfl) ?_
            refine l_g1 rfl rfl (fun hG => v_load (by kernel_rfl) (gd hG rfl) (by first | exact HPs 1 _ rfl | exact HB8.pv 1 _ rfl | exact HPq 1 _ rfl | exact HB101.pv 1 _ rfl | assumption)) ?_
            refine l_g1 rfl rfl (fun hG => v_b2s (et := 5) (by kernel_rfl) (by kernel_rfl) (by kernel_rfl) (gd hG rfl) HSt) ?_
            refine l_g1 rfl rfl (fun hG => v_move (t := .slice _ _ _) rfl) ?_
            refine l_g1 rfl rfl (fun hG => v_b2s (et := 5) (by kernel_rfl) (by kernel_rfl) (by kernel_rfl) (gd hG rfl) HSsf) ?_
            refine l_g1 rfl rfl (fun hG => v_sne (gd hG rfl) (gd hG rfl)) ?_
            refine l_v (v_or rfl rfl) ?_
            refine l_v (v_move (t := .bool _) rfl) ?_
            refine l_g1 rfl rfl (fun hG => v_fieldAddr (off := 0) (ft := 35) (by kernel_rfl) rfl) ?_
            refine l_g1 rfl rfl (fun hG => v_load (by kernel_rfl) (gd hG rfl) (by first | exact HPs 0 _ rfl | exact HB8.pv 0 _ rfl | exact HPq 0 _ rfl | exact HB101.pv 0 _ rfl | assumption)) ?_
            refine l_g1 rfl rfl (fun hG => v_b2s (et := 5) (by kernel_rfl) (by kernel_rfl) (by kernel_rfl) (gd hG rfl) HSf) ?_
            refine l_g1 rfl rfl (fun hG => v_move (t := .slice _ _ _) rfl) ?_
            refine l_g1 rfl rfl (fun hG => v_b2s (et := 5) (by kernel_rfl) (by kernel_rfl) (by kernel_rfl) (gd hG rfl) HSsf) ?_
            refine l_g1 rfl rfl (fun hG => v_sge (gd hG rfl) (gd hG rfl)) ?_
            refine l_v (v_or rfl rfl) ?_
            refine l_nil ?_
            refine n_then ?_
            refine c_cond rfl rfl (fun h107 => ?_) (fun h107 => ?_)
            · skip
              refine c_seq ?_
              refine wp_reg (by decide +kernel) ?_
              refine l_v (v_assign rfl) ?_
              refine l_nil ?_
              refine n_then ?_
              refine c_ret ?_
              refine r_blk ?_
              refine r_then ?_
              refine r_then ?_
              refine r_blk ?_
              refine r_then ?_
              refine ret1v rfl (by decide) (show _ = (Value.bool _) from rfl) ?_
              refine ⟨?_, E⟩
              rw [hm, h2]
              rw [hds, refC (by rw [h76] at h72; exact h72), show refB r s = true from h107]; rfl
            · skip
              refine c_skip ?_
              refine n_blk ?_
              refine n_then ?_
              refine wp_reg (by decide +kernel) ?_
              refine l_v (v_move (t := .int _ _) rfl) ?_
              refine l_v (v_add rfl rfl (by first | exact wr_i64 (by omega) (by omega) | rfl)) ?_
              refine l_v (v_assign (t := .int _ _) rfl) ?_
              refine l_nil ?_
              refine n_then ?_
              refine ⟨i + 1, _, rfl, by (repeat (first | exact Off.of_over _ _ _ | refine Off.upd ?_ (by decide) _)), ⟨by first | rfl | exact congrArg (Value.int _) (by omega) | (simp; done), trivial⟩, ⟨E, EL1, ?_⟩, ?_⟩
              · skip
                refine ⟨by omega, ?_⟩
                rw [h2, hds, refC (by rw [h76] at h72; exact h72), show refB r s = false from h107]; rfl
              · (dsimp only; omega)
          · skip
            refine c_skip ?_
            refine n_blk ?_
            refine n_then ?_
            refine wp_reg (by decide +kernel) ?_
            refine l_v (v_move (t := .int _ _) rfl) ?_
            refine l_v (v_add rfl rfl (by first | exact wr_i64 (by omega) (by omega) | rfl)) ?_
            refine l_v (v_assign (t := .int _ _) rfl) ?_
            refine l_nil ?_
            refine n_then ?_
            refine ⟨i + 1, _, rfl, by (repeat (first | exact Off.of_over _ _ _ | refine Off.upd ?_ (by decide) _)), ⟨by first | rfl | exact congrArg (Value.int _) (by omega) | (simp; done), trivial⟩, ⟨E, EL1, ?_⟩, ?_⟩
            · skip
              refine ⟨by omega, ?_⟩
              have hd : rs.drop (i + 1) = [] := List.drop_eq_nil_of_le (by have := dfalse h76; omega)
              rw [h2, hd, refA_last, show refA r false = false from (by rw [h76] at h72; exact h72)]; rfl
            · (dsimp only; omega)
      · skip
        refine c_exit ?_
        refine x_then ?_
        refine x_then ?_
        refine x_hit ?_
        refine n_then ?_
        refine c_seq ?_
        refine wp_reg (by decide +kernel) ?_
        refine l_v (v_assign rfl) ?_
        refine l_nil ?_
        refine n_then ?_
        refine c_ret ?_
        refine ret1v rfl (by decide) (show _ = (Value.bool _) from rfl) ?_
        refine ⟨?_, E⟩
        have h := dfalse hlt
        rw [hm, h2, List.drop_eq_nil_of_le (by omega)]; rfl
end Go.Proofs.Ytkaangdfpjkjpaa

namespace Go.Proofs.Ytkaangdfpjkjpaa
open Go.Vc
set_option linter.unusedVariables false
set_option linter.unusedSimpArgs false
set_option maxRecDepth 100000

theorem vmin {P : Program} {d : Option Tmp} {ty : TypeId} {p : String} {af : Array Edge} {g : Option (Nat × Bool)} {e : Nat → Value} {w : World} {x y : Operand} {k : IntKind} {i j : Int} {ts : Array TypeId} (hx : ev e x = .int k i) (hy : ev e y = .int k j) : OpVat P ⟨d, .call { callee := .builtin .min, args := #[x, y], argTypes := ts }, ty, p, af, g⟩ e w (.int k (if j < i then j else i)) := v_min hx hy
def muchN : List RgV → Int → Int
  | [], n => n
  | r :: l, n => if n ≤ 20000 then muchN l (n + 1 + (if 20001 < (r.1.length : Int) then 20001 else (r.1.length : Int)) + (if 20001 < (r.2.1.length : Int) then 20001 else (r.2.1.length : Int))) else n
theorem muchN_stop {l : List RgV} {n : Int} (h : ¬ n ≤ 20000) : muchN l n = n := by cases l <;> simp [muchN, h]
def muchB (l : List RgV) : Bool := decide (20000 < muchN l 0)
theorem Much_c {w : World} {F : Nat → Prop} {v : Value} {e : Int} {rs : List RgV} (HG1 : AgV tMp w F v (e, rs)) : CallsR Try.prog 50 #[v, .int .i64 20000] w (fun o w' => o = .bool (muchB rs) ∧ Ext w w') := by
  obtain ⟨a, c, rfl, HSr, he⟩ := HG1.mp
  simp only at HSr he
  have hmx := HSr.len_max
  refine enter 46 Try.func50 rfl rfl (by simp) ?_
  refine c_seq ?_
  have E := Keep.refl (K := NoK) w
  replace HSr := HSr.all
  refine wp_reg (by decide +kernel) ?_
  refine l_to (to_box (show _ = (Value.agg _) from rfl) ?_)
  rintro b101 w101 zb101 HB101 e101 z101
  have zs_e101 := e101.size
  replace E := E.trans (Ext.keep e101)
  replace HSr := HSr.ext e101
  try simp only [Value.cells] at HB101
  refine l_v (v_assign rfl) ?_
  refine l_nil ?_
  refine n_then ?_
  refine c_seq ?_
  refine wp_reg (by decide +kernel) ?_
  refine l_v (v_assign rfl) ?_
  refine l_nil ?_
  refine n_then ?_
  refine c_seq ?_
  refine c_seq ?_
  refine wp_reg (by decide +kernel) ?_
  refine l_v (v_assign rfl) ?_
  refine l_nil ?_
  refine n_then ?_
  refine c_block ?_
  refine c_loop (τ := Nat × Int) [5, 6, 7, 8, 9, 10, 11, 12, 13, 14, 15, 16, 17, 18, 19, 20, 21, 22, 23, 24, 25, 26, 27, 28, 29, 30, 31, 32, 33, 34, 35, 36, 37, 38, 39, 40, 41, 42] (fun (i, n) => [(5, .int .i64 n), (6, .int .i64 i)]) (fun (i, n) W => Ext w W ∧ Keep (NoK) w101 W ∧ i ≤ rs.length ∧ 0 ≤ n ∧ n ≤ 100000 ∧ muchN (rs.drop i) n = muchN rs 0) (fun (i, n) => rs.length - i) (0, 0) (by exact ⟨rfl, rfl, trivial⟩) (by exact ⟨E, Keep.refl _, Nat.zero_le _, by omega, by omega, by rw [List.drop_zero]⟩) ?_
  rintro ⟨i, n⟩ w102 j ⟨E, EL1, h1, h2, h3, h4⟩
  have zs_EL1 := EL1.size
  replace HSr := HSr.ext EL1
  replace HB101 := HB101.ext EL1
  refine c_seq ?_
  refine c_seq ?_
  refine wp_reg (by decide +kernel) ?_
  refine l_v (v_move (t := .int _ _) rfl) ?_
  refine l_v (v_fieldAddr (off := 1) (ft := 22) (by kernel_rfl) rfl) ?_
  refine l_v (v_load (by kernel_rfl) rfl (by first | exact HB101.pv 1 _ rfl | assumption)) ?_
  refine l_v (v_len (et := 37) (by kernel_rfl) rfl) ?_
  refine l_v (v_lss rfl rfl) ?_
  refine l_v (v_move (t := .bool _) rfl) ?_
  refine l_g1 rfl rfl (fun hG => v_move (t := .int _ _) rfl) ?_
  refine l_g1 rfl rfl (fun hG => v_move (t := .int _ _) rfl) ?_
  refine l_g1 rfl rfl (fun hG => v_leq (gd hG rfl) (gd hG rfl)) ?_
  refine l_v (v_and rfl rfl) ?_
  refine l_nil ?_
  refine n_then ?_
  refine c_cond rfl rfl (fun hlt => ?_) (fun hlt => ?_)
  · skip
    have hlt2 : i < rs.length ∧ n ≤ 20000 := by simp only [Bool.and_eq_true, decide_eq_true_eq] at hlt; omega
    obtain ⟨r, hx, hdr⟩ := getE (l := rs) (i := i) (by omega)
    obtain ⟨q, cs, hq, hF, _, HPq, hr⟩ := HSr.el hx
    cases hq
    obtain ⟨a1, c1, a2, c2, rfl, HSf, HSt, hg⟩ := tRg_cells hr
    rw [hdr, muchN, if_pos hlt2.2] at h4
    refine c_skip ?_
    refine n_then ?_
    refine c_seq ?_
    refine c_block ?_
    refine wp_regd (NoK) (by kernel_rfl) (by decide +kernel) (by decide +kernel) ?_
    refine rt_v (fun vals w hR hd => v_move (t := .int _ _) rfl) ?_
    refine rt_v (fun vals w hR hd => v_add (hd 0 rfl) rfl (by first | exact wr_i64 (by omega) (by omega) | rfl)) ?_
    refine rt_v (fun vals w hR hd => v_fieldAddr (off := 1) (ft := 22) (by kernel_rfl) rfl) ?_
    refine rt_v (fun vals w hR hd => v_load (by kernel_rfl) (hd 2 rfl) (by first | exact (HPq.ext hR) 1 _ rfl | exact (HB101.ext hR).pv 1 _ rfl | assumption)) ?_
    refine rt_v (fun vals w hR hd => v_move (t := .int _ _) rfl) ?_
    refine rt_v (fun vals w hR hd => v_indexAddr (et := 37) (sz := 4) (k := i) (by kernel_rfl) (by kernel_rfl) (hd 3 rfl) (hd 4 rfl) (by first | rfl | omega) (by omega)) ?_
    refine rt_v (fun vals w hR hd => v_fieldAddr (off := 0) (ft := 35) (by kernel_rfl) (hd 5 rfl)) ?_
    refine rt_v (fun vals w hR hd => v_load (by kernel_rfl) (hd 6 rfl) (by first | exact (HPq.ext hR) 0 _ rfl | exact (HB101.ext hR).pv 0 _ rfl | assumption)) ?_
    refine rt_v (fun vals w hR hd => v_len (et := 5) (by kernel_rfl) (hd 7 rfl)) ?_
    refine rt_v (fun vals w hR hd => v_move (t := .int _ _) rfl) ?_
    refine rt_v (fun vals w hR hd => v_add (hd 9 rfl) rfl (by first | exact wr_i64 (by omega) (by omega) | rfl)) ?_
    refine rt_v (fun vals w hR hd => vmin (hd 8 rfl) (hd 10 rfl)) ?_
    refine rt_v (fun vals w hR hd => v_add (hd 1 rfl) (hd 11 rfl) (by first | exact wr_i64 (by omega) (by omega) | rfl)) ?_
    refine rt_v (fun vals w hR hd => v_fieldAddr (off := 1) (ft := 22) (by kernel_rfl) rfl) ?_
    refine rt_v (fun vals w hR hd => v_load (by kernel_rfl) (hd 13 rfl) (by first | exact (HPq.ext hR) 1 _ rfl | exact (HB101.ext hR).pv 1 _ rfl | assumption)) ?_
    refine rt_v (fun vals w hR hd => v_move (t := .int _ _) rfl) ?_
    refine rt_v (fun vals w hR hd => v_indexAddr (et := 37) (sz := 4) (k := i) (by kernel_rfl) (by kernel_rfl) (hd 14 rfl) (hd 15 rfl) (by first | rfl | omega) (by omega)) ?_
    refine rt_v (fun vals w hR hd => v_fieldAddr (off := 1) (ft := 35) (by kernel_rfl) (hd 16 rfl)) ?_
    refine rt_v (fun vals w hR hd => v_load (by kernel_rfl) (hd 17 rfl) (by first | exact (HPq.ext hR) 1 _ rfl | exact (HB101.ext hR).pv 1 _ rfl | assumption)) ?_
    refine rt_v (fun vals w hR hd => v_len (et := 5) (by kernel_rfl) (hd 18 rfl)) ?_
    refine rt_v (fun vals w hR hd => v_move (t := .int _ _) rfl) ?_
    refine rt_v (fun vals w hR hd => v_add (hd 20 rfl) rfl (by first | exact wr_i64 (by omega) (by omega) | rfl)) ?_
    refine rt_v (fun vals w hR hd => vmin (hd 19 rfl) (hd 21 rfl)) ?_
    refine rt_v (fun vals w hR hd => v_add (hd 12 rfl) (hd 22 rfl) (by first | exact wr_i64 (by omega) (by omega) | rfl)) ?_
    refine rt_v (fun vals w hR hd => v_assign (t := .int _ _) (hd 23 rfl)) ?_
    refine rt_nil (fun w103 e103 => ?_)
    rintro _ rfl _ rfl _ rfl _ rfl _ rfl _ rfl _ rfl _ rfl _ rfl _ rfl _ rfl _ rfl _ rfl _ rfl _ rfl _ rfl _ rfl _ rfl _ rfl _ rfl _ rfl _ rfl _ rfl _ rfl _ rfl
    have zs_e103 := e103.size
    replace E := E.trans (Ext.keep e103)
    replace HSr := HSr.ext e103
    replace HB101 := HB101.ext e103
    replace EL1 := EL1.trans (Ext.keep e103)
    replace HPq := HPq.ext e103
    refine fin_nil ?_
    refine n_blk ?_
    refine n_then ?_
    refine wp_reg (by decide +kernel) ?_
    refine l_v (v_move (t := .int _ _) rfl) ?_
    refine l_v (v_add rfl rfl (by first | exact wr_i64 (by omega) (by omega) | rfl)) ?_
    refine l_v (v_assign (t := .int _ _) rfl) ?_
    refine l_nil ?_
    refine n_then ?_
    refine ⟨(i + 1, n + 1 + (if 20001 < (r.1.length : Int) then 20001 else (r.1.length : Int)) + (if 20001 < (r.2.1.length : Int) then 20001 else (r.2.1.length : Int))), _, rfl, by (repeat (first | exact Off.of_over _ _ _ | refine Off.upd ?_ (by decide) _)), ⟨by first | rfl | exact congrArg (Value.int _) (by omega) | (simp; done), by first | rfl | exact congrArg (Value.int _) (by omega) | (simp; done), trivial⟩, ⟨E, EL1, ?_⟩, ?_⟩
    · skip
      exact ⟨by omega, by omega, by omega, h4⟩
    · (dsimp only; omega)
  · skip
    refine c_exit ?_
    refine x_then ?_
    refine x_then ?_
    refine x_hit ?_
    refine n_then ?_
    refine c_seq ?_
    refine wp_reg (by decide +kernel) ?_
    refine l_v (v_move (t := .int _ _) rfl) ?_
    refine l_v (v_move (t := .int _ _) rfl) ?_
    refine l_v (v_gtr rfl rfl) ?_
    refine l_v (v_assign (t := .bool _) rfl) ?_
    refine l_nil ?_
    refine n_then ?_
    refine c_ret ?_
    refine ret1v rfl (by decide) (show _ = (Value.bool _) from rfl) ?_
    refine ⟨?_, E⟩
    have h5 : muchN (rs.drop i) n = n := by
      by_cases hn : n ≤ 20000
      · have : ¬ i < rs.length := fun h => by simp only [Bool.and_eq_false_iff, decide_eq_false_iff_not] at hlt; omega
        rw [List.drop_eq_nil_of_le (by omega)]; rfl
      · exact muchN_stop hn
    rw [muchB, ← h4, h5]
theorem much_c {w : World} {F : Nat → Prop} {v : Value} {e : Int} {rs : List RgV} (HG1 : AgV tMp w F v (e, rs)) : CallsR Try.prog 21 #[v] w (fun o w' => o = .bool (muchB rs) ∧ Ext w w') := by
  obtain ⟨a, c, rfl, HSr, he⟩ := HG1.mp
  refine enter 5 Try.func21 rfl rfl (by simp) ?_
  refine c_seq ?_
  have E := Keep.refl (K := NoK) w
  replace HG1 := HG1.all
  refine wp_reg (by decide +kernel) ?_
  refine l_to (to_box (show _ = (Value.agg _) from rfl) ?_)
  rintro b2 w2 zb2 HB2 e2 z2
  have zs_e2 := e2.size
  replace E := E.trans (Ext.keep e2)
  replace HG1 := HG1.ext e2
  try simp only [Value.cells] at HB2
  refine l_v (v_assign rfl) ?_
  refine l_nil ?_
  refine n_then ?_
  refine c_seq ?_
  refine wp_reg (by decide +kernel) ?_
  refine l_v (v_loadA (by kernel_rfl) rfl (by first | exact HB2.pv | assumption) rfl) ?_
  refine l_to (to_f2 (by kernel_rfl) (show _ = (Value.agg _) from rfl) (show _ = (Value.int _ _) from rfl) (CallsR.mono (Much_c HG1) ?_))
  rintro _ w101 ⟨rfl, e101⟩
  have zs_e101 := e101.size
  replace E := E.trans (Ext.keep e101)
  replace HG1 := HG1.ext e101
  replace HB2 := HB2.ext e101
  refine l_v (v_assign (t := .bool _) rfl) ?_
  refine l_nil ?_
  refine n_then ?_
  refine c_ret ?_
  refine ret1v rfl (by decide) (show _ = (Value.bool _) from rfl) ?_
  exact ⟨rfl, E⟩
theorem RangesMay_c {w : World} {F : Nat → Prop} {v : Value} {e : Int} {rs : List RgV} (HG1 : AgV tMp w F v (e, rs)) : CallsR Try.prog 4 #[v] w (fun o w' => o = .bool true ∧ Ext w w') := by
  obtain ⟨a, c, rfl, HSr, he⟩ := HG1.mp
  refine enter 15 Try.func4 rfl rfl (by simp) ?_
  refine c_seq ?_
  have E := Keep.refl (K := NoK) w
  replace HG1 := HG1.all
  refine wp_reg (by decide +kernel) ?_
  refine l_to (to_box (show _ = (Value.agg _) from rfl) ?_)
  rintro b2 w2 zb2 HB2 e2 z2
  have zs_e2 := e2.size
  replace E := E.trans (Ext.keep e2)
  replace HG1 := HG1.ext e2
  try simp only [Value.cells] at HB2
  refine l_v (v_assign rfl) ?_
  refine l_nil ?_
  refine n_then ?_
  refine c_seq ?_
  refine wp_regd (NoK) (by kernel_rfl) (by decide +kernel) (by decide +kernel) ?_
  refine rt_v (fun vals w hR hd => v_loadA (by kernel_rfl) rfl (by first | exact (HB2.ext hR).pv | assumption) rfl) ?_
  refine rt_vf (fun vals w hR hd => to_f1 (by kernel_rfl) (hd 0 rfl) (much_c (HG1.ext hR))) ?_
  refine rt_v (fun vals w hR hd => v_move (t := .bool _) (hd 1 rfl)) ?_
  refine rt_g1 rfl (fun vals w hd => hd 2 rfl) (fun vals w hR hd hG => v_loadA (by kernel_rfl) rfl (by first | exact (HB2.ext hR).pv | assumption) rfl) ?_
  refine rt_g1f rfl (fun vals w hd => hd 2 rfl) (fun vals w hR hd hG => to_f1 (by kernel_rfl) (gd hG (hd 3 rfl)) (May_c (HG1.ext hR))) ?_
  refine rt_g1 rfl (fun vals w hd => hd 2 rfl) (fun vals w hR hd hG => v_loadA (by kernel_rfl) rfl (by first | exact (HB2.ext hR).pv | assumption) rfl) ?_
  refine rt_g1f rfl (fun vals w hd => hd 2 rfl) (fun vals w hR hd hG => to_f1 (by kernel_rfl) (gd hG (hd 5 rfl)) (refMay_c (HG1.ext hR))) ?_
  refine rt_g1 rfl (fun vals w hd => hd 2 rfl) (fun vals w hR hd hG => v_beql (by kernel_rfl) (gd hG (hd 4 rfl)) (gd hG (hd 6 rfl))) ?_
  refine rt_g1 rfl (fun vals w hd => hd 2 rfl) (fun vals w hR hd hG => v_move (t := .bool _) (gd hG (hd 7 rfl))) ?_
  refine rt_g2f rfl (fun vals w hd => hd 8 rfl) (fun vals w hR hd hG => to_f0 (by kernel_rfl) (known_c)) ?_
  refine rt_g1 rfl (fun vals w hd => hd 2 rfl) (fun vals w hR hd hG => v_and (gd hG (hd 8 rfl)) (gda hG (hd 9 rfl))) ?_
  refine rt_v (fun vals w hR hd => v_or (hd 2 rfl) (hd 10 rfl)) ?_
  refine rt_v (fun vals w hR hd => v_assign (t := .bool _) (hd 11 rfl)) ?_
  refine rt_nil (fun w101 e101 => ?_)
  rintro _ rfl _ rfl _ rfl _ rfl _ rfl _ rfl _ rfl _ rfl _ rfl _ rfl _ rfl _ rfl _ rfl
  have zs_e101 := e101.size
  replace E := E.trans (Ext.keep e101)
  replace HG1 := HG1.ext e101
  replace HB2 := HB2.ext e101
  refine fin_nil ?_
  refine n_then ?_
  refine c_ret ?_
  refine ret1v rfl (by decide) (show _ = (Value.bool _) from rfl) ?_
  refine ⟨?_, E⟩
  cases muchB rs <;> simp
end Go.Proofs.Ytkaangdfpjkjpaa
