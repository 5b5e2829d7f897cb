/- A part of the proof: steps and lemmas for the walks through the given program. -/
import Derived.Test.YtkaangdfpjkjpaaR2
namespace Go.Proofs.Ytkaangdfpjkjpaa
open Go.Vc
set_option linter.unusedVariables false
set_option linter.unusedSimpArgs false
set_option maxRecDepth 100000

/-- two ranges -/
def sameR (r s : RgV) : Bool := decide (r.1 = s.1) && decide (r.2.1 = s.2.1) && (r.2.2.1 == s.2.2.1) && decide (r.2.2.2 = s.2.2.2)
theorem sameR_iff {r s : RgV} : sameR r s = true ↔ r = s := by
  obtain ⟨a, b, c, d⟩ := r; obtain ⟨a', b', c', d'⟩ := s
  simp [sameR, and_assoc]
theorem SameRange_c {w : World} {F G : Nat → Prop} {v u : Value} {r s : RgV} (HG1 : AgV tRg w F v r) (HG2 : AgV tRg w G u s) : CallsR Try.prog 26 #[v, u] w (fun o w' => o = .bool (sameR r s) ∧ Ext w w') := by
  obtain ⟨a1, c1, a2, c2, rfl, HSf, HSt, hg⟩ := HG1.rg
  obtain ⟨a3, c3, a4, c4, rfl, HSg, HSu, hg2⟩ := HG2.rg
  refine enter 35 Try.func26 rfl rfl (by simp) ?_
  refine c_seq ?_
  have E := Keep.refl (K := NoK) w
  replace HSf := HSf.all
  replace HSt := HSt.all
  replace HSg := HSg.all
  replace HSu := HSu.all
  refine wp_reg (by decide +kernel) ?_
  refine l_to (to_box (show _ = (Value.agg _) from rfl) ?_)
  rintro b101 w101 zb101 HB101 e101 z101
  have zs_e101 := e101.size
  replace E := E.trans (Ext.keep e101)
  replace HSf := HSf.ext e101
  replace HSt := HSt.ext e101
  replace HSg := HSg.ext e101
  replace HSu := HSu.ext e101
  try simp only [Value.cells] at HB101
  refine l_to (to_box (show _ = (Value.agg _) from rfl) ?_)
  rintro b102 w102 zb102 HB102 e102 z102
  have zs_e102 := e102.size
  replace E := E.trans (Ext.keep e102)
  replace HSf := HSf.ext e102
  replace HSt := HSt.ext e102
  replace HSg := HSg.ext e102
  replace HSu := HSu.ext e102
  replace HB101 := HB101.ext e102
  try simp only [Value.cells] at HB102
  refine l_v (v_assign rfl) ?_
  refine l_nil ?_
  refine n_then ?_
  refine c_seq ?_
  refine wp_reg (by decide +kernel) ?_
  refine l_v (v_fieldAddr (off := 0) (ft := 35) (by kernel_rfl) rfl) ?_
  refine l_v (v_load (by kernel_rfl) rfl (by first | exact HB102.pv 0 _ rfl | exact HB101.pv 0 _ rfl | assumption)) ?_
  refine l_v (v_b2s (et := 5) (by kernel_rfl) (by kernel_rfl) (by kernel_rfl) rfl HSf) ?_
  refine l_v (v_fieldAddr (off := 0) (ft := 35) (by kernel_rfl) rfl) ?_
  refine l_v (v_load (by kernel_rfl) rfl (by first | exact HB102.pv 0 _ rfl | exact HB101.pv 0 _ rfl | assumption)) ?_
  refine l_v (v_b2s (et := 5) (by kernel_rfl) (by kernel_rfl) (by kernel_rfl) rfl HSg) ?_
  refine l_v (v_seq rfl rfl) ?_
  refine l_v (v_move (t := .bool _) rfl) ?_
  refine l_g1 rfl rfl (fun hG => v_fieldAddr (off := 1) (ft := 35) (by kernel_rfl) rfl) ?_
  refine l_g1 rfl rfl (fun hG => v_load (by kernel_rfl) (gd hG rfl) (by first | exact HB102.pv 1 _ rfl | exact HB101.pv 1 _ rfl | assumption)) ?_
  refine l_g1 rfl rfl (fun hG => v_b2s (et := 5) (by kernel_rfl) (by kernel_rfl) (by kernel_rfl) (gd hG rfl) HSt) ?_
  refine l_g1 rfl rfl (fun hG => v_fieldAddr (off := 1) (ft := 35) (by kernel_rfl) rfl) ?_
  refine l_g1 rfl rfl (fun hG => v_load (by kernel_rfl) (gd hG rfl) (by first | exact HB102.pv 1 _ rfl | exact HB101.pv 1 _ rfl | assumption)) ?_
  refine l_g1 rfl rfl (fun hG => v_b2s (et := 5) (by kernel_rfl) (by kernel_rfl) (by kernel_rfl) (gd hG rfl) HSu) ?_
  refine l_g1 rfl rfl (fun hG => v_seq (gd hG rfl) (gd hG rfl)) ?_
  refine l_v (v_and rfl rfl) ?_
  refine l_v (v_move (t := .bool _) rfl) ?_
  refine l_g1 rfl rfl (fun hG => v_fieldAddr (off := 2) (ft := 4) (by kernel_rfl) rfl) ?_
  refine l_g1 rfl rfl (fun hG => v_load (by kernel_rfl) (gd hG rfl) (by first | exact HB102.pv 2 _ rfl | exact HB101.pv 2 _ rfl | assumption)) ?_
  refine l_g1 rfl rfl (fun hG => v_fieldAddr (off := 2) (ft := 4) (by kernel_rfl) rfl) ?_
  refine l_g1 rfl rfl (fun hG => v_load (by kernel_rfl) (gd hG rfl) (by first | exact HB102.pv 2 _ rfl | exact HB101.pv 2 _ rfl | assumption)) ?_
  refine l_g1 rfl rfl (fun hG => v_beql (by kernel_rfl) (gd hG rfl) (gd hG rfl)) ?_
  refine l_v (v_and rfl rfl) ?_
  refine l_v (v_move (t := .bool _) rfl) ?_
  refine l_g1 rfl rfl (fun hG => v_fieldAddr (off := 3) (ft := 3) (by kernel_rfl) rfl) ?_
  refine l_g1 rfl rfl (fun hG => v_load (by kernel_rfl) (gd hG rfl) (by first | exact HB102.pv 3 _ rfl | exact HB101.pv 3 _ rfl | assumption)) ?_
  refine l_g1 rfl rfl (fun hG => v_fieldAddr (off := 3) (ft := 3) (by kernel_rfl) rfl) ?_
  refine l_g1 rfl rfl (fun hG => v_load (by kernel_rfl) (gd hG rfl) (by first | exact HB102.pv 3 _ rfl | exact HB101.pv 3 _ rfl | assumption)) ?_
  refine l_g1 rfl rfl (fun hG => v_eql (gd hG rfl) (gd hG rfl)) ?_
  refine l_v (v_and rfl rfl) ?_
  refine l_v (v_assign (t := .bool _) rfl) ?_
  refine l_nil ?_
  refine n_then ?_
  refine c_ret ?_
  refine ret1v rfl (by decide) (show _ = (Value.bool _) from rfl) ?_
  refine ⟨?_, E⟩
  rw [sameR]
  all_goals (cases decide (r.1 = s.1) <;> cases decide (r.2.1 = s.2.1) <;> cases (r.2.2.1 == s.2.2.1) <;> rfl)
/-- two maps -/
def sameRs : List RgV → List RgV → Bool
  | [], [] => true
  | r :: l, s :: k => sameR r s && sameRs l k
  | _, _ => false
theorem sameRs_iff : ∀ (l k : List RgV), sameRs l k = true ↔ l = k
  | [], [] => by simp [sameRs]
  | r :: l, s :: k => by simp [sameRs, sameR_iff, sameRs_iff l k]
  | [], _ :: _ => by simp [sameRs]
  | _ :: _, [] => by simp [sameRs]
def sameM (m n : MpV) : Bool := decide (m = n)
theorem refSame_c {w : World} {F G : Nat → Prop} {v u : Value} {m n : MpV} (HG1 : AgV tMp w F v m) (HG2 : AgV tMp w G u n) : CallsR Try.prog 18 #[v, u] w (fun o w' => o = .bool (sameM m n) ∧ Ext w w') := by
  obtain ⟨e, rs⟩ := m
  obtain ⟨e2, ss⟩ := n
  obtain ⟨a, c, rfl, HSr, he⟩ := HG1.mp
  obtain ⟨a2, c2, rfl, HSs, he2⟩ := HG2.mp
  simp only at HSr he HSs he2
  have hmx := HSr.len_max
  have hmx2 := HSs.len_max
  refine enter 39 Try.func18 rfl rfl (by simp) ?_
  refine c_seq ?_
  have E := Keep.refl (K := NoK) w
  replace HSr := HSr.all
  replace HSs := HSs.all
  refine wp_reg (by decide +kernel) ?_
  refine l_to (to_box (show _ = (Value.agg _) from rfl) ?_)
  rintro b101 w101 zb101 HB101 e101 z101
  have zs_e101 := e101.size
  replace E := E.trans (Ext.keep e101)
  replace HSr := HSr.ext e101
  replace HSs := HSs.ext e101
  try simp only [Value.cells] at HB101
  refine l_to (to_box (show _ = (Value.agg _) from rfl) ?_)
  rintro b102 w102 zb102 HB102 e102 z102
  have zs_e102 := e102.size
  replace E := E.trans (Ext.keep e102)
  replace HSr := HSr.ext e102
  replace HSs := HSs.ext e102
  replace HB101 := HB101.ext e102
  try simp only [Value.cells] at HB102
  refine l_v (v_assign rfl) ?_
  refine l_nil ?_
  refine n_then ?_
  refine c_seq ?_
  refine c_seq ?_
  refine wp_reg (by decide +kernel) ?_
  refine l_v (v_fieldAddr (off := 0) (ft := 2) (by kernel_rfl) rfl) ?_
  refine l_v (v_load (by kernel_rfl) rfl (by first | exact HB102.pv 0 _ rfl | exact HB101.pv 0 _ rfl | assumption)) ?_
  refine l_v (v_fieldAddr (off := 0) (ft := 2) (by kernel_rfl) rfl) ?_
  refine l_v (v_load (by kernel_rfl) rfl (by first | exact HB102.pv 0 _ rfl | exact HB101.pv 0 _ rfl | assumption)) ?_
  refine l_v (v_neq rfl rfl) ?_
  refine l_v (v_move (t := .bool _) rfl) ?_
  refine l_g1 rfl rfl (fun hG => v_fieldAddr (off := 1) (ft := 22) (by kernel_rfl) rfl) ?_
  refine l_g1 rfl rfl (fun hG => v_load (by kernel_rfl) (gd hG rfl) (by first | exact HB102.pv 1 _ rfl | exact HB101.pv 1 _ rfl | assumption)) ?_
  refine l_g1 rfl rfl (fun hG => v_len (et := 37) (by kernel_rfl) (gd hG rfl)) ?_
  refine l_g1 rfl rfl (fun hG => v_fieldAddr (off := 1) (ft := 22) (by kernel_rfl) rfl) ?_
  refine l_g1 rfl rfl (fun hG => v_load (by kernel_rfl) (gd hG rfl) (by first | exact HB102.pv 1 _ rfl | exact HB101.pv 1 _ rfl | assumption)) ?_
  refine l_g1 rfl rfl (fun hG => v_len (et := 37) (by kernel_rfl) (gd hG rfl)) ?_
  refine l_g1 rfl rfl (fun hG => v_neq (gd hG rfl) (gd hG rfl)) ?_
  refine l_v (v_or rfl rfl) ?_
  refine l_nil ?_
  refine n_then ?_
  refine c_cond rfl rfl (fun hc => ?_) (fun hc => ?_)
  · skip
    refine c_seq ?_
    refine wp_reg (by decide +kernel) ?_
    refine l_v (v_assign rfl) ?_
    refine l_nil ?_
    refine n_then ?_
    refine c_ret ?_
    refine r_then ?_
    refine ret1v rfl (by decide) (show _ = (Value.bool _) from rfl) ?_
    refine ⟨?_, E⟩
    have hn : ¬ ((e, rs) : MpV) = (e2, ss) := by
      rintro h; cases h; simp at hc
    rw [sameM, decide_eq_false hn]
  · skip
    have he3 : e = e2 ∧ rs.length = ss.length := by
      by_cases h1 : e = e2
      · subst h1; refine ⟨rfl, ?_⟩
        simp at hc; omega
      · simp [h1] at hc
    obtain ⟨rfl, hlen⟩ := he3
    refine c_skip ?_
    refine n_then ?_
    refine c_seq ?_
    refine c_seq ?_
    refine wp_reg (by decide +kernel) ?_
    refine l_v (v_assign rfl) ?_
    refine l_nil ?_
    refine n_then ?_
    refine c_block ?_
    refine c_loop (τ := Nat) [4, 5, 20, 21, 22, 23, 24, 25, 26, 27, 28, 29, 30, 31, 32, 33, 34, 35, 36, 37, 38] (fun i => [(5, .int .i64 i)]) (fun i W => Ext w W ∧ Keep (NoK) w102 W ∧ i ≤ rs.length ∧ rs.take i = ss.take i) (fun i => rs.length - i) 0 (by exact ⟨rfl, trivial⟩) (by exact ⟨E, Keep.refl _, Nat.zero_le _, rfl⟩) ?_
    rintro i w103 j ⟨E, EL1, h1, h2⟩
    have zs_EL1 := EL1.size
    replace HSr := HSr.ext EL1
    replace HSs := HSs.ext EL1
    replace HB101 := HB101.ext EL1
    replace HB102 := HB102.ext EL1
    refine c_seq ?_
    refine c_seq ?_
    refine wp_reg (by decide +kernel) ?_
    refine l_v (v_move (t := .int _ _) rfl) ?_
    refine l_v (v_fieldAddr (off := 1) (ft := 22) (by kernel_rfl) rfl) ?_
    refine l_v (v_load (by kernel_rfl) rfl (by first | exact HB102.pv 1 _ rfl | exact HB101.pv 1 _ rfl | assumption)) ?_
    refine l_v (v_len (et := 37) (by kernel_rfl) rfl) ?_
    refine l_v (v_lss rfl rfl) ?_
    refine l_nil ?_
    refine n_then ?_
    refine c_cond rfl rfl (fun hlt => ?_) (fun hlt => ?_)
    · skip
      have hlt := dtrue hlt
      obtain ⟨r, hx, hdr⟩ := getE (l := rs) (i := i) (by omega)
      obtain ⟨s, hy, hds⟩ := getE (l := ss) (i := i) (by omega)
      obtain ⟨q1, cs1, rfl, hq1, _, HP1, hr1⟩ := HSr.el hx
      obtain ⟨q2, cs2, rfl, hq2, _, HP2, hr2⟩ := HSs.el hy
      have HG5 : AgV tRg _ _ _ r := ⟨cs1, rfl, hr1⟩
      have HG6 : AgV tRg _ _ _ s := ⟨cs2, rfl, hr2⟩
      obtain ⟨b1, d1, b2, d2, rfl, _, _, _⟩ := tRg_cells hr1
      obtain ⟨b3, d3, b4, d4, rfl, _, _, _⟩ := tRg_cells hr2
      refine c_skip ?_
      refine n_then ?_
      refine c_seq ?_
      refine c_block ?_
      refine c_seq ?_
      refine wp_regd (NoK) (by kernel_rfl) (by decide +kernel) (by decide +kernel) ?_
      refine rt_v (fun vals w hR hd => v_fieldAddr (off := 1) (ft := 22) (by kernel_rfl) rfl) ?_
      refine rt_v (fun vals w hR hd => v_load (by kernel_rfl) (hd 0 rfl) (by first | exact (HP2.ext hR) 1 _ rfl | exact (HP1.ext hR) 1 _ rfl | exact (HB102.ext hR).pv 1 _ rfl | exact (HB101.ext hR).pv 1 _ rfl | assumption)) ?_
      refine rt_v (fun vals w hR hd => v_move (t := .int _ _) rfl) ?_
      refine rt_v (fun vals w hR hd => v_indexAddr (et := 37) (sz := 4) (k := i) (by kernel_rfl) (by kernel_rfl) (hd 1 rfl) (hd 2 rfl) (by first | rfl | omega) (by omega)) ?_
      refine rt_v (fun vals w hR hd => v_loadA (by kernel_rfl) (hd 3 rfl) (by first | exact (HP2.ext hR) | exact (HP1.ext hR) | exact (HB102.ext hR).pv | exact (HB101.ext hR).pv | assumption) rfl) ?_
      refine rt_v (fun vals w hR hd => v_fieldAddr (off := 1) (ft := 22) (by kernel_rfl) rfl) ?_
      refine rt_v (fun vals w hR hd => v_load (by kernel_rfl) (hd 5 rfl) (by first | exact (HP2.ext hR) 1 _ rfl | exact (HP1.ext hR) 1 _ rfl | exact (HB102.ext hR).pv 1 _ rfl | exact (HB101.ext hR).pv 1 _ rfl | assumption)) ?_
      refine rt_v (fun vals w hR hd => v_move (t := .int _ _) rfl) ?_
      refine rt_v (fun vals w hR hd => v_indexAddr (et := 37) (sz := 4) (k := i) (by kernel_rfl) (by kernel_rfl) (hd 6 rfl) (hd 7 rfl) (by first | rfl | omega) (by omega)) ?_
      refine rt_v (fun vals w hR hd => v_loadA (by kernel_rfl) (hd 8 rfl) (by first | exact (HP2.ext hR) | exact (HP1.ext hR) | exact (HB102.ext hR).pv | exact (HB101.ext hR).pv | assumption) rfl) ?_
      refine rt_vf (fun vals w hR hd => to_f2 (by kernel_rfl) (hd 4 rfl) (hd 9 rfl) (SameRange_c (HG5.ext hR) (HG6.ext hR))) ?_
      refine rt_v (fun vals w hR hd => v_not (hd 10 rfl)) ?_
      refine rt_nil (fun w104 e104 => ?_)
      rintro _ rfl _ rfl _ rfl _ rfl _ rfl _ rfl _ rfl _ rfl _ rfl _ rfl _ rfl _ rfl
      have zs_e104 := e104.size
      replace E := E.trans (Ext.keep e104)
      replace HSr := HSr.ext e104
      replace HSs := HSs.ext e104
      replace HB101 := HB101.ext e104
      replace HB102 := HB102.ext e104
      replace EL1 := EL1.trans (Ext.keep e104)
      replace HP1 := HP1.ext e104
      replace HP2 := HP2.ext e104
      replace HG5 := HG5.ext e104
      replace HG6 := HG6.ext e104
      refine fin_nil ?_
      refine n_then ?_
      refine c_cond rfl rfl (fun h38 => ?_) (fun h38 => ?_)
      · skip
        refine c_seq ?_
        refine wp_reg (by decide +kernel) ?_
        refine l_v (v_assign rfl) ?_
        refine l_nil ?_
        refine n_then ?_
        refine c_ret ?_
        refine r_blk ?_
        refine r_then ?_
        refine r_then ?_
        refine r_blk ?_
        refine r_then ?_
        refine ret1v rfl (by decide) (show _ = (Value.bool _) from rfl) ?_
        refine ⟨?_, E⟩
        have hn : ¬ ((e, rs) : MpV) = (e, ss) := by
          rintro h; cases h
          rw [hx] at hy; cases hy
          rw [sameR_iff.2 rfl] at h38; cases h38
        rw [sameM, decide_eq_false hn]
      · skip
        refine c_skip ?_
        refine n_blk ?_
        refine n_then ?_
        refine wp_reg (by decide +kernel) ?_
        refine l_v (v_move (t := .int _ _) rfl) ?_
        refine l_v (v_add rfl rfl (by first | exact wr_i64 (by omega) (by omega) | rfl)) ?_
        refine l_v (v_assign (t := .int _ _) rfl) ?_
        refine l_nil ?_
        refine n_then ?_
        refine ⟨i + 1, _, rfl, by (repeat (first | exact Off.of_over _ _ _ | refine Off.upd ?_ (by decide) _)), ⟨by first | rfl | exact congrArg (Value.int _) (by omega) | (simp; done), trivial⟩, ⟨E, EL1, ?_⟩, ?_⟩
        · skip
          refine ⟨by omega, ?_⟩
          have hs : r = s := by simp only [Bool.not_eq_false'] at h38; exact sameR_iff.1 h38
          rw [List.take_add_one, List.take_add_one, h2, hx, hy, hs]
        · (dsimp only; omega)
    · skip
      refine c_exit ?_
      refine x_then ?_
      refine x_then ?_
      refine x_hit ?_
      refine n_then ?_
      refine c_seq ?_
      refine wp_reg (by decide +kernel) ?_
      refine l_v (v_assign rfl) ?_
      refine l_nil ?_
      refine n_then ?_
      refine c_ret ?_
      refine ret1v rfl (by decide) (show _ = (Value.bool _) from rfl) ?_
      refine ⟨?_, E⟩
      have h := dfalse hlt
      have : rs = ss := by rw [← List.take_of_length_le (l := rs) (i := i) (by omega), h2, List.take_of_length_le (by omega)]
      subst this; simp [sameM]
theorem New_c {w : World} {g : Int} (hg : -9223372036854775808 ≤ g ∧ g ≤ 9223372036854775807) : CallsR Try.prog 16 #[.int .i64 g] w (fun o w' => (∃ v, o = .tuple #[v, .int .i64 (if grpB g then 0 else 2)] ∧ AgV tMp w' (fun b => w.heap.size ≤ b) v (if grpB g then (1, [([], [], false, g)]) else (0, []))) ∧ Ext w w') := by
  refine enter 12 Try.func16 rfl rfl (by simp) ?_
  refine c_seq ?_
  have E := Keep.refl (K := NoK) w
  refine wp_reg (by decide +kernel) ?_
  refine l_to (to_alloc (z := .agg #[.int .i64 0, .slice none 0 0]) (by unfold kZero; kernel_rfl) ?_)
  rintro b101 w101 zb101 HB101 e101 z101
  have zs_e101 := e101.size
  replace E := E.trans (Ext.keep e101)
  try simp only [Value.cells] at HB101
  refine l_v (v_assign rfl) ?_
  refine l_nil ?_
  refine n_then ?_
  refine c_seq ?_
  refine c_seq ?_
  refine wp_reg (by decide +kernel) ?_
  refine l_v (v_move (t := .int _ _) rfl) ?_
  refine l_to (to_f1 (by kernel_rfl) (show _ = (Value.int _ _) from rfl) (CallsR.mono (group_c) ?_))
  rintro _ w102 ⟨rfl, e102⟩
  have zs_e102 := e102.size
  replace E := E.trans (Ext.keep e102)
  replace HB101 := HB101.ext e102
  refine l_v (v_not rfl) ?_
  refine l_nil ?_
  refine n_then ?_
  refine c_cond rfl rfl (fun hc => ?_) (fun hc => ?_)
  · skip
    refine c_seq ?_
    refine wp_reg (by decide +kernel) ?_
    refine l_v (v_build (pl := [(0, 1), (1, 1)]) (z := .agg #[.int .i64 0, .slice none 0 0]) (zl := [.int .i64 0, .slice none 0 0]) (by kernel_rfl) (by unfold kZero; kernel_rfl) rfl rfl (cells := [_, _]) rfl) ?_
    refine l_to (to_storeA (n := 2) rfl rfl (show _ = (Value.agg _) from rfl) (by kernel_rfl) rfl (by first | (simp [slice_one]; done) | (simp only [List.forall_mem_cons, List.cons_append, List.nil_append]; repeat' (first | exact rfl | apply And.intro | (intro u hu; cases hu; done)))) HB101 (by first | exact of_decide_eq_true rfl | (simp; done) | decide) ?_)
    rintro w103 HX103 k103 z103
    have zs_k103 := k103.size
    replace E := E.step k103 (by intro i hi he; have he0 := he; have hi := hi; have he := he; (try dsimp only [NoK] at hi he ⊢); (try simp only [Value.ownBlock, Option.some.injEq] at he); first | exact he.elim | omega | exact he)
    replace HB101 := HX103
    clear HX103
    try simp only [List.set_cons_zero, List.set_cons_succ, setAt, List.take_zero, List.take_succ_cons, List.drop_zero, List.drop_succ_cons, List.nil_append, List.cons_append, List.append_nil, List.length_cons, List.length_nil, Nat.zero_add, Nat.reduceAdd, List.drop_nil] at HB101
    refine l_v (v_assign rfl) ?_
    refine l_nil ?_
    refine n_then ?_
    refine c_ret ?_
    refine r_then ?_
    refine ret2cv (n := 2) rfl (by decide) (by decide) rfl (by kernel_rfl) HB101.pv rfl (show _ = (Value.int _ _) from rfl) ?_
    have h : grpB g = false := by simpa using hc
    rw [h]
    exact ⟨⟨_, rfl, AgV.mkMp (SlV.nil _ _ _) (by omega)⟩, E⟩
  · skip
    have h : grpB g = true := by simpa using hc
    refine c_skip ?_
    refine n_then ?_
    refine c_seq ?_
    refine wp_reg (by decide +kernel) ?_
    refine l_v (v_move (t := .int _ _) rfl) ?_
    refine l_v (v_build (pl := [(0, 1), (1, 1), (2, 1), (3, 1)]) (z := .agg #[.slice none 0 0, .slice none 0 0, .bool false, .int .i64 0]) (zl := [.slice none 0 0, .slice none 0 0, .bool false, .int .i64 0]) (by kernel_rfl) (by unfold kZero; kernel_rfl) rfl rfl (cells := [_, _, _, _]) rfl) ?_
    refine l_to (to_slice1 (t := tRg) (et := 37) (bytes := 64) (by kernel_rfl) (by decide) (show _ = (Value.agg _) from rfl) (tRg_mk (SlV.nil tU8 _ NoK) (SlV.nil tU8 _ NoK) hg) ?_)
    rintro b5 w5 zb5 HO5 e5 z5
    have zs_e5 := e5.size
    replace E := E.trans (Ext.keep e5)
    replace HB101 := HB101.ext e5
    have zo_HO5 := fun (b : Nat) h => HO5.own_lt (b := b) h
    refine l_v (v_build (pl := [(0, 1), (1, 1)]) (z := .agg #[.int .i64 0, .slice none 0 0]) (zl := [.int .i64 0, .slice none 0 0]) (by kernel_rfl) (by unfold kZero; kernel_rfl) rfl rfl (cells := [_, _]) rfl) ?_
    refine l_to (to_storeA (n := 2) rfl rfl (show _ = (Value.agg _) from rfl) (by kernel_rfl) rfl (by first | (simp [slice_one]; done) | (simp only [List.forall_mem_cons, List.cons_append, List.nil_append]; repeat' (first | exact rfl | apply And.intro | (intro u hu; cases hu; done)))) HB101 (by first | exact of_decide_eq_true rfl | (simp; done) | decide) ?_)
    rintro w104 HX104 k104 z104
    have zs_k104 := k104.size
    replace E := E.step k104 (by intro i hi he; have he0 := he; have hi := hi; have he := he; (try dsimp only [NoK] at hi he ⊢); (try simp only [Value.ownBlock, Option.some.injEq] at he); first | exact he.elim | omega | exact he)
    replace HO5 := HO5.keep k104 (by intro i ho he; have he0 := he; have ho0 := ho; (try dsimp only [NoK] at he); (try simp only [Value.ownBlock, Option.some.injEq, reduceCtorEq] at ho); (try simp only [Value.ownBlock, Option.some.injEq, reduceCtorEq] at he); first | exact he.elim | exact ho.elim | omega | (have := zo_HO5 _ ho0; omega)) (by intro i _ hi _ he; have he0 := he; have hi := hi; have he := he; (try dsimp only [NoK, AllB] at hi he); (try simp only [Value.ownBlock, Option.some.injEq, reduceCtorEq] at he); first | exact hi.elim | exact hi.1.elim | exact he.elim | omega | (rcases hi with hi | hi <;> omega) | (rcases he with he | he <;> omega))
    replace HB101 := HX104
    clear HX104
    try simp only [List.set_cons_zero, List.set_cons_succ, setAt, List.take_zero, List.take_succ_cons, List.drop_zero, List.drop_succ_cons, List.nil_append, List.cons_append, List.append_nil, List.length_cons, List.length_nil, Nat.zero_add, Nat.reduceAdd, List.drop_nil] at HB101
    refine l_v (v_assign rfl) ?_
    refine l_nil ?_
    refine n_then ?_
    refine c_ret ?_
    refine ret2cv (n := 2) rfl (by decide) (by decide) rfl (by kernel_rfl) HB101.pv rfl (show _ = (Value.int _ _) from rfl) ?_
    rw [h]
    exact ⟨⟨_, rfl, AgV.mkMp (HO5.view.mono fun b _ h => by rcases h with h | h; omega; exact h.1.elim) (by omega)⟩, E⟩
theorem refNew_c {w : World} {g : Int} (hg : -9223372036854775808 ≤ g ∧ g ≤ 9223372036854775807) : CallsR Try.prog 17 #[.int .i64 g] w (fun o w' => (∃ v, o = .tuple #[v, .int .i64 (if grpB g then 0 else 2)] ∧ AgV tMp w' (fun b => w.heap.size ≤ b) v (if grpB g then (1, [([], [], false, g)]) else (0, []))) ∧ Ext w w') := by
  refine enter 15 Try.func17 rfl rfl (by simp) ?_
  refine c_seq ?_
  have E := Keep.refl (K := NoK) w
  refine wp_reg (by decide +kernel) ?_
  refine l_to (to_alloc (z := .agg #[.int .i64 0, .slice none 0 0]) (by unfold kZero; kernel_rfl) ?_)
  rintro b101 w101 zb101 HB101 e101 z101
  have zs_e101 := e101.size
  replace E := E.trans (Ext.keep e101)
  try simp only [Value.cells] at HB101
  refine l_v (v_assign rfl) ?_
  refine l_nil ?_
  refine n_then ?_
  refine c_seq ?_
  refine c_seq ?_
  refine wp_reg (by decide +kernel) ?_
  refine l_v (v_move (t := .int _ _) rfl) ?_
  refine l_v (v_lss rfl rfl) ?_
  refine l_v (v_move (t := .bool _) rfl) ?_
  refine l_g1 rfl rfl (fun hG => v_move (t := .int _ _) rfl) ?_
  refine l_g1 rfl rfl (fun hG => v_geq (gd hG rfl) rfl) ?_
  refine l_v (v_or rfl rfl) ?_
  refine l_nil ?_
  refine n_then ?_
  refine c_cond rfl rfl (fun hc => ?_) (fun hc => ?_)
  · skip
    refine c_seq ?_
    refine wp_reg (by decide +kernel) ?_
    refine l_v (v_build (pl := [(0, 1), (1, 1)]) (z := .agg #[.int .i64 0, .slice none 0 0]) (zl := [.int .i64 0, .slice none 0 0]) (by kernel_rfl) (by unfold kZero; kernel_rfl) rfl rfl (cells := [_, _]) rfl) ?_
    refine l_to (to_storeA (n := 2) rfl rfl (show _ = (Value.agg _) from rfl) (by kernel_rfl) rfl (by first | (simp [slice_one]; done) | (simp only [List.forall_mem_cons, List.cons_append, List.nil_append]; repeat' (first | exact rfl | apply And.intro | (intro u hu; cases hu; done)))) HB101 (by first | exact of_decide_eq_true rfl | (simp; done) | decide) ?_)
    rintro w102 HX102 k102 z102
    have zs_k102 := k102.size
    replace E := E.step k102 (by intro i hi he; have he0 := he; have hi := hi; have he := he; (try dsimp only [NoK] at hi he ⊢); (try simp only [Value.ownBlock, Option.some.injEq] at he); first | exact he.elim | omega | exact he)
    replace HB101 := HX102
    clear HX102
    try simp only [List.set_cons_zero, List.set_cons_succ, setAt, List.take_zero, List.take_succ_cons, List.drop_zero, List.drop_succ_cons, List.nil_append, List.cons_append, List.append_nil, List.length_cons, List.length_nil, Nat.zero_add, Nat.reduceAdd, List.drop_nil] at HB101
    refine l_v (v_assign rfl) ?_
    refine l_nil ?_
    refine n_then ?_
    refine c_ret ?_
    refine r_then ?_
    refine ret2cv (n := 2) rfl (by decide) (by decide) rfl (by kernel_rfl) HB101.pv rfl (show _ = (Value.int _ _) from rfl) ?_
    have h : grpB g = false := by
      simp only [Bool.or_eq_true, decide_eq_true_eq] at hc
      unfold grpB
      rcases hc with hc | hc
      · rw [decide_eq_false (by omega : ¬ 1 ≤ g)]; rfl
      · rw [decide_eq_false (by omega : ¬ g < 5)]; simp
    rw [h]
    exact ⟨⟨_, rfl, AgV.mkMp (SlV.nil _ _ _) (by omega)⟩, E⟩
  · skip
    have h : grpB g = true := by
      simp only [Bool.or_eq_false_iff, decide_eq_false_iff_not] at hc
      unfold grpB
      rw [decide_eq_true (by omega : 1 ≤ g), decide_eq_true (by omega : g < 5)]; rfl
    refine c_skip ?_
    refine n_then ?_
    refine c_seq ?_
    refine wp_reg (by decide +kernel) ?_
    refine l_v (v_move (t := .int _ _) rfl) ?_
    refine l_v (v_build (pl := [(0, 1), (1, 1), (2, 1), (3, 1)]) (z := .agg #[.slice none 0 0, .slice none 0 0, .bool false, .int .i64 0]) (zl := [.slice none 0 0, .slice none 0 0, .bool false, .int .i64 0]) (by kernel_rfl) (by unfold kZero; kernel_rfl) rfl rfl (cells := [_, _, _, _]) rfl) ?_
    refine l_to (to_slice1 (t := tRg) (et := 37) (bytes := 64) (by kernel_rfl) (by decide) (show _ = (Value.agg _) from rfl) (tRg_mk (SlV.nil tU8 _ NoK) (SlV.nil tU8 _ NoK) hg) ?_)
    rintro b5 w5 zb5 HO5 e5 z5
    have zs_e5 := e5.size
    replace E := E.trans (Ext.keep e5)
    replace HB101 := HB101.ext e5
    have zo_HO5 := fun (b : Nat) h => HO5.own_lt (b := b) h
    refine l_v (v_build (pl := [(0, 1), (1, 1)]) (z := .agg #[.int .i64 0, .slice none 0 0]) (zl := [.int .i64 0, .slice none 0 0]) (by kernel_rfl) (by unfold kZero; kernel_rfl) rfl rfl (cells := [_, _]) rfl) ?_
    refine l_to (to_storeA (n := 2) rfl rfl (show _ = (Value.agg _) from rfl) (by kernel_rfl) rfl (by first | (simp [slice_one]; done) | (simp only [List.forall_mem_cons, List.cons_append, List.nil_append]; repeat' (first | exact rfl | apply And.intro | (intro u hu; cases hu; done)))) HB101 (by first | exact of_decide_eq_true rfl | (simp; done) | decide) ?_)
    rintro w103 HX103 k103 z103
    have zs_k103 := k103.size
    replace E := E.step k103 (by intro i hi he; have he0 := he; have hi := hi; have he := he; (try dsimp only [NoK] at hi he ⊢); (try simp only [Value.ownBlock, Option.some.injEq] at he); first | exact he.elim | omega | exact he)
    replace HO5 := HO5.keep k103 (by intro i ho he; have he0 := he; have ho0 := ho; (try dsimp only [NoK] at he); (try simp only [Value.ownBlock, Option.some.injEq, reduceCtorEq] at ho); (try simp only [Value.ownBlock, Option.some.injEq, reduceCtorEq] at he); first | exact he.elim | exact ho.elim | omega | (have := zo_HO5 _ ho0; omega)) (by intro i _ hi _ he; have he0 := he; have hi := hi; have he := he; (try dsimp only [NoK, AllB] at hi he); (try simp only [Value.ownBlock, Option.some.injEq, reduceCtorEq] at he); first | exact hi.elim | exact hi.1.elim | exact he.elim | omega | (rcases hi with hi | hi <;> omega) | (rcases he with he | he <;> omega))
    replace HB101 := HX103
    clear HX103
    try simp only [List.set_cons_zero, List.set_cons_succ, setAt, List.take_zero, List.take_succ_cons, List.drop_zero, List.drop_succ_cons, List.nil_append, List.cons_append, List.append_nil, List.length_cons, List.length_nil, Nat.zero_add, Nat.reduceAdd, List.drop_nil] at HB101
    refine l_v (v_assign rfl) ?_
    refine l_nil ?_
    refine n_then ?_
    refine c_ret ?_
    refine ret2cv (n := 2) rfl (by decide) (by decide) rfl (by kernel_rfl) HB101.pv rfl (show _ = (Value.int _ _) from rfl) ?_
    rw [h]
    exact ⟨⟨_, rfl, AgV.mkMp (HO5.view.mono fun b _ h => by rcases h with h | h; omega; exact h.1.elim) (by omega)⟩, E⟩
end Go.Proofs.Ytkaangdfpjkjpaa
