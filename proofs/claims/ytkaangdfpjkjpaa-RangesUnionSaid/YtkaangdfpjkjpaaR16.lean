/- A part of the proof: steps and lemmas for the walks through the given program. -/
import Derived.Test.YtkaangdfpjkjpaaR14
import Derived.Test.YtkaangdfpjkjpaaR15
namespace Go.Proofs.Ytkaangdfpjkjpaa
open Go.Vc
set_option linter.unusedVariables false
set_option linter.unusedSimpArgs false
set_option maxRecDepth 100000

theorem vmin {P : Program} {d : Option Tmp} {ty : TypeId} {p : String} {af : Array Edge} {g : Option (Nat × Bool)} {e : Nat → Value} {w : World} {x y : Operand} {k : IntKind} {i j : Int} {ts : Array TypeId} (hx : ev e x = .int k i) (hy : ev e y = .int k j) : OpVat P ⟨d, .call { callee := .builtin .min, args := #[x, y], argTypes := ts }, ty, p, af, g⟩ e w (.int k (if j < i then j else i)) := v_min hx hy
def muchN : List RgV → Int → Int
  | [], n => n
  | r :: l, n => if n ≤ 20000 then muchN l (n + 1 + (if 20001 < (r.1.length : Int) then 20001 else (r.1.length : Int)) + (if 20001 < (r.2.1.length : Int) then 20001 else (r.2.1.length : Int))) else n
theorem muchN_stop {l : List RgV} {n : Int} (h : ¬ n ≤ 20000) : muchN l n = n := by cases l <;> simp [muchN, h]
def muchB (l : List RgV) : Bool := decide (20000 < muchN l 0)
theorem Much_c {w : World} {F : Nat → Prop} {v : Value} {e : Int} {rs : List RgV} (HG1 : AgV tMp w F v (e, rs)) : CallsR Try.prog 50 #[v, .int .i64 20000] w (fun o w' => o = .bool (muchB rs) ∧ Ext w w') := by
  obtain ⟨a, c, rfl, HSr, he⟩ := HG1.mp
  simp only at HSr he
  have hmx := HSr.len_max
  refine enter 46 Try.func50 rfl rfl (by simp) ?_
  refine c_seq ?_
  have E := Keep.refl (K := NoK) w
  replace HSr := HSr.all
  refine wp_reg (by decide +kernel) ?_
  refine l_to (to_box (show _ = (Value.agg _) from rfl) ?_)
  rintro b101 w101 zb101 HB101 e101 z101
  have zs_e101 := e101.size
  replace E := E.trans (Ext.keep e101)
  replace HSr := HSr.ext e101
  try simp only [Value.cells] at HB101
  refine l_v (v_assign rfl) ?_
  refine l_nil ?_
  refine n_then ?_
  refine c_seq ?_
  refine wp_reg (by decide +kernel) ?_
  refine l_v (v_assign rfl) ?_
  refine l_nil ?_
  refine n_then ?_
  refine c_seq ?_
  refine c_seq ?_
  refine wp_reg (by decide +kernel) ?_
  refine l_v (v_assign rfl) ?_
  refine l_nil ?_
  refine n_then ?_
  refine c_block ?_
  refine c_loop (τ := Nat × Int) [5, 6, 7, 8, 9, 10, 11, 12, 13, 14, 15, 16, 17, 18, 19, 20, 21, 22, 23, 24, 25, 26, 27, 28, 29, 30, 31, 32, 33, 34, 35, 36, 37, 38, 39, 40, 41, 42] (fun (i, n) => [(5, .int .i64 n), (6, .int .i64 i)]) (fun (i, n) W => Ext w W ∧ Keep (NoK) w101 W ∧ i ≤ rs.length ∧ 0 ≤ n ∧ n ≤ 100000 ∧ muchN (rs.drop i) n = muchN rs 0) (fun (i, n) => rs.length - i) (0, 0) (by exact ⟨rfl, rfl, trivial⟩) (by exact ⟨E, Keep.refl _, Nat.zero_le _, by omega, by omega, by rw [List.drop_zero]⟩) ?_
  rintro ⟨i, n⟩ w102 j ⟨E, EL1, h1, h2, h3, h4⟩
  have zs_EL1 := EL1.size
  replace HSr := HSr.ext EL1
  replace HB101 := HB101.ext EL1
  refine c_seq ?_
  refine c_seq ?_
  refine wp_reg (by decide +kernel) ?_
  refine l_v (v_move (t := .int _ _) rfl) ?_
  refine l_v (v_fieldAddr (off := 1) (ft := 22) (by kernel_rfl) rfl) ?_
  refine l_v (v_load (by kernel_rfl) rfl (by first | exact HB101.pv 1 _ rfl | assumption)) ?_
  refine l_v (v_len (et := 37) (by kernel_rfl) rfl) ?_
  refine l_v (v_lss rfl rfl) ?_
  refine l_v (v_move (t := .bool _) rfl) ?_
  refine l_g1 rfl rfl (fun hG => v_move (t := .int _ _) rfl) ?_
  refine l_g1 rfl rfl (fun hG => v_move (t := .int _ _) rfl) ?_
  refine l_g1 rfl rfl (fun hG => v_leq (gd hG rfl) (gd hG rfl)) ?_
  refine l_v (v_and rfl rfl) ?_
  refine l_nil ?_
  refine n_then ?_
  refine c_cond rfl rfl (fun hlt => ?_) (fun hlt => ?_)
  · skip
    have hlt2 : i < rs.length ∧ n ≤ 20000 := by simp only [Bool.and_eq_true, decide_eq_true_eq] at hlt; omega
    obtain ⟨r, hx, hdr⟩ := getE (l := rs) (i := i) (by omega)
    obtain ⟨q, cs, hq, hF, _, HPq, hr⟩ := HSr.el hx
    cases hq
    obtain ⟨a1, c1, a2, c2, rfl, HSf, HSt, hg⟩ := tRg_cells hr
    rw [hdr, muchN, if_pos hlt2.2] at h4
    refine c_skip ?_
    refine n_then ?_
    refine c_seq ?_
    refine c_block ?_
    refine wp_regd (NoK) (by kernel_rfl) (by decide +kernel) (by decide +kernel) ?_
    refine rt_v (fun vals w hR hd => v_move (t := .int _ _) rfl) ?_
    refine rt_v (fun vals w hR hd => v_add (hd 0 rfl) rfl (by first | exact wr_i64 (by omega) (by omega) | rfl)) ?_
    refine rt_v (fun vals w hR hd => v_fieldAddr (off := 1) (ft := 22) (by kernel_rfl) rfl) ?_
    refine rt_v (fun vals w hR hd => v_load (by kernel_rfl) (hd 2 rfl) (by first | exact (HPq.ext hR) 1 _ rfl | exact (HB101.ext hR).pv 1 _ rfl | assumption)) ?_
    refine rt_v (fun vals w hR hd => v_move (t := .int _ _) rfl) ?_
    refine rt_v (fun vals w hR hd => v_indexAddr (et := 37) (sz := 4) (k := i) (by kernel_rfl) (by kernel_rfl) (hd 3 rfl) (hd 4 rfl) (by first | rfl | omega) (by omega)) ?_
    refine rt_v (fun vals w hR hd => v_fieldAddr (off := 0) (ft := 35) (by kernel_rfl) (hd 5 rfl)) ?_
    refine rt_v (fun vals w hR hd => v_load (by kernel_rfl) (hd 6 rfl) (by first | exact (HPq.ext hR) 0 _ rfl | exact (HB101.ext hR).pv 0 _ rfl | assumption)) ?_
    refine rt_v (fun vals w hR hd => v_len (et := 5) (by kernel_rfl) (hd 7 rfl)) ?_
    refine rt_v (fun vals w hR hd => v_move (t := .int _ _) rfl) ?_
    refine rt_v (fun vals w hR hd => v_add (hd 9 rfl) rfl (by first | exact wr_i64 (by omega) (by omega) | rfl)) ?_
    refine rt_v (fun vals w hR hd => vmin (hd 8 rfl) (hd 10 rfl)) ?_
    refine rt_v (fun vals w hR hd => v_add (hd 1 rfl) (hd 11 rfl) (by first | exact wr_i64 (by omega) (by omega) | rfl)) ?_
    refine rt_v (fun vals w hR hd => v_fieldAddr (off := 1) (ft := 22) (by kernel_rfl) rfl) ?_
    refine rt_v (fun vals w hR hd => v_load (by kernel_rfl) (hd 13 rfl) (by first | exact (HPq.ext hR) 1 _ rfl | exact (HB101.ext hR).pv 1 _ rfl | assumption)) ?_
    refine rt_v (fun vals w hR hd => v_move (t := .int _ _) rfl) ?_
    refine rt_v (fun vals w hR hd => v_indexAddr (et := 37) (sz := 4) (k := i) (by kernel_rfl) (by kernel_rfl) (hd 14 rfl) (hd 15 rfl) (by first | rfl | omega) (by omega)) ?_
    refine rt_v (fun vals w hR hd => v_fieldAddr (off := 1) (ft := 35) (by kernel_rfl) (hd 16 rfl)) ?_
    refine rt_v (fun vals w hR hd => v_load (by kernel_rfl) (hd 17 rfl) (by first | exact (HPq.ext hR) 1 _ rfl | exact (HB101.ext hR).pv 1 _ rfl | assumption)) ?_
    refine rt_v (fun vals w hR hd => v_len (et := 5) (by kernel_rfl) (hd 18 rfl)) ?_
    refine rt_v (fun vals w hR hd => v_move (t := .int _ _) rfl) ?_
    refine rt_v (fun vals w hR hd => v_add (hd 20 rfl) rfl (by first | exact wr_i64 (by omega) (by omega) | rfl)) ?_
    refine rt_v (fun vals w hR hd => vmin (hd 19 rfl) (hd 21 rfl)) ?_
    refine rt_v (fun vals w hR hd => v_add (hd 12 rfl) (hd 22 rfl) (by first | exact wr_i64 (by omega) (by omega) | rfl)) ?_
    refine rt_v (fun vals w hR hd => v_assign (t := .int _ _) (hd 23 rfl)) ?_
    refine rt_nil (fun w103 e103 => ?_)
    rintro _ rfl _ rfl _ rfl _ rfl _ rfl _ rfl _ rfl _ rfl _ rfl _ rfl _ rfl _ rfl _ rfl _ rfl _ rfl _ rfl _ rfl _ rfl _ rfl _ rfl _ rfl _ rfl _ rfl _ rfl _ rfl
    have zs_e103 := e103.size
    replace E := E.trans (Ext.keep e103)
    replace HSr := HSr.ext e103
    replace HB101 := HB101.ext e103
    replace EL1 := EL1.trans (Ext.keep e103)
    replace HPq := HPq.ext e103
    refine fin_nil ?_
    refine n_blk ?_
    refine n_then ?_
    refine wp_reg (by decide +kernel) ?_
    refine l_v (v_move (t := .int _ _) rfl) ?_
    refine l_v (v_add rfl rfl (by first | exact wr_i64 (by omega) (by omega) | rfl)) ?_
    refine l_v (v_assign (t := .int _ _) rfl) ?_
    refine l_nil ?_
    refine n_then ?_
    refine ⟨(i + 1, n + 1 + (if 20001 < (r.1.length : Int) then 20001 else (r.1.length : Int)) + (if 20001 < (r.2.1.length : Int) then 20001 else (r.2.1.length : Int))), _, rfl, by (repeat (first | exact Off.of_over _ _ _ | refine Off.upd ?_ (by decide) _)), ⟨by first | rfl | exact congrArg (Value.int _) (by omega) | (simp; done), by first | rfl | exact congrArg (Value.int _) (by omega) | (simp; done), trivial⟩, ⟨E, EL1, ?_⟩, ?_⟩
    · skip
      exact ⟨by omega, by omega, by omega, h4⟩
    · (dsimp only; omega)
  · skip
    refine c_exit ?_
    refine x_then ?_
    refine x_then ?_
    refine x_hit ?_
    refine n_then ?_
    refine c_seq ?_
    refine wp_reg (by decide +kernel) ?_
    refine l_v (v_move (t := .int _ _) rfl) ?_
    refine l_v (v_move (t := .int _ _) rfl) ?_
    refine l_v (v_gtr rfl rfl) ?_
    refine l_v (v_assign (t := .bool _) rfl) ?_
    refine l_nil ?_
    refine n_then ?_
    refine c_ret ?_
    refine ret1v rfl (by decide) (show _ = (Value.bool _) from rfl) ?_
    refine ⟨?_, E⟩
    have h5 : muchN (rs.drop i) n = n := by
      by_cases hn : n ≤ 20000
      · have : ¬ i < rs.length := fun h => by simp only [Bool.and_eq_false_iff, decide_eq_false_iff_not] at hlt; omega
        rw [List.drop_eq_nil_of_le (by omega)]; rfl
      · exact muchN_stop hn
    rw [muchB, ← h4, h5]
theorem much_c {w : World} {F : Nat → Prop} {v : Value} {e : Int} {rs : List RgV} (HG1 : AgV tMp w F v (e, rs)) : CallsR Try.prog 21 #[v] w (fun o w' => o = .bool (muchB rs) ∧ Ext w w') := by
  obtain ⟨a, c, rfl, HSr, he⟩ := HG1.mp
  refine enter 5 Try.func21 rfl rfl (by simp) ?_
  refine c_seq ?_
  have E := Keep.refl (K := NoK) w
  replace HG1 := HG1.all
  refine wp_reg (by decide +kernel) ?_
  refine l_to (to_box (show _ = (Value.agg _) from rfl) ?_)
  rintro b2 w2 zb2 HB2 e2 z2
  have zs_e2 := e2.size
  replace E := E.trans (Ext.keep e2)
  replace HG1 := HG1.ext e2
  try simp only [Value.cells] at HB2
  refine l_v (v_assign rfl) ?_
  refine l_nil ?_
  refine n_then ?_
  refine c_seq ?_
  refine wp_reg (by decide +kernel) ?_
  refine l_v (v_loadA (by kernel_rfl) rfl (by first | exact HB2.pv | assumption) rfl) ?_
  refine l_to (to_f2 (by kernel_rfl) (show _ = (Value.agg _) from rfl) (show _ = (Value.int _ _) from rfl) (CallsR.mono (Much_c HG1) ?_))
  rintro _ w101 ⟨rfl, e101⟩
  have zs_e101 := e101.size
  replace E := E.trans (Ext.keep e101)
  replace HG1 := HG1.ext e101
  replace HB2 := HB2.ext e101
  refine l_v (v_assign (t := .bool _) rfl) ?_
  refine l_nil ?_
  refine n_then ?_
  refine c_ret ?_
  refine ret1v rfl (by decide) (show _ = (Value.bool _) from rfl) ?_
  exact ⟨rfl, E⟩
theorem RangesMay_c {w : World} {F : Nat → Prop} {v : Value} {e : Int} {rs : List RgV} (HG1 : AgV tMp w F v (e, rs)) : CallsR Try.prog 4 #[v] w (fun o w' => o = .bool true ∧ Ext w w') := by
  obtain ⟨a, c, rfl, HSr, he⟩ := HG1.mp
  refine enter 15 Try.func4 rfl rfl (by simp) ?_
  refine c_seq ?_
  have E := Keep.refl (K := NoK) w
  replace HG1 := HG1.all
  refine wp_reg (by decide +kernel) ?_
  refine l_to (to_box (show _ = (Value.agg _) from rfl) ?_)
  rintro b2 w2 zb2 HB2 e2 z2
  have zs_e2 := e2.size
  replace E := E.trans (Ext.keep e2)
  replace HG1 := HG1.ext e2
  try simp only [Value.cells] at HB2
  refine l_v (v_assign rfl) ?_
  refine l_nil ?_
  refine n_then ?_
  refine c_seq ?_
  refine wp_regd (NoK) (by kernel_rfl) (by decide +kernel) (by decide +kernel) ?_
  refine rt_v (fun vals w hR hd => v_loadA (by kernel_rfl) rfl (by first | exact (HB2.ext hR).pv | assumption) rfl) ?_
  refine rt_vf (fun vals w hR hd => to_f1 (by kernel_rfl) (hd 0 rfl) (much_c (HG1.ext hR))) ?_
  refine rt_v (fun vals w hR hd => v_move (t := .bool _) (hd 1 rfl)) ?_
  refine rt_g1 rfl (fun vals w hd => hd 2 rfl) (fun vals w hR hd hG => v_loadA (by kernel_rfl) rfl (by first | exact (HB2.ext hR).pv | assumption) rfl) ?_
  refine rt_g1f rfl (fun vals w hd => hd 2 rfl) (fun vals w hR hd hG => to_f1 (by kernel_rfl) (gd hG (hd 3 rfl)) (May_c (HG1.ext hR))) ?_
  refine rt_g1 rfl (fun vals w hd => hd 2 rfl) (fun vals w hR hd hG => v_loadA (by kernel_rfl) rfl (by first | exact (HB2.ext hR).pv | assumption) rfl) ?_
  refine rt_g1f rfl (fun vals w hd => hd 2 rfl) (fun vals w hR hd hG => to_f1 (by kernel_rfl) (gd hG (hd 5 rfl)) (refMay_c (HG1.ext hR))) ?_
  refine rt_g1 rfl (fun vals w hd => hd 2 rfl) (fun vals w hR hd hG => v_beql (by kernel_rfl) (gd hG (hd 4 rfl)) (gd hG (hd 6 rfl))) ?_
  refine rt_g1 rfl (fun vals w hd => hd 2 rfl) (fun vals w hR hd hG => v_move (t := .bool _) (gd hG (hd 7 rfl))) ?_
  refine rt_g2f rfl (fun vals w hd => hd 8 rfl) (fun vals w hR hd hG => to_f0 (by kernel_rfl) (known_c)) ?_
  refine rt_g1 rfl (fun vals w hd => hd 2 rfl) (fun vals w hR hd hG => v_and (gd hG (hd 8 rfl)) (gda hG (hd 9 rfl))) ?_
  refine rt_v (fun vals w hR hd => v_or (hd 2 rfl) (hd 10 rfl)) ?_
  refine rt_v (fun vals w hR hd => v_assign (t := .bool _) (hd 11 rfl)) ?_
  refine rt_nil (fun w101 e101 => ?_)
  rintro _ rfl _ rfl _ rfl _ rfl _ rfl _ rfl _ rfl _ rfl _ rfl _ rfl _ rfl _ rfl _ rfl
  have zs_e101 := e101.size
  replace E := E.trans (Ext.keep e101)
  replace HG1 := HG1.ext e101
  replace HB2 := HB2.ext e101
  refine fin_nil ?_
  refine n_then ?_
  refine c_ret ?_
  refine ret1v rfl (by decide) (show _ = (Value.bool _) from rfl) ?_
  refine ⟨?_, E⟩
  cases muchB rs <;> simp
end Go.Proofs.Ytkaangdfpjkjpaa
