/- A part of the proof: steps and lemmas for the walks through the given program. -/
import Derived.Test.YtaidpdjlchnonaaNa
import Derived.Test.YtaidpdjlchnonaaGr
namespace Go.Proofs.Ytaidpdjlchnonaa
open Go.Vc
set_option linter.unusedVariables false
set_option linter.unusedSimpArgs false
set_option maxRecDepth 100000

theorem vmin {P : Program} {d : Option Tmp} {ty : TypeId} {p : String} {af : Array Edge} {g : Option (Nat × Bool)} {e : Nat → Value} {w : World} {x y : Operand} {k : IntKind} {i j : Int} {ts : Array TypeId} (hx : ev e x = .int k i) (hy : ev e y = .int k j) : OpVat P ⟨d, .call { callee := .builtin .min, args := #[x, y], argTypes := ts }, ty, p, af, g⟩ e w (.int k (if j < i then j else i)) := v_min hx hy
theorem vmax {P : Program} {d : Option Tmp} {ty : TypeId} {p : String} {af : Array Edge} {g : Option (Nat × Bool)} {e : Nat → Value} {w : World} {x y : Operand} {k : IntKind} {i j : Int} {ts : Array TypeId} (hx : ev e x = .int k i) (hy : ev e y = .int k j) : OpVat P ⟨d, .call { callee := .builtin .max, args := #[x, y], argTypes := ts }, ty, p, af, g⟩ e w (.int k (if j > i then j else i)) := v_max hx hy
theorem num_c {w : World} {n : Int} : CallsR Try.prog 17 #[.int .i64 n] w (fun o w' => o = .int .i64 n ∧ Ext w w') := by
  refine enter 4 Try.func17 rfl rfl (by simp) ?_
  refine c_seq ?_
  have E := Keep.refl (K := NoK) w
  refine wp_reg (by decide +kernel) ?_
  refine l_v (v_assign rfl) ?_
  refine l_nil ?_
  refine n_then ?_
  refine c_seq ?_
  refine wp_reg (by decide +kernel) ?_
  refine l_v (v_move (t := .int _ _) rfl) ?_
  refine l_v (v_assign (t := .int _ _) rfl) ?_
  refine l_nil ?_
  refine n_then ?_
  refine c_ret ?_
  refine ret1v rfl (by decide) (show _ = (Value.int _ _) from rfl) ?_
  exact ⟨rfl, E⟩
theorem vote_c {w : World} {a b : Int} : CallsR Try.prog 36 #[.int .i64 a, .int .i64 b] w (fun o w' => o = .agg #[.int .i64 1, .int .i64 a, .int .i64 b, .int .i64 0, .int .i64 1, .int .i64 0, .int .i64 0, .int .i64 0, .slice none 0 0, .bool false, .slice none 0 0] ∧ Ext w w') := by
  refine enter 8 Try.func36 rfl rfl (by simp) ?_
  refine c_seq ?_
  have E := Keep.refl (K := NoK) w
  refine wp_reg (by decide +kernel) ?_
  refine l_to (to_alloc (z := (.agg #[.int .i64 0, .int .i64 0, .int .i64 0, .int .i64 0, .int .i64 0, .int .i64 0, .int .i64 0, .int .i64 0, .slice none 0 0, .bool false, .slice none 0 0])) (by unfold kZero; kernel_rfl) ?_)
  rintro b1 w1 zb1 HB1 e1 z1
  have zs_e1 := e1.size
  replace E := E.trans (Ext.keep e1)
  try simp only [Value.cells] at HB1
  refine l_nil ?_
  refine n_then ?_
  refine c_seq ?_
  refine wp_reg (by decide +kernel) ?_
  refine l_v (v_move (t := .int _ _) rfl) ?_
  refine l_v (v_move (t := .int _ _) rfl) ?_
  refine l_v (v_build (pl := [(0, 1), (1, 1), (2, 1), (3, 1), (4, 1), (5, 1), (6, 1), (7, 1), (8, 1), (9, 1), (10, 1)]) (z := .agg #[.int .i64 0, .int .i64 0, .int .i64 0, .int .i64 0, .int .i64 0, .int .i64 0, .int .i64 0, .int .i64 0, .slice none 0 0, .bool false, .slice none 0 0]) (zl := [.int .i64 0, .int .i64 0, .int .i64 0, .int .i64 0, .int .i64 0, .int .i64 0, .int .i64 0, .int .i64 0, .slice none 0 0, .bool false, .slice none 0 0]) (by kernel_rfl) (by unfold kZero; kernel_rfl) rfl rfl (cells := [_, _, _, _, _, _, _, _, _, _, _]) rfl) ?_
  refine l_to (to_storeA (n := 11) rfl rfl (show _ = (Value.agg _) from rfl) (by kernel_rfl) rfl (by first | (simp [slice_one]; done) | (simp only [List.forall_mem_cons, List.cons_append, List.nil_append]; repeat' (first | exact rfl | apply And.intro | (intro u hu; cases hu; done)))) HB1 (by first | exact of_decide_eq_true rfl | (simp; done) | decide) ?_)
  rintro w101 HX101 k101 z101
  have zs_k101 := k101.size
  replace E := E.step k101 (by intro i hi he; (try dsimp only [NoK] at hi he ⊢); first | exact he.elim | omega | exact he)
  replace HB1 := HX101
  clear HX101
  try simp only [List.set_cons_zero, List.set_cons_succ, setAt, List.take_zero, List.take_succ_cons, List.drop_zero, List.drop_succ_cons, List.nil_append, List.cons_append, List.append_nil, List.length_cons, List.length_nil, Nat.zero_add, Nat.reduceAdd, List.drop_nil] at HB1
  refine l_nil ?_
  refine n_then ?_
  refine c_ret ?_
  refine ret1c (n := 11) rfl (by decide) rfl (by kernel_rfl) HB1.pv rfl ?_
  exact ⟨rfl, E⟩
theorem Size_c {w : World} {F : Nat → Prop} {v : Value} {m : Ms} (HG1 : AgV tMs w F v m) (hs : m.snap.length ≤ 140737488355328) (he : m.ents.length ≤ 140737488355328) : CallsR Try.prog 11 #[v] w (fun o w' => o = .int .i64 (sizeN m : Nat) ∧ Ext w w') := by
  obtain ⟨a1, c1, a2, c2, rfl, HSe, HSs, hw⟩ := HG1.ms
  refine enter 34 Try.func11 rfl rfl (by simp) ?_
  refine c_seq ?_
  have E := Keep.refl (K := NoK) w
  replace HSe := HSe.all
  replace HSs := HSs.all
  refine wp_reg (by decide +kernel) ?_
  refine l_to (to_box (show _ = (Value.agg _) from rfl) ?_)
  rintro b101 w101 zb101 HB101 e101 z101
  have zs_e101 := e101.size
  replace E := E.trans (Ext.keep e101)
  replace HSe := HSe.ext e101
  replace HSs := HSs.ext e101
  try simp only [Value.cells] at HB101
  refine l_v (v_assign rfl) ?_
  refine l_nil ?_
  refine n_then ?_
  refine c_seq ?_
  refine wp_reg (by decide +kernel) ?_
  refine l_v (v_fieldAddr (off := 10) (ft := 24) (by kernel_rfl) rfl) ?_
  refine l_v (v_load (by kernel_rfl) rfl (by first | exact HB101.pv 10 _ rfl | assumption)) ?_
  refine l_v (v_len (et := 5) (by kernel_rfl) rfl) ?_
  refine l_v (v_fieldAddr (off := 8) (ft := 23) (by kernel_rfl) rfl) ?_
  refine l_v (v_load (by kernel_rfl) rfl (by first | exact HB101.pv 8 _ rfl | assumption)) ?_
  refine l_v (v_len (et := 73) (by kernel_rfl) rfl) ?_
  refine l_v (v_add rfl rfl (by first | exact wr_i64 (by omega) (by omega) | rfl)) ?_
  refine l_v (v_assign (t := .int _ _) rfl) ?_
  refine l_nil ?_
  refine n_then ?_
  refine c_seq ?_
  refine c_seq ?_
  refine wp_reg (by decide +kernel) ?_
  refine l_v (v_assign rfl) ?_
  refine l_nil ?_
  refine n_then ?_
  refine c_block ?_
  refine c_loop (τ := Nat × Nat) [3, 4, 12, 13, 14, 15, 16, 17, 18, 19, 20, 21, 22, 23, 24, 25, 26, 27, 28, 29, 30, 31, 32] (fun (i, n) => [(3, .int .i64 n), (4, .int .i64 i)]) (fun (i, n) W => Ext w W ∧ Keep (NoK) w101 W ∧ i ≤ m.ents.length ∧ n ≤ 1000000000000000 ∧ sizeN m = sizeL n (m.ents.drop i)) (fun (i, n) => m.ents.length - i) (0, m.snap.length + m.ents.length) (by exact ⟨rfl, rfl, trivial⟩) (by exact ⟨E, Keep.refl _, Nat.zero_le _, by omega, rfl⟩) ?_
  rintro ⟨i, n⟩ w102 j ⟨E, EL1, h1, h2, h3⟩
  have zs_EL1 := EL1.size
  replace HSe := HSe.ext EL1
  replace HSs := HSs.ext EL1
  replace HB101 := HB101.ext EL1
  refine c_seq ?_
  refine c_seq ?_
  refine wp_reg (by decide +kernel) ?_
  refine l_v (v_move (t := .int _ _) rfl) ?_
  refine l_v (v_fieldAddr (off := 8) (ft := 23) (by kernel_rfl) rfl) ?_
  refine l_v (v_load (by kernel_rfl) rfl (by first | exact HB101.pv 8 _ rfl | assumption)) ?_
  refine l_v (v_len (et := 73) (by kernel_rfl) rfl) ?_
  refine l_v (v_lss rfl rfl) ?_
  refine l_v (v_move (t := .bool _) rfl) ?_
  refine l_g1 rfl rfl (fun hG => v_move (t := .int _ _) rfl) ?_
  refine l_g1 rfl rfl (fun hG => v_lss (gd hG rfl) rfl) ?_
  refine l_v (v_and rfl rfl) ?_
  refine l_nil ?_
  refine n_then ?_
  refine c_cond rfl rfl (fun hlt => ?_) (fun hlt => ?_)
  · skip
    have hlt2 : i < m.ents.length ∧ n < 2097152 := by simp at hlt; omega
    obtain ⟨r, hx, hdr⟩ := getE (l := m.ents) (i := i) (by omega)
    obtain ⟨q, cs, hq, hF, _, HPq, hr⟩ := HSe.el hx
    subst hq
    obtain ⟨a7, c7, rfl, HS7, _⟩ := tEn_cells hr
    have hl7 := HS7.len_max
    refine c_skip ?_
    refine n_then ?_
    refine c_seq ?_
    refine c_block ?_
    refine wp_reg (by decide +kernel) ?_
    refine l_v (v_move (t := .int _ _) rfl) ?_
    refine l_v (v_fieldAddr (off := 8) (ft := 23) (by kernel_rfl) rfl) ?_
    refine l_v (v_load (by kernel_rfl) rfl (by first | exact HPq 8 _ rfl | exact HB101.pv 8 _ rfl | assumption)) ?_
    refine l_v (v_move (t := .int _ _) rfl) ?_
    refine l_v (v_indexAddr (et := 73) (sz := 2) (k := i) (by kernel_rfl) (by kernel_rfl) rfl rfl (by first | rfl | omega) (by omega)) ?_
    refine l_v (v_fieldAddr (off := 1) (ft := 24) (by kernel_rfl) rfl) ?_
    refine l_v (v_load (by kernel_rfl) rfl (by first | exact HPq 1 _ rfl | exact HB101.pv 1 _ rfl | assumption)) ?_
    refine l_v (v_len (et := 5) (by kernel_rfl) rfl) ?_
    refine l_v (vmin rfl rfl) ?_
    refine l_v (v_add rfl rfl (by first | exact wr_i64 (by omega) (by omega) | rfl)) ?_
    refine l_v (v_assign (t := .int _ _) rfl) ?_
    refine l_nil ?_
    refine n_blk ?_
    refine n_then ?_
    refine wp_reg (by decide +kernel) ?_
    refine l_v (v_move (t := .int _ _) rfl) ?_
    refine l_v (v_add rfl rfl (by first | exact wr_i64 (by omega) (by omega) | rfl)) ?_
    refine l_v (v_assign (t := .int _ _) rfl) ?_
    refine l_nil ?_
    refine n_then ?_
    refine ⟨(i + 1, n + min r.2.length 2097152), _, rfl, by (repeat (first | exact Off.of_over _ _ _ | refine Off.upd ?_ (by decide) _ | refine Off.overs ?_ (by decide) _)), ⟨by first | rfl | exact congrArg (Value.int _) (by omega) | (simp; done), by first | rfl | exact congrArg (Value.int _) (by omega) | (simp; done), trivial⟩, ⟨E, EL1, ?_⟩, ?_⟩
    · skip
      refine ⟨by omega, by omega, ?_⟩
      rw [h3, hdr, sizeL, if_pos hlt2.2]
    · (dsimp only; omega)
  · skip
    refine c_exit ?_
    refine x_then ?_
    refine x_then ?_
    refine x_hit ?_
    refine n_then ?_
    refine c_seq ?_
    refine wp_reg (by decide +kernel) ?_
    refine l_v (v_move (t := .int _ _) rfl) ?_
    refine l_v (v_assign (t := .int _ _) rfl) ?_
    refine l_nil ?_
    refine n_then ?_
    refine c_ret ?_
    refine ret1v rfl (by decide) (show _ = (Value.int _ _) from rfl) ?_
    refine ⟨?_, E⟩
    rw [h3]
    have hh : ¬ (i < m.ents.length ∧ n < 2097152) := by simp at hlt; omega
    by_cases h4 : i < m.ents.length
    · obtain ⟨r, hx, hdr⟩ := getE (l := m.ents) (i := i) (by omega)
      rw [hdr, sizeL, if_neg (by omega)]
    · rw [List.drop_eq_nil_of_le (by omega)]; rfl
theorem Same1_c {w : World} {F G : Nat → Prop} {v u : Value} {r s : EnV} (HG1 : AgV tEn w F v r) (HG2 : AgV tEn w G u s) : CallsR Try.prog 69 #[v, u] w (fun o w' => o = .bool (sameE r s) ∧ Ext w w') := by
  obtain ⟨a1, c1, rfl, HSf, hg⟩ := HG1.en
  obtain ⟨a3, c3, rfl, HSg, hg2⟩ := HG2.en
  refine enter 17 Try.func69 rfl rfl (by simp) ?_
  refine c_seq ?_
  have E := Keep.refl (K := NoK) w
  replace HSf := HSf.all
  replace HSg := HSg.all
  refine wp_reg (by decide +kernel) ?_
  refine l_to (to_box (show _ = (Value.agg _) from rfl) ?_)
  rintro b101 w101 zb101 HB101 e101 z101
  have zs_e101 := e101.size
  replace E := E.trans (Ext.keep e101)
  replace HSf := HSf.ext e101
  replace HSg := HSg.ext e101
  try simp only [Value.cells] at HB101
  refine l_to (to_box (show _ = (Value.agg _) from rfl) ?_)
  rintro b102 w102 zb102 HB102 e102 z102
  have zs_e102 := e102.size
  replace E := E.trans (Ext.keep e102)
  replace HSf := HSf.ext e102
  replace HSg := HSg.ext e102
  replace HB101 := HB101.ext e102
  try simp only [Value.cells] at HB102
  refine l_v (v_assign rfl) ?_
  refine l_nil ?_
  refine n_then ?_
  refine c_seq ?_
  refine wp_reg (by decide +kernel) ?_
  refine l_v (v_fieldAddr (off := 0) (ft := 2) (by kernel_rfl) rfl) ?_
  refine l_v (v_load (by kernel_rfl) rfl (by first | exact HB102.pv 0 _ rfl | exact HB101.pv 0 _ rfl | assumption)) ?_
  refine l_v (v_fieldAddr (off := 0) (ft := 2) (by kernel_rfl) rfl) ?_
  refine l_v (v_load (by kernel_rfl) rfl (by first | exact HB102.pv 0 _ rfl | exact HB101.pv 0 _ rfl | assumption)) ?_
  refine l_v (v_eql rfl rfl) ?_
  refine l_v (v_move (t := .bool _) rfl) ?_
  refine l_g1 rfl rfl (fun hG => v_fieldAddr (off := 1) (ft := 24) (by kernel_rfl) rfl) ?_
  refine l_g1 rfl rfl (fun hG => v_load (by kernel_rfl) (gd hG rfl) (by first | exact HB102.pv 1 _ rfl | exact HB101.pv 1 _ rfl | assumption)) ?_
  refine l_g1 rfl rfl (fun hG => v_fieldAddr (off := 1) (ft := 24) (by kernel_rfl) rfl) ?_
  refine l_g1 rfl rfl (fun hG => v_load (by kernel_rfl) (gd hG rfl) (by first | exact HB102.pv 1 _ rfl | exact HB101.pv 1 _ rfl | assumption)) ?_
  refine l_g1f rfl rfl (fun hG => to_f2 (by kernel_rfl) (gd hG rfl) (gd hG rfl) (Equal_c HSf HSg)) ?_
  rintro w103 e103
  have zs_e103 := e103.size
  replace E := E.trans (Ext.keep e103)
  replace HSf := HSf.ext e103
  replace HSg := HSg.ext e103
  replace HB101 := HB101.ext e103
  replace HB102 := HB102.ext e103
  refine l_v (v_and rfl rfl) ?_
  refine l_v (v_assign (t := .bool _) rfl) ?_
  refine l_nil ?_
  refine n_then ?_
  refine c_ret ?_
  refine ret1v rfl (by decide) (show _ = (Value.bool _) from rfl) ?_
  refine ⟨?_, E⟩
  rw [sameE]
  all_goals (cases decide (r.1 = s.1) <;> cases decide (r.2 = s.2) <;> rfl)
theorem EqualFuncE_c {w : World} {F G : Nat → Prop} {v u : Value} {rs ss : List EnV} (HSr : SlV tEn w F v rs) (HSs : SlV tEn w G u ss) : CallsR Try.prog 68 #[v, u, .func (.func 69) #[] #[]] w (fun o w' => o = .bool (decide (rs = ss)) ∧ Ext w w') := by
  obtain ⟨a, c, rfl⟩ := HSr.shape
  obtain ⟨a2, c2, rfl⟩ := HSs.shape
  have hmx := HSr.len_max
  have hmx2 := HSs.len_max
  refine enter 32 Try.func68 rfl rfl (by simp) ?_
  refine c_seq ?_
  have E := Keep.refl (K := NoK) w
  replace HSr := HSr.all
  replace HSs := HSs.all
  refine wp_reg (by decide +kernel) ?_
  refine l_v (v_assign rfl) ?_
  refine l_nil ?_
  refine n_then ?_
  refine c_seq ?_
  refine c_seq ?_
  refine wp_reg (by decide +kernel) ?_
  refine l_v (v_move (t := .slice _ _ _) rfl) ?_
  refine l_v (v_len (et := 73) (by kernel_rfl) rfl) ?_
  refine l_v (v_move (t := .slice _ _ _) rfl) ?_
  refine l_v (v_len (et := 73) (by kernel_rfl) rfl) ?_
  refine l_v (v_neq rfl rfl) ?_
  refine l_nil ?_
  refine n_then ?_
  refine c_cond rfl rfl (fun hc => ?_) (fun hc => ?_)
  · skip
    refine c_seq ?_
    refine wp_reg (by decide +kernel) ?_
    refine l_v (v_assign rfl) ?_
    refine l_nil ?_
    refine n_then ?_
    refine c_ret ?_
    refine r_then ?_
    refine ret1v rfl (by decide) (show _ = (Value.bool _) from rfl) ?_
    refine ⟨?_, E⟩
    rw [decide_eq_false]
    intro h; subst h; simp at hc
  · skip
    have hlen : rs.length = ss.length := by simp at hc; omega
    refine c_skip ?_
    refine n_then ?_
    refine c_seq ?_
    refine c_seq ?_
    refine wp_reg (by decide +kernel) ?_
    refine l_v (v_move (t := .slice _ _ _) rfl) ?_
    refine l_v (v_len (et := 73) (by kernel_rfl) rfl) ?_
    refine l_v (v_move rfl) ?_
    refine l_nil ?_
    refine n_then ?_
    refine c_block ?_
    refine c_loop (τ := Nat) [6, 7, 8, 9, 17, 18, 19, 20, 21, 22, 23, 24, 25, 26, 27, 28, 29, 30, 31] (fun i => [(17, .int .i64 i)]) (fun i W => Ext w W ∧ Keep (NoK) w W ∧ i ≤ rs.length ∧ rs.take i = ss.take i) (fun i => rs.length - i) 0 (by exact ⟨rfl, trivial⟩) (by exact ⟨E, Keep.refl _, Nat.zero_le _, rfl⟩) ?_
    rintro i w101 j ⟨E, EL1, h1, h2⟩
    have zs_EL1 := EL1.size
    replace HSr := HSr.ext EL1
    replace HSs := HSs.ext EL1
    refine c_seq ?_
    refine wp_reg (by decide +kernel) ?_
    refine l_v (v_lss rfl rfl) ?_
    refine l_nil ?_
    refine n_then ?_
    refine c_seq ?_
    refine c_cond rfl rfl (fun hlt => ?_) (fun hlt => ?_)
    · skip
      have hlt := dtrue hlt
      obtain ⟨r, hx, hdr⟩ := getE (l := rs) (i := i) (by omega)
      obtain ⟨s, hy, hds⟩ := getE (l := ss) (i := i) (by omega)
      obtain ⟨q1, cs1, rfl, hq1, _, HP1, hr1⟩ := HSr.el hx
      obtain ⟨q2, cs2, rfl, hq2, _, HP2, hr2⟩ := HSs.el hy
      have HG5 : AgV tEn _ _ _ r := ⟨cs1, rfl, hr1⟩
      have HG6 : AgV tEn _ _ _ s := ⟨cs2, rfl, hr2⟩
      obtain ⟨b1, d1, rfl, _, _⟩ := tEn_cells hr1
      obtain ⟨b3, d3, rfl, _, _⟩ := tEn_cells hr2
      refine c_skip ?_
      refine n_then ?_
      refine c_seq ?_
      refine c_block ?_
      refine c_seq ?_
      refine wp_reg (by decide +kernel) ?_
      refine l_v (v_move (t := .int _ _) rfl) ?_
      refine l_v (v_indexAddr (et := 73) (sz := 2) (k := i) (by kernel_rfl) (by kernel_rfl) rfl rfl (by first | rfl | omega) (by omega)) ?_
      refine l_v (v_loadA (by kernel_rfl) rfl (by first | exact HP2 | exact HP1 | assumption) rfl) ?_
      refine l_to (to_alloc (z := (.agg #[.int .i64 0, .slice none 0 0])) (by unfold kZero; kernel_rfl) ?_)
      rintro b8 w8 zb8 HB8 e8 z8
      have zs_e8 := e8.size
      replace E := E.trans (Ext.keep e8)
      replace HSr := HSr.ext e8
      replace HSs := HSs.ext e8
      replace EL1 := EL1.trans (Ext.keep e8)
      replace HP1 := HP1.ext e8
      replace HP2 := HP2.ext e8
      replace HG5 := HG5.ext e8
      replace HG6 := HG6.ext e8
      try simp only [Value.cells] at HB8
      refine l_v (v_assign (t := .int _ _) rfl) ?_
      refine l_to (to_storeA (n := 2) rfl rfl (show _ = (Value.agg _) from rfl) (by kernel_rfl) rfl (by first | (simp [slice_one]; done) | (simp only [List.forall_mem_cons, List.cons_append, List.nil_append]; repeat' (first | exact rfl | apply And.intro | (intro u hu; cases hu; done)))) HB8 (by first | exact of_decide_eq_true rfl | (simp; done) | decide) ?_)
      rintro w102 HX102 k102 z102
      have zs_k102 := k102.size
      replace E := E.step k102 (by intro i hi he; (try dsimp only [NoK] at hi he ⊢); first | exact he.elim | omega | exact he)
      replace HSr := HSr.keep k102 (by intro i _ hi he; (try dsimp only [NoK, AllB] at hi he); first | exact hi.elim | exact he.elim | omega | (rcases hi with hi | hi <;> omega) | (rcases he with he | he <;> omega))
      replace HSs := HSs.keep k102 (by intro i _ hi he; (try dsimp only [NoK, AllB] at hi he); first | exact hi.elim | exact he.elim | omega | (rcases hi with hi | hi <;> omega) | (rcases he with he | he <;> omega))
      replace EL1 := EL1.step k102 (by intro i hi he; (try dsimp only [NoK] at hi he ⊢); first | exact he.elim | omega | exact he)
      replace HP1 := HP1.keep k102 (by intro h; (try dsimp only at h); (try simp only [add_block] at h); first | omega)
      replace HP2 := HP2.keep k102 (by intro h; (try dsimp only at h); (try simp only [add_block] at h); first | omega)
      replace HG5 := HG5.keep k102 (by intro i _ hi he; (try dsimp only [NoK, AllB] at hi he); first | exact hi.elim | exact he.elim | omega | (rcases hi with hi | hi <;> omega) | (rcases he with he | he <;> omega))
      replace HG6 := HG6.keep k102 (by intro i _ hi he; (try dsimp only [NoK, AllB] at hi he); first | exact hi.elim | exact he.elim | omega | (rcases hi with hi | hi <;> omega) | (rcases he with he | he <;> omega))
      replace HB8 := HX102
      clear HX102
      try simp only [List.set_cons_zero, List.set_cons_succ, setAt, List.take_zero, List.take_succ_cons, List.drop_zero, List.drop_succ_cons, List.nil_append, List.cons_append, List.append_nil, List.length_cons, List.length_nil, Nat.zero_add, Nat.reduceAdd, List.drop_nil] at HB8
      refine l_nil ?_
      refine n_then ?_
      refine c_seq ?_
      refine wp_reg (by decide +kernel) ?_
      refine l_v (v_move (t := .slice _ _ _) rfl) ?_
      refine l_v (v_move (t := .int _ _) rfl) ?_
      refine l_v (v_indexAddr (et := 73) (sz := 2) (k := i) (by kernel_rfl) (by kernel_rfl) rfl rfl (by first | rfl | omega) (by omega)) ?_
      refine l_v (v_loadA (by kernel_rfl) rfl (by first | exact HB8.pv | exact HP2 | exact HP1 | assumption) rfl) ?_
      refine l_to (to_alloc (z := (.agg #[.int .i64 0, .slice none 0 0])) (by unfold kZero; kernel_rfl) ?_)
      rintro b9 w9 zb9 HB9 e9 z9
      have zs_e9 := e9.size
      replace E := E.trans (Ext.keep e9)
      replace HSr := HSr.ext e9
      replace HSs := HSs.ext e9
      replace EL1 := EL1.trans (Ext.keep e9)
      replace HP1 := HP1.ext e9
      replace HP2 := HP2.ext e9
      replace HG5 := HG5.ext e9
      replace HG6 := HG6.ext e9
      replace HB8 := HB8.ext e9
      try simp only [Value.cells] at HB9
      refine l_to (to_storeA (n := 2) rfl rfl (show _ = (Value.agg _) from rfl) (by kernel_rfl) rfl (by first | (simp [slice_one]; done) | (simp only [List.forall_mem_cons, List.cons_append, List.nil_append]; repeat' (first | exact rfl | apply And.intro | (intro u hu; cases hu; done)))) HB9 (by first | exact of_decide_eq_true rfl | (simp; done) | decide) ?_)
      rintro w103 HX103 k103 z103
      have zs_k103 := k103.size
      replace E := E.step k103 (by intro i hi he; (try dsimp only [NoK] at hi he ⊢); first | exact he.elim | omega | exact he)
      replace HSr := HSr.keep k103 (by intro i _ hi he; (try dsimp only [NoK, AllB] at hi he); first | exact hi.elim | exact he.elim | omega | (rcases hi with hi | hi <;> omega) | (rcases he with he | he <;> omega))
      replace HSs := HSs.keep k103 (by intro i _ hi he; (try dsimp only [NoK, AllB] at hi he); first | exact hi.elim | exact he.elim | omega | (rcases hi with hi | hi <;> omega) | (rcases he with he | he <;> omega))
      replace EL1 := EL1.step k103 (by intro i hi he; (try dsimp only [NoK] at hi he ⊢); first | exact he.elim | omega | exact he)
      replace HP1 := HP1.keep k103 (by intro h; (try dsimp only at h); (try simp only [add_block] at h); first | omega)
      replace HP2 := HP2.keep k103 (by intro h; (try dsimp only at h); (try simp only [add_block] at h); first | omega)
      replace HG5 := HG5.keep k103 (by intro i _ hi he; (try dsimp only [NoK, AllB] at hi he); first | exact hi.elim | exact he.elim | omega | (rcases hi with hi | hi <;> omega) | (rcases he with he | he <;> omega))
      replace HG6 := HG6.keep k103 (by intro i _ hi he; (try dsimp only [NoK, AllB] at hi he); first | exact hi.elim | exact he.elim | omega | (rcases hi with hi | hi <;> omega) | (rcases he with he | he <;> omega))
      replace HB8 := HB8.keep k103 (by intro h; (try dsimp only at h); first | omega)
      replace HB9 := HX103
      clear HX103
      try simp only [List.set_cons_zero, List.set_cons_succ, setAt, List.take_zero, List.take_succ_cons, List.drop_zero, List.drop_succ_cons, List.nil_append, List.cons_append, List.append_nil, List.length_cons, List.length_nil, Nat.zero_add, Nat.reduceAdd, List.drop_nil] at HB9
      refine l_nil ?_
      refine n_then ?_
      refine c_seq ?_
      refine wp_reg (by decide +kernel) ?_
      refine l_v (v_move (t := .func _ _ _) rfl) ?_
      refine l_v (v_loadA (by kernel_rfl) rfl (by first | exact HB9.pv | exact HB8.pv | exact HP2 | exact HP1 | assumption) rfl) ?_
      refine l_v (v_loadA (by kernel_rfl) rfl (by first | exact HB9.pv | exact HB8.pv | exact HP2 | exact HP1 | assumption) rfl) ?_
      refine l_to (to_call2 (by kernel_rfl) rfl (show _ = (Value.agg _) from rfl) (show _ = (Value.agg _) from rfl) (CallsR.mono (Same1_c HG5 HG6) ?_))
      rintro _ w10 ⟨rfl, e10⟩
      have zs_e10 := e10.size
      replace E := E.trans (Ext.keep e10)
      replace HSr := HSr.ext e10
      replace HSs := HSs.ext e10
      replace EL1 := EL1.trans (Ext.keep e10)
      replace HP1 := HP1.ext e10
      replace HP2 := HP2.ext e10
      replace HG5 := HG5.ext e10
      replace HG6 := HG6.ext e10
      replace HB8 := HB8.ext e10
      replace HB9 := HB9.ext e10
      refine l_v (v_not rfl) ?_
      refine l_nil ?_
      refine n_then ?_
      refine c_cond rfl rfl (fun h38 => ?_) (fun h38 => ?_)
      · skip
        refine c_seq ?_
        refine wp_reg (by decide +kernel) ?_
        refine l_v (v_assign rfl) ?_
        refine l_nil ?_
        refine n_then ?_
        refine c_ret ?_
        refine r_blk ?_
        refine r_then ?_
        refine r_then ?_
        refine r_blk ?_
        refine r_then ?_
        refine ret1v rfl (by decide) (show _ = (Value.bool _) from rfl) ?_
        refine ⟨?_, E⟩
        rw [decide_eq_false]
        rintro h; cases h
        rw [hx] at hy; cases hy
        rw [sameE_iff.2 rfl] at h38; cases h38
      · skip
        refine c_skip ?_
        refine n_blk ?_
        refine n_then ?_
        refine wp_reg (by decide +kernel) ?_
        refine l_v (v_add rfl rfl (by first | exact wr_i64 (by omega) (by omega) | rfl)) ?_
        refine l_v (v_move (t := .int _ _) rfl) ?_
        refine l_nil ?_
        refine n_then ?_
        refine ⟨i + 1, _, rfl, by (repeat (first | exact Off.of_over _ _ _ | refine Off.upd ?_ (by decide) _ | refine Off.overs ?_ (by decide) _)), ⟨by first | rfl | exact congrArg (Value.int _) (by omega) | (simp; done), trivial⟩, ⟨E, EL1, ?_⟩, ?_⟩
        · skip
          refine ⟨by omega, ?_⟩
          have hs : r = s := by simp only [Bool.not_eq_false'] at h38; exact sameE_iff.1 h38
          rw [List.take_add_one, List.take_add_one, h2, hx, hy, hs]
        · (dsimp only; omega)
    · skip
      refine c_exit ?_
      refine x_then ?_
      refine x_then ?_
      refine x_hit ?_
      refine n_then ?_
      refine c_seq ?_
      refine wp_reg (by decide +kernel) ?_
      refine l_v (v_assign rfl) ?_
      refine l_nil ?_
      refine n_then ?_
      refine c_ret ?_
      refine ret1v rfl (by decide) (show _ = (Value.bool _) from rfl) ?_
      refine ⟨?_, E⟩
      have h := dfalse hlt
      have : rs = ss := by rw [← List.take_of_length_le (l := rs) (i := i) (by omega), h2, List.take_of_length_le (by omega)]
      subst this; simp
theorem Same_c {w : World} {F G : Nat → Prop} {v u : Value} {m n : Ms} (HG1 : AgV tMs w F v m) (HG2 : AgV tMs w G u n) : CallsR Try.prog 28 #[v, u] w (fun o w' => o = .bool (decide (m = n)) ∧ Ext w w') := by
  obtain ⟨a1, c1, a2, c2, rfl, HSe, HSs, hw⟩ := HG1.ms
  obtain ⟨a3, c3, a4, c4, rfl, HSf, HSt, hw2⟩ := HG2.ms
  refine enter 86 Try.func28 rfl rfl (by simp) ?_
  refine c_seq ?_
  have E := Keep.refl (K := NoK) w
  replace HSe := HSe.all
  replace HSs := HSs.all
  replace HSf := HSf.all
  replace HSt := HSt.all
  refine wp_reg (by decide +kernel) ?_
  refine l_to (to_box (show _ = (Value.agg _) from rfl) ?_)
  rintro b101 w101 zb101 HB101 e101 z101
  have zs_e101 := e101.size
  replace E := E.trans (Ext.keep e101)
  replace HSe := HSe.ext e101
  replace HSs := HSs.ext e101
  replace HSf := HSf.ext e101
  replace HSt := HSt.ext e101
  try simp only [Value.cells] at HB101
  refine l_to (to_box (show _ = (Value.agg _) from rfl) ?_)
  rintro b102 w102 zb102 HB102 e102 z102
  have zs_e102 := e102.size
  replace E := E.trans (Ext.keep e102)
  replace HSe := HSe.ext e102
  replace HSs := HSs.ext e102
  replace HSf := HSf.ext e102
  replace HSt := HSt.ext e102
  replace HB101 := HB101.ext e102
  try simp only [Value.cells] at HB102
  refine l_v (v_assign rfl) ?_
  refine l_nil ?_
  refine n_then ?_
  refine c_seq ?_
  refine wp_reg (by decide +kernel) ?_
  refine l_v (v_fieldAddr (off := 0) (ft := 22) (by kernel_rfl) rfl) ?_
  refine l_v (v_load (by kernel_rfl) rfl (by first | exact HB102.pv 0 _ rfl | exact HB101.pv 0 _ rfl | assumption)) ?_
  refine l_v (v_fieldAddr (off := 0) (ft := 22) (by kernel_rfl) rfl) ?_
  refine l_v (v_load (by kernel_rfl) rfl (by first | exact HB102.pv 0 _ rfl | exact HB101.pv 0 _ rfl | assumption)) ?_
  refine l_v (v_eql rfl rfl) ?_
  refine l_v (v_move (t := .bool _) rfl) ?_
  refine l_g1 rfl rfl (fun hG => v_fieldAddr (off := 1) (ft := 3) (by kernel_rfl) rfl) ?_
  refine l_g1 rfl rfl (fun hG => v_load (by kernel_rfl) (gd hG rfl) (by first | exact HB102.pv 1 _ rfl | exact HB101.pv 1 _ rfl | assumption)) ?_
  refine l_g1 rfl rfl (fun hG => v_fieldAddr (off := 1) (ft := 3) (by kernel_rfl) rfl) ?_
  refine l_g1 rfl rfl (fun hG => v_load (by kernel_rfl) (gd hG rfl) (by first | exact HB102.pv 1 _ rfl | exact HB101.pv 1 _ rfl | assumption)) ?_
  refine l_g1 rfl rfl (fun hG => v_eql (gd hG rfl) (gd hG rfl)) ?_
  refine l_v (v_and rfl rfl) ?_
  refine l_v (v_move (t := .bool _) rfl) ?_
  refine l_g1 rfl rfl (fun hG => v_fieldAddr (off := 2) (ft := 3) (by kernel_rfl) rfl) ?_
  refine l_g1 rfl rfl (fun hG => v_load (by kernel_rfl) (gd hG rfl) (by first | exact HB102.pv 2 _ rfl | exact HB101.pv 2 _ rfl | assumption)) ?_
  refine l_g1 rfl rfl (fun hG => v_fieldAddr (off := 2) (ft := 3) (by kernel_rfl) rfl) ?_
  refine l_g1 rfl rfl (fun hG => v_load (by kernel_rfl) (gd hG rfl) (by first | exact HB102.pv 2 _ rfl | exact HB101.pv 2 _ rfl | assumption)) ?_
  refine l_g1 rfl rfl (fun hG => v_eql (gd hG rfl) (gd hG rfl)) ?_
  refine l_v (v_and rfl rfl) ?_
  refine l_v (v_move (t := .bool _) rfl) ?_
  refine l_g1 rfl rfl (fun hG => v_fieldAddr (off := 3) (ft := 3) (by kernel_rfl) rfl) ?_
  refine l_g1 rfl rfl (fun hG => v_load (by kernel_rfl) (gd hG rfl) (by first | exact HB102.pv 3 _ rfl | exact HB101.pv 3 _ rfl | assumption)) ?_
  refine l_g1 rfl rfl (fun hG => v_fieldAddr (off := 3) (ft := 3) (by kernel_rfl) rfl) ?_
  refine l_g1 rfl rfl (fun hG => v_load (by kernel_rfl) (gd hG rfl) (by first | exact HB102.pv 3 _ rfl | exact HB101.pv 3 _ rfl | assumption)) ?_
  refine l_g1 rfl rfl (fun hG => v_eql (gd hG rfl) (gd hG rfl)) ?_
  refine l_v (v_and rfl rfl) ?_
  refine l_v (v_move (t := .bool _) rfl) ?_
  refine l_g1 rfl rfl (fun hG => v_fieldAddr (off := 4) (ft := 2) (by kernel_rfl) rfl) ?_
  refine l_g1 rfl rfl (fun hG => v_load (by kernel_rfl) (gd hG rfl) (by first | exact HB102.pv 4 _ rfl | exact HB101.pv 4 _ rfl | assumption)) ?_
  refine l_g1 rfl rfl (fun hG => v_fieldAddr (off := 4) (ft := 2) (by kernel_rfl) rfl) ?_
  refine l_g1 rfl rfl (fun hG => v_load (by kernel_rfl) (gd hG rfl) (by first | exact HB102.pv 4 _ rfl | exact HB101.pv 4 _ rfl | assumption)) ?_
  refine l_g1 rfl rfl (fun hG => v_eql (gd hG rfl) (gd hG rfl)) ?_
  refine l_v (v_and rfl rfl) ?_
  refine l_v (v_assign (t := .bool _) rfl) ?_
  refine l_nil ?_
  refine n_then ?_
  refine c_seq ?_
  refine wp_reg (by decide +kernel) ?_
  refine l_v (v_fieldAddr (off := 5) (ft := 2) (by kernel_rfl) rfl) ?_
  refine l_v (v_load (by kernel_rfl) rfl (by first | exact HB102.pv 5 _ rfl | exact HB101.pv 5 _ rfl | assumption)) ?_
  refine l_v (v_fieldAddr (off := 5) (ft := 2) (by kernel_rfl) rfl) ?_
  refine l_v (v_load (by kernel_rfl) rfl (by first | exact HB102.pv 5 _ rfl | exact HB101.pv 5 _ rfl | assumption)) ?_
  refine l_v (v_eql rfl rfl) ?_
  refine l_v (v_move (t := .bool _) rfl) ?_
  refine l_g1 rfl rfl (fun hG => v_fieldAddr (off := 6) (ft := 2) (by kernel_rfl) rfl) ?_
  refine l_g1 rfl rfl (fun hG => v_load (by kernel_rfl) (gd hG rfl) (by first | exact HB102.pv 6 _ rfl | exact HB101.pv 6 _ rfl | assumption)) ?_
  refine l_g1 rfl rfl (fun hG => v_fieldAddr (off := 6) (ft := 2) (by kernel_rfl) rfl) ?_
  refine l_g1 rfl rfl (fun hG => v_load (by kernel_rfl) (gd hG rfl) (by first | exact HB102.pv 6 _ rfl | exact HB101.pv 6 _ rfl | assumption)) ?_
  refine l_g1 rfl rfl (fun hG => v_eql (gd hG rfl) (gd hG rfl)) ?_
  refine l_v (v_and rfl rfl) ?_
  refine l_v (v_move (t := .bool _) rfl) ?_
  refine l_g1 rfl rfl (fun hG => v_fieldAddr (off := 7) (ft := 2) (by kernel_rfl) rfl) ?_
  refine l_g1 rfl rfl (fun hG => v_load (by kernel_rfl) (gd hG rfl) (by first | exact HB102.pv 7 _ rfl | exact HB101.pv 7 _ rfl | assumption)) ?_
  refine l_g1 rfl rfl (fun hG => v_fieldAddr (off := 7) (ft := 2) (by kernel_rfl) rfl) ?_
  refine l_g1 rfl rfl (fun hG => v_load (by kernel_rfl) (gd hG rfl) (by first | exact HB102.pv 7 _ rfl | exact HB101.pv 7 _ rfl | assumption)) ?_
  refine l_g1 rfl rfl (fun hG => v_eql (gd hG rfl) (gd hG rfl)) ?_
  refine l_v (v_and rfl rfl) ?_
  refine l_v (v_move (t := .bool _) rfl) ?_
  refine l_g1 rfl rfl (fun hG => v_fieldAddr (off := 9) (ft := 4) (by kernel_rfl) rfl) ?_
  refine l_g1 rfl rfl (fun hG => v_load (by kernel_rfl) (gd hG rfl) (by first | exact HB102.pv 9 _ rfl | exact HB101.pv 9 _ rfl | assumption)) ?_
  refine l_g1 rfl rfl (fun hG => v_fieldAddr (off := 9) (ft := 4) (by kernel_rfl) rfl) ?_
  refine l_g1 rfl rfl (fun hG => v_load (by kernel_rfl) (gd hG rfl) (by first | exact HB102.pv 9 _ rfl | exact HB101.pv 9 _ rfl | assumption)) ?_
  refine l_g1 rfl rfl (fun hG => v_beql (by kernel_rfl) (gd hG rfl) (gd hG rfl)) ?_
  refine l_v (v_and rfl rfl) ?_
  refine l_v (v_assign (t := .bool _) rfl) ?_
  refine l_nil ?_
  refine n_then ?_
  refine c_seq ?_
  refine wp_reg (by decide +kernel) ?_
  refine l_v (v_fieldAddr (off := 8) (ft := 23) (by kernel_rfl) rfl) ?_
  refine l_v (v_load (by kernel_rfl) rfl (by first | exact HB102.pv 8 _ rfl | exact HB101.pv 8 _ rfl | assumption)) ?_
  refine l_v (v_fieldAddr (off := 8) (ft := 23) (by kernel_rfl) rfl) ?_
  refine l_v (v_load (by kernel_rfl) rfl (by first | exact HB102.pv 8 _ rfl | exact HB101.pv 8 _ rfl | assumption)) ?_
  refine l_to (to_f3 (by kernel_rfl) (show _ = (Value.slice _ _ _) from rfl) (show _ = (Value.slice _ _ _) from rfl) rfl (CallsR.mono (EqualFuncE_c HSe HSf) ?_))
  rintro _ w5 ⟨rfl, e5⟩
  have zs_e5 := e5.size
  replace E := E.trans (Ext.keep e5)
  replace HSe := HSe.ext e5
  replace HSs := HSs.ext e5
  replace HSf := HSf.ext e5
  replace HSt := HSt.ext e5
  replace HB101 := HB101.ext e5
  replace HB102 := HB102.ext e5
  refine l_v (v_assign (t := .bool _) rfl) ?_
  refine l_nil ?_
  refine n_then ?_
  refine c_seq ?_
  refine wp_reg (by decide +kernel) ?_
  refine l_v (v_move (t := .bool _) rfl) ?_
  refine l_v (v_move (t := .bool _) rfl) ?_
  refine l_g1 rfl rfl (fun hG => v_move (t := .bool _) rfl) ?_
  refine l_v (v_and rfl rfl) ?_
  refine l_v (v_move (t := .bool _) rfl) ?_
  refine l_g1 rfl rfl (fun hG => v_move (t := .bool _) rfl) ?_
  refine l_v (v_and rfl rfl) ?_
  refine l_v (v_move (t := .bool _) rfl) ?_
  refine l_g1 rfl rfl (fun hG => v_fieldAddr (off := 10) (ft := 24) (by kernel_rfl) rfl) ?_
  refine l_g1 rfl rfl (fun hG => v_load (by kernel_rfl) (gd hG rfl) (by first | exact HB102.pv 10 _ rfl | exact HB101.pv 10 _ rfl | assumption)) ?_
  refine l_g1 rfl rfl (fun hG => v_fieldAddr (off := 10) (ft := 24) (by kernel_rfl) rfl) ?_
  refine l_g1 rfl rfl (fun hG => v_load (by kernel_rfl) (gd hG rfl) (by first | exact HB102.pv 10 _ rfl | exact HB101.pv 10 _ rfl | assumption)) ?_
  refine l_g1f rfl rfl (fun hG => to_f2 (by kernel_rfl) (gd hG rfl) (gd hG rfl) (Equal_c HSs HSt)) ?_
  rintro w103 e103
  have zs_e103 := e103.size
  replace E := E.trans (Ext.keep e103)
  replace HSe := HSe.ext e103
  replace HSs := HSs.ext e103
  replace HSf := HSf.ext e103
  replace HSt := HSt.ext e103
  replace HB101 := HB101.ext e103
  replace HB102 := HB102.ext e103
  refine l_v (v_and rfl rfl) ?_
  refine l_v (v_assign (t := .bool _) rfl) ?_
  refine l_nil ?_
  refine n_then ?_
  refine c_ret ?_
  refine ret1v rfl (by decide) (show _ = (Value.bool _) from rfl) ?_
  refine ⟨?_, E⟩
  rw [ms_eq]
theorem refSame_c {w : World} {F G : Nat → Prop} {v u : Value} {m n : Ms} (HG1 : AgV tMs w F v m) (HG2 : AgV tMs w G u n) : CallsR Try.prog 15 #[v, u] w (fun o w' => o = .bool (decide (m = n)) ∧ Ext w w') := by
  obtain ⟨a1, c1, a2, c2, rfl, HSe, HSs, hw⟩ := HG1.ms
  obtain ⟨a3, c3, a4, c4, rfl, HSf, HSt, hw2⟩ := HG2.ms
  have hmx := HSe.len_max
  have hmx2 := HSf.len_max
  refine enter 122 Try.func15 rfl rfl (by simp) ?_
  refine c_seq ?_
  have E := Keep.refl (K := NoK) w
  replace HSe := HSe.all
  replace HSs := HSs.all
  replace HSf := HSf.all
  replace HSt := HSt.all
  refine wp_reg (by decide +kernel) ?_
  refine l_to (to_box (show _ = (Value.agg _) from rfl) ?_)
  rintro b101 w101 zb101 HB101 e101 z101
  have zs_e101 := e101.size
  replace E := E.trans (Ext.keep e101)
  replace HSe := HSe.ext e101
  replace HSs := HSs.ext e101
  replace HSf := HSf.ext e101
  replace HSt := HSt.ext e101
  try simp only [Value.cells] at HB101
  refine l_to (to_box (show _ = (Value.agg _) from rfl) ?_)
  rintro b102 w102 zb102 HB102 e102 z102
  have zs_e102 := e102.size
  replace E := E.trans (Ext.keep e102)
  replace HSe := HSe.ext e102
  replace HSs := HSs.ext e102
  replace HSf := HSf.ext e102
  replace HSt := HSt.ext e102
  replace HB101 := HB101.ext e102
  try simp only [Value.cells] at HB102
  refine l_v (v_assign rfl) ?_
  refine l_nil ?_
  refine n_then ?_
  refine c_seq ?_
  refine c_seq ?_
  refine wp_reg (by decide +kernel) ?_
  refine l_v (v_fieldAddr (off := 0) (ft := 22) (by kernel_rfl) rfl) ?_
  refine l_v (v_load (by kernel_rfl) rfl (by first | exact HB102.pv 0 _ rfl | exact HB101.pv 0 _ rfl | assumption)) ?_
  refine l_v (v_fieldAddr (off := 0) (ft := 22) (by kernel_rfl) rfl) ?_
  refine l_v (v_load (by kernel_rfl) rfl (by first | exact HB102.pv 0 _ rfl | exact HB101.pv 0 _ rfl | assumption)) ?_
  refine l_v (v_neq rfl rfl) ?_
  refine l_v (v_move (t := .bool _) rfl) ?_
  refine l_g1 rfl rfl (fun hG => v_fieldAddr (off := 1) (ft := 3) (by kernel_rfl) rfl) ?_
  refine l_g1 rfl rfl (fun hG => v_load (by kernel_rfl) (gd hG rfl) (by first | exact HB102.pv 1 _ rfl | exact HB101.pv 1 _ rfl | assumption)) ?_
  refine l_g1 rfl rfl (fun hG => v_fieldAddr (off := 1) (ft := 3) (by kernel_rfl) rfl) ?_
  refine l_g1 rfl rfl (fun hG => v_load (by kernel_rfl) (gd hG rfl) (by first | exact HB102.pv 1 _ rfl | exact HB101.pv 1 _ rfl | assumption)) ?_
  refine l_g1 rfl rfl (fun hG => v_neq (gd hG rfl) (gd hG rfl)) ?_
  refine l_v (v_or rfl rfl) ?_
  refine l_v (v_move (t := .bool _) rfl) ?_
  refine l_g1 rfl rfl (fun hG => v_fieldAddr (off := 2) (ft := 3) (by kernel_rfl) rfl) ?_
  refine l_g1 rfl rfl (fun hG => v_load (by kernel_rfl) (gd hG rfl) (by first | exact HB102.pv 2 _ rfl | exact HB101.pv 2 _ rfl | assumption)) ?_
  refine l_g1 rfl rfl (fun hG => v_fieldAddr (off := 2) (ft := 3) (by kernel_rfl) rfl) ?_
  refine l_g1 rfl rfl (fun hG => v_load (by kernel_rfl) (gd hG rfl) (by first | exact HB102.pv 2 _ rfl | exact HB101.pv 2 _ rfl | assumption)) ?_
  refine l_g1 rfl rfl (fun hG => v_neq (gd hG rfl) (gd hG rfl)) ?_
  refine l_v (v_or rfl rfl) ?_
  refine l_v (v_move (t := .bool _) rfl) ?_
  refine l_g1 rfl rfl (fun hG => v_fieldAddr (off := 3) (ft := 3) (by kernel_rfl) rfl) ?_
  refine l_g1 rfl rfl (fun hG => v_load (by kernel_rfl) (gd hG rfl) (by first | exact HB102.pv 3 _ rfl | exact HB101.pv 3 _ rfl | assumption)) ?_
  refine l_g1 rfl rfl (fun hG => v_fieldAddr (off := 3) (ft := 3) (by kernel_rfl) rfl) ?_
  refine l_g1 rfl rfl (fun hG => v_load (by kernel_rfl) (gd hG rfl) (by first | exact HB102.pv 3 _ rfl | exact HB101.pv 3 _ rfl | assumption)) ?_
  refine l_g1 rfl rfl (fun hG => v_neq (gd hG rfl) (gd hG rfl)) ?_
  refine l_v (v_or rfl rfl) ?_
  refine l_v (v_move (t := .bool _) rfl) ?_
  refine l_g1 rfl rfl (fun hG => v_fieldAddr (off := 4) (ft := 2) (by kernel_rfl) rfl) ?_
  refine l_g1 rfl rfl (fun hG => v_load (by kernel_rfl) (gd hG rfl) (by first | exact HB102.pv 4 _ rfl | exact HB101.pv 4 _ rfl | assumption)) ?_
  refine l_g1 rfl rfl (fun hG => v_fieldAddr (off := 4) (ft := 2) (by kernel_rfl) rfl) ?_
  refine l_g1 rfl rfl (fun hG => v_load (by kernel_rfl) (gd hG rfl) (by first | exact HB102.pv 4 _ rfl | exact HB101.pv 4 _ rfl | assumption)) ?_
  refine l_g1 rfl rfl (fun hG => v_neq (gd hG rfl) (gd hG rfl)) ?_
  refine l_v (v_or rfl rfl) ?_
  refine l_v (v_move (t := .bool _) rfl) ?_
  refine l_g1 rfl rfl (fun hG => v_fieldAddr (off := 5) (ft := 2) (by kernel_rfl) rfl) ?_
  refine l_g1 rfl rfl (fun hG => v_load (by kernel_rfl) (gd hG rfl) (by first | exact HB102.pv 5 _ rfl | exact HB101.pv 5 _ rfl | assumption)) ?_
  refine l_g1 rfl rfl (fun hG => v_fieldAddr (off := 5) (ft := 2) (by kernel_rfl) rfl) ?_
  refine l_g1 rfl rfl (fun hG => v_load (by kernel_rfl) (gd hG rfl) (by first | exact HB102.pv 5 _ rfl | exact HB101.pv 5 _ rfl | assumption)) ?_
  refine l_g1 rfl rfl (fun hG => v_neq (gd hG rfl) (gd hG rfl)) ?_
  refine l_v (v_or rfl rfl) ?_
  refine l_v (v_move (t := .bool _) rfl) ?_
  refine l_g1 rfl rfl (fun hG => v_fieldAddr (off := 6) (ft := 2) (by kernel_rfl) rfl) ?_
  refine l_g1 rfl rfl (fun hG => v_load (by kernel_rfl) (gd hG rfl) (by first | exact HB102.pv 6 _ rfl | exact HB101.pv 6 _ rfl | assumption)) ?_
  refine l_g1 rfl rfl (fun hG => v_fieldAddr (off := 6) (ft := 2) (by kernel_rfl) rfl) ?_
  refine l_g1 rfl rfl (fun hG => v_load (by kernel_rfl) (gd hG rfl) (by first | exact HB102.pv 6 _ rfl | exact HB101.pv 6 _ rfl | assumption)) ?_
  refine l_g1 rfl rfl (fun hG => v_neq (gd hG rfl) (gd hG rfl)) ?_
  refine l_v (v_or rfl rfl) ?_
  refine l_v (v_move (t := .bool _) rfl) ?_
  refine l_g1 rfl rfl (fun hG => v_fieldAddr (off := 7) (ft := 2) (by kernel_rfl) rfl) ?_
  refine l_g1 rfl rfl (fun hG => v_load (by kernel_rfl) (gd hG rfl) (by first | exact HB102.pv 7 _ rfl | exact HB101.pv 7 _ rfl | assumption)) ?_
  refine l_g1 rfl rfl (fun hG => v_fieldAddr (off := 7) (ft := 2) (by kernel_rfl) rfl) ?_
  refine l_g1 rfl rfl (fun hG => v_load (by kernel_rfl) (gd hG rfl) (by first | exact HB102.pv 7 _ rfl | exact HB101.pv 7 _ rfl | assumption)) ?_
  refine l_g1 rfl rfl (fun hG => v_neq (gd hG rfl) (gd hG rfl)) ?_
  refine l_v (v_or rfl rfl) ?_
  refine l_v (v_move (t := .bool _) rfl) ?_
  refine l_g1 rfl rfl (fun hG => v_fieldAddr (off := 9) (ft := 4) (by kernel_rfl) rfl) ?_
  refine l_g1 rfl rfl (fun hG => v_load (by kernel_rfl) (gd hG rfl) (by first | exact HB102.pv 9 _ rfl | exact HB101.pv 9 _ rfl | assumption)) ?_
  refine l_g1 rfl rfl (fun hG => v_fieldAddr (off := 9) (ft := 4) (by kernel_rfl) rfl) ?_
  refine l_g1 rfl rfl (fun hG => v_load (by kernel_rfl) (gd hG rfl) (by first | exact HB102.pv 9 _ rfl | exact HB101.pv 9 _ rfl | assumption)) ?_
  refine l_g1 rfl rfl (fun hG => v_bneq (by kernel_rfl) (gd hG rfl) (gd hG rfl)) ?_
  refine l_v (v_or rfl rfl) ?_
  refine l_v (v_move (t := .bool _) rfl) ?_
  refine l_g1 rfl rfl (fun hG => v_fieldAddr (off := 10) (ft := 24) (by kernel_rfl) rfl) ?_
  refine l_g1 rfl rfl (fun hG => v_load (by kernel_rfl) (gd hG rfl) (by first | exact HB102.pv 10 _ rfl | exact HB101.pv 10 _ rfl | assumption)) ?_
  refine l_g1 rfl rfl (fun hG => v_b2s (et := 5) (by kernel_rfl) (by kernel_rfl) (by kernel_rfl) (gd hG rfl) (by first | exact HSt | exact HSf | exact HSs | exact HSe | assumption)) ?_
  refine l_g1 rfl rfl (fun hG => v_fieldAddr (off := 10) (ft := 24) (by kernel_rfl) rfl) ?_
  refine l_g1 rfl rfl (fun hG => v_load (by kernel_rfl) (gd hG rfl) (by first | exact HB102.pv 10 _ rfl | exact HB101.pv 10 _ rfl | assumption)) ?_
  refine l_g1 rfl rfl (fun hG => v_b2s (et := 5) (by kernel_rfl) (by kernel_rfl) (by kernel_rfl) (gd hG rfl) (by first | exact HSt | exact HSf | exact HSs | exact HSe | assumption)) ?_
  refine l_g1 rfl rfl (fun hG => v_sne (gd hG rfl) (gd hG rfl)) ?_
  refine l_v (v_or rfl rfl) ?_
  refine l_v (v_move (t := .bool _) rfl) ?_
  refine l_g1 rfl rfl (fun hG => v_fieldAddr (off := 8) (ft := 23) (by kernel_rfl) rfl) ?_
  refine l_g1 rfl rfl (fun hG => v_load (by kernel_rfl) (gd hG rfl) (by first | exact HB102.pv 8 _ rfl | exact HB101.pv 8 _ rfl | assumption)) ?_
  refine l_g1 rfl rfl (fun hG => v_len (et := 73) (by kernel_rfl) (gd hG rfl)) ?_
  refine l_g1 rfl rfl (fun hG => v_fieldAddr (off := 8) (ft := 23) (by kernel_rfl) rfl) ?_
  refine l_g1 rfl rfl (fun hG => v_load (by kernel_rfl) (gd hG rfl) (by first | exact HB102.pv 8 _ rfl | exact HB101.pv 8 _ rfl | assumption)) ?_
  refine l_g1 rfl rfl (fun hG => v_len (et := 73) (by kernel_rfl) (gd hG rfl)) ?_
  refine l_g1 rfl rfl (fun hG => v_neq (gd hG rfl) (gd hG rfl)) ?_
  refine l_v (v_or rfl rfl) ?_
  refine l_nil ?_
  refine n_then ?_
  refine c_cond rfl rfl (fun hc => ?_) (fun hc => ?_)
  · skip
    refine c_seq ?_
    refine wp_reg (by decide +kernel) ?_
    refine l_v (v_assign rfl) ?_
    refine l_nil ?_
    refine n_then ?_
    refine c_ret ?_
    refine r_then ?_
    refine ret1v rfl (by decide) (show _ = (Value.bool _) from rfl) ?_
    refine ⟨?_, E⟩
    rw [ref_ne hc]
  · skip
    obtain ⟨hlen, hgo⟩ := ref_go hc
    refine c_skip ?_
    refine n_then ?_
    refine c_seq ?_
    refine c_seq ?_
    refine wp_reg (by decide +kernel) ?_
    refine l_v (v_assign rfl) ?_
    refine l_nil ?_
    refine n_then ?_
    refine c_block ?_
    refine c_loop (τ := Nat) [4, 5, 85, 86, 87, 88, 89, 90, 91, 92, 93, 94, 95, 96, 97, 98, 99, 100, 101, 102, 103, 104, 105, 106, 107, 108, 109, 110, 111, 112, 113, 114, 115, 116, 117, 118, 119, 120, 121] (fun i => [(5, .int .i64 i)]) (fun i W => Ext w W ∧ Keep (NoK) w102 W ∧ i ≤ m.ents.length ∧ m.ents.take i = n.ents.take i) (fun i => m.ents.length - i) 0 (by exact ⟨rfl, trivial⟩) (by exact ⟨E, Keep.refl _, Nat.zero_le _, rfl⟩) ?_
    rintro i w103 j ⟨E, EL1, h1, h2⟩
    have zs_EL1 := EL1.size
    replace HSe := HSe.ext EL1
    replace HSs := HSs.ext EL1
    replace HSf := HSf.ext EL1
    replace HSt := HSt.ext EL1
    replace HB101 := HB101.ext EL1
    replace HB102 := HB102.ext EL1
    refine c_seq ?_
    refine c_seq ?_
    refine wp_reg (by decide +kernel) ?_
    refine l_v (v_move (t := .int _ _) rfl) ?_
    refine l_v (v_fieldAddr (off := 8) (ft := 23) (by kernel_rfl) rfl) ?_
    refine l_v (v_load (by kernel_rfl) rfl (by first | exact HB102.pv 8 _ rfl | exact HB101.pv 8 _ rfl | assumption)) ?_
    refine l_v (v_len (et := 73) (by kernel_rfl) rfl) ?_
    refine l_v (v_lss rfl rfl) ?_
    refine l_nil ?_
    refine n_then ?_
    refine c_cond rfl rfl (fun hlt => ?_) (fun hlt => ?_)
    · skip
      have hlt := dtrue hlt
      obtain ⟨r, hx, hdr⟩ := getE (l := m.ents) (i := i) (by omega)
      obtain ⟨s, hy, hds⟩ := getE (l := n.ents) (i := i) (by omega)
      obtain ⟨q1, cs1, hqq1, hq1, _, HP1, hr1⟩ := HSe.el hx
      obtain ⟨q2, cs2, hqq2, hq2, _, HP2, hr2⟩ := HSf.el hy
      subst hqq1 hqq2
      obtain ⟨b1, d1, rfl, HS11, _⟩ := tEn_cells hr1
      obtain ⟨b3, d3, rfl, HS12, _⟩ := tEn_cells hr2
      refine c_skip ?_
      refine n_then ?_
      refine c_seq ?_
      refine c_block ?_
      refine c_seq ?_
      refine wp_regd (NoK) (by kernel_rfl) (by decide +kernel) (by decide +kernel) ?_
      refine rt_v (fun vals w hR hd => v_fieldAddr (off := 8) (ft := 23) (by kernel_rfl) rfl) ?_
      refine rt_v (fun vals w hR hd => v_load (by kernel_rfl) (hd 0 rfl) (by first | exact (HP2.ext hR) 8 _ rfl | exact (HP1.ext hR) 8 _ rfl | exact (HB102.ext hR).pv 8 _ rfl | exact (HB101.ext hR).pv 8 _ rfl | assumption)) ?_
      refine rt_v (fun vals w hR hd => v_move (t := .int _ _) rfl) ?_
      refine rt_v (fun vals w hR hd => v_indexAddr (et := 73) (sz := 2) (k := i) (by kernel_rfl) (by kernel_rfl) (hd 1 rfl) (hd 2 rfl) (by first | rfl | omega) (by omega)) ?_
      refine rt_v (fun vals w hR hd => v_fieldAddr (off := 0) (ft := 2) (by kernel_rfl) (hd 3 rfl)) ?_
      refine rt_v (fun vals w hR hd => v_load (by kernel_rfl) (hd 4 rfl) (by first | exact (HP2.ext hR) 0 _ rfl | exact (HP1.ext hR) 0 _ rfl | exact (HB102.ext hR).pv 0 _ rfl | exact (HB101.ext hR).pv 0 _ rfl | assumption)) ?_
      refine rt_v (fun vals w hR hd => v_fieldAddr (off := 8) (ft := 23) (by kernel_rfl) rfl) ?_
      refine rt_v (fun vals w hR hd => v_load (by kernel_rfl) (hd 6 rfl) (by first | exact (HP2.ext hR) 8 _ rfl | exact (HP1.ext hR) 8 _ rfl | exact (HB102.ext hR).pv 8 _ rfl | exact (HB101.ext hR).pv 8 _ rfl | assumption)) ?_
      refine rt_v (fun vals w hR hd => v_move (t := .int _ _) rfl) ?_
      refine rt_v (fun vals w hR hd => v_indexAddr (et := 73) (sz := 2) (k := i) (by kernel_rfl) (by kernel_rfl) (hd 7 rfl) (hd 8 rfl) (by first | rfl | omega) (by omega)) ?_
      refine rt_v (fun vals w hR hd => v_fieldAddr (off := 0) (ft := 2) (by kernel_rfl) (hd 9 rfl)) ?_
      refine rt_v (fun vals w hR hd => v_load (by kernel_rfl) (hd 10 rfl) (by first | exact (HP2.ext hR) 0 _ rfl | exact (HP1.ext hR) 0 _ rfl | exact (HB102.ext hR).pv 0 _ rfl | exact (HB101.ext hR).pv 0 _ rfl | assumption)) ?_
      refine rt_v (fun vals w hR hd => v_neq (hd 5 rfl) (hd 11 rfl)) ?_
      refine rt_v (fun vals w hR hd => v_move (t := .bool _) (hd 12 rfl)) ?_
      refine rt_g1 rfl (fun vals w hd => hd 13 rfl) (fun vals w hR hd hG => v_fieldAddr (off := 8) (ft := 23) (by kernel_rfl) rfl) ?_
      refine rt_g1 rfl (fun vals w hd => hd 13 rfl) (fun vals w hR hd hG => v_load (by kernel_rfl) (gd hG (hd 14 rfl)) (by first | exact (HP2.ext hR) 8 _ rfl | exact (HP1.ext hR) 8 _ rfl | exact (HB102.ext hR).pv 8 _ rfl | exact (HB101.ext hR).pv 8 _ rfl | assumption)) ?_
      refine rt_g1 rfl (fun vals w hd => hd 13 rfl) (fun vals w hR hd hG => v_move (t := .int _ _) rfl) ?_
      refine rt_g1 rfl (fun vals w hd => hd 13 rfl) (fun vals w hR hd hG => v_indexAddr (et := 73) (sz := 2) (k := i) (by kernel_rfl) (by kernel_rfl) (gd hG (hd 15 rfl)) (gd hG (hd 16 rfl)) (by first | rfl | omega) (by omega)) ?_
      refine rt_g1 rfl (fun vals w hd => hd 13 rfl) (fun vals w hR hd hG => v_fieldAddr (off := 1) (ft := 24) (by kernel_rfl) (gd hG (hd 17 rfl))) ?_
      refine rt_g1 rfl (fun vals w hd => hd 13 rfl) (fun vals w hR hd hG => v_load (by kernel_rfl) (gd hG (hd 18 rfl)) (by first | exact (HP2.ext hR) 1 _ rfl | exact (HP1.ext hR) 1 _ rfl | exact (HB102.ext hR).pv 1 _ rfl | exact (HB101.ext hR).pv 1 _ rfl | assumption)) ?_
      refine rt_g1 rfl (fun vals w hd => hd 13 rfl) (fun vals w hR hd hG => v_b2s (et := 5) (by kernel_rfl) (by kernel_rfl) (by kernel_rfl) (gd hG (hd 19 rfl)) (by first | exact (HS12.ext hR) | exact (HS11.ext hR) | exact (HSt.ext hR) | exact (HSf.ext hR) | exact (HSs.ext hR) | exact (HSe.ext hR) | assumption)) ?_
      refine rt_g1 rfl (fun vals w hd => hd 13 rfl) (fun vals w hR hd hG => v_fieldAddr (off := 8) (ft := 23) (by kernel_rfl) rfl) ?_
      refine rt_g1 rfl (fun vals w hd => hd 13 rfl) (fun vals w hR hd hG => v_load (by kernel_rfl) (gd hG (hd 21 rfl)) (by first | exact (HP2.ext hR) 8 _ rfl | exact (HP1.ext hR) 8 _ rfl | exact (HB102.ext hR).pv 8 _ rfl | exact (HB101.ext hR).pv 8 _ rfl | assumption)) ?_
      refine rt_g1 rfl (fun vals w hd => hd 13 rfl) (fun vals w hR hd hG => v_move (t := .int _ _) rfl) ?_
      refine rt_g1 rfl (fun vals w hd => hd 13 rfl) (fun vals w hR hd hG => v_indexAddr (et := 73) (sz := 2) (k := i) (by kernel_rfl) (by kernel_rfl) (gd hG (hd 22 rfl)) (gd hG (hd 23 rfl)) (by first | rfl | omega) (by omega)) ?_
      refine rt_g1 rfl (fun vals w hd => hd 13 rfl) (fun vals w hR hd hG => v_fieldAddr (off := 1) (ft := 24) (by kernel_rfl) (gd hG (hd 24 rfl))) ?_
      refine rt_g1 rfl (fun vals w hd => hd 13 rfl) (fun vals w hR hd hG => v_load (by kernel_rfl) (gd hG (hd 25 rfl)) (by first | exact (HP2.ext hR) 1 _ rfl | exact (HP1.ext hR) 1 _ rfl | exact (HB102.ext hR).pv 1 _ rfl | exact (HB101.ext hR).pv 1 _ rfl | assumption)) ?_
      refine rt_g1 rfl (fun vals w hd => hd 13 rfl) (fun vals w hR hd hG => v_b2s (et := 5) (by kernel_rfl) (by kernel_rfl) (by kernel_rfl) (gd hG (hd 26 rfl)) (by first | exact (HS12.ext hR) | exact (HS11.ext hR) | exact (HSt.ext hR) | exact (HSf.ext hR) | exact (HSs.ext hR) | exact (HSe.ext hR) | assumption)) ?_
      refine rt_g1 rfl (fun vals w hd => hd 13 rfl) (fun vals w hR hd hG => v_sne (gd hG (hd 20 rfl)) (gd hG (hd 27 rfl))) ?_
      refine rt_v (fun vals w hR hd => v_or (hd 13 rfl) (hd 28 rfl)) ?_
      refine rt_nil (fun w104 e104 => ?_)
      rintro _ rfl _ rfl _ rfl _ rfl _ rfl _ rfl _ rfl _ rfl _ rfl _ rfl _ rfl _ rfl _ rfl _ rfl _ rfl _ rfl _ rfl _ rfl _ rfl _ rfl _ rfl _ rfl _ rfl _ rfl _ rfl _ rfl _ rfl _ rfl _ rfl _ rfl
      have zs_e104 := e104.size
      replace E := E.trans (Ext.keep e104)
      replace HSe := HSe.ext e104
      replace HSs := HSs.ext e104
      replace HSf := HSf.ext e104
      replace HSt := HSt.ext e104
      replace HB101 := HB101.ext e104
      replace HB102 := HB102.ext e104
      replace EL1 := EL1.trans (Ext.keep e104)
      replace HP1 := HP1.ext e104
      replace HP2 := HP2.ext e104
      replace HS11 := HS11.ext e104
      replace HS12 := HS12.ext e104
      refine fin_nil ?_
      refine n_then ?_
      refine c_cond rfl rfl (fun h38 => ?_) (fun h38 => ?_)
      · skip
        refine c_seq ?_
        refine wp_reg (by decide +kernel) ?_
        refine l_v (v_assign rfl) ?_
        refine l_nil ?_
        refine n_then ?_
        refine c_ret ?_
        refine r_blk ?_
        refine r_then ?_
        refine r_then ?_
        refine r_blk ?_
        refine r_then ?_
        refine ret1v rfl (by decide) (show _ = (Value.bool _) from rfl) ?_
        refine ⟨?_, E⟩
        rw [decide_eq_false]
        rintro rfl
        rw [hx] at hy; cases hy
        simp at h38
      · skip
        refine c_skip ?_
        refine n_blk ?_
        refine n_then ?_
        refine wp_reg (by decide +kernel) ?_
        refine l_v (v_move (t := .int _ _) rfl) ?_
        refine l_v (v_add rfl rfl (by first | exact wr_i64 (by omega) (by omega) | rfl)) ?_
        refine l_v (v_assign (t := .int _ _) rfl) ?_
        refine l_nil ?_
        refine n_then ?_
        refine ⟨i + 1, _, rfl, by (repeat (first | exact Off.of_over _ _ _ | refine Off.upd ?_ (by decide) _ | refine Off.overs ?_ (by decide) _)), ⟨by first | rfl | exact congrArg (Value.int _) (by omega) | (simp; done), trivial⟩, ⟨E, EL1, ?_⟩, ?_⟩
        · skip
          refine ⟨by omega, ?_⟩
          have hs : r = s := by simp at h38; exact Prod.ext h38.1 h38.2
          rw [List.take_add_one, List.take_add_one, h2, hx, hy, hs]
        · (dsimp only; omega)
    · skip
      refine c_exit ?_
      refine x_then ?_
      refine x_then ?_
      refine x_hit ?_
      refine n_then ?_
      refine c_seq ?_
      refine wp_reg (by decide +kernel) ?_
      refine l_v (v_assign rfl) ?_
      refine l_nil ?_
      refine n_then ?_
      refine c_ret ?_
      refine ret1v rfl (by decide) (show _ = (Value.bool _) from rfl) ?_
      refine ⟨?_, E⟩
      have h := dfalse hlt
      have : m.ents = n.ents := by rw [← List.take_of_length_le (l := m.ents) (i := i) (by omega), h2, List.take_of_length_le (by omega)]
      rw [decide_eq_true (hgo this)]
end Go.Proofs.Ytaidpdjlchnonaa
