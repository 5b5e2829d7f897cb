/- A part of the proof: steps and lemmas for the walks through the given program. -/
import Derived.Test.YtaidpdjlchnonaaN0
import Derived.Test.YtaidpdjlchnonaaGu
namespace Go.Proofs.Ytaidpdjlchnonaa
open Go.Vc
set_option linter.unusedVariables false
set_option linter.unusedSimpArgs false
set_option maxRecDepth 100000

theorem within_c {w : World} {n a b : Int} : CallsR Try.prog 65 #[.int .i64 n, .int .i64 a, .int .i64 b] w (fun o w' => o = .bool (wiB n a b) ∧ Ext w w') := by
  refine enter 15 Try.func65 rfl rfl (by simp) ?_
  refine c_seq ?_
  have E := Keep.refl (K := NoK) w
  refine wp_reg (by decide +kernel) ?_
  refine l_v (v_assign rfl) ?_
  refine l_nil ?_
  refine n_then ?_
  refine c_seq ?_
  refine wp_reg (by decide +kernel) ?_
  refine l_v (v_move (t := .int _ _) rfl) ?_
  refine l_v (v_move (t := .int _ _) rfl) ?_
  refine l_v (v_geq rfl rfl) ?_
  refine l_v (v_move (t := .bool _) rfl) ?_
  refine l_g1 rfl rfl (fun hG => v_move (t := .int _ _) rfl) ?_
  refine l_g1 rfl rfl (fun hG => v_move (t := .int _ _) rfl) ?_
  refine l_g1 rfl rfl (fun hG => v_leq (gd hG rfl) (gd hG rfl)) ?_
  refine l_v (v_and rfl rfl) ?_
  refine l_v (v_assign (t := .bool _) rfl) ?_
  refine l_nil ?_
  refine n_then ?_
  refine c_ret ?_
  refine ret1v rfl (by decide) (show _ = (Value.bool _) from rfl) ?_
  refine ⟨?_, E⟩
  rw [wiB]
  all_goals (cases decide (a ≤ n) <;> rfl)
theorem May1_c {w : World} {c : Bool} {x : Int} : CallsR Try.prog 64 #[.bool c, .int .i64 x] w (fun o w' => o = .bool (numB c x) ∧ Ext w w') := by
  refine enter 14 Try.func64 rfl rfl (by simp) ?_
  refine c_seq ?_
  have E := Keep.refl (K := NoK) w
  refine wp_reg (by decide +kernel) ?_
  refine l_v (v_assign rfl) ?_
  refine l_nil ?_
  refine n_then ?_
  refine c_seq ?_
  refine wp_reg (by decide +kernel) ?_
  refine l_v (v_move (t := .int _ _) rfl) ?_
  refine l_v (v_eql rfl rfl) ?_
  refine l_v (v_move (t := .bool _) rfl) ?_
  refine l_g1 rfl rfl (fun hG => v_move (t := .bool _) rfl) ?_
  refine l_g1 rfl rfl (fun hG => v_move (t := .bool _) (gd hG rfl)) ?_
  refine l_g2 rfl rfl (fun hG => v_move (t := .int _ _) rfl) ?_
  refine l_g2f rfl rfl (fun hG => to_f3 (by kernel_rfl) (gd hG rfl) (show _ = (Value.int _ _) from rfl) (show _ = (Value.int _ _) from rfl) (within_c)) ?_
  rintro w6 e6
  have zs_e6 := e6.size
  replace E := E.trans (Ext.keep e6)
  refine l_g1 rfl rfl (fun hG => v_and (gd hG rfl) (gda hG rfl)) ?_
  refine l_v (v_or rfl rfl) ?_
  refine l_v (v_assign (t := .bool _) rfl) ?_
  refine l_nil ?_
  refine n_then ?_
  refine c_ret ?_
  refine ret1v rfl (by decide) (show _ = (Value.bool _) from rfl) ?_
  refine ⟨?_, E⟩
  rw [numB]
  all_goals (cases decide (x = 0) <;> cases c <;> rfl)
theorem May2_c {w : World} {F : Nat → Prop} {v : Value} {e : EnV} (HG1 : AgV tEn w F v e) : CallsR Try.prog 66 #[v] w (fun o w' => o = .bool (badE e) ∧ Ext w w') := by
  obtain ⟨a1, c1, rfl, HS1, he⟩ := HG1.en
  refine enter 13 Try.func66 rfl rfl (by simp) ?_
  refine c_seq ?_
  have E := Keep.refl (K := NoK) w
  refine wp_reg (by decide +kernel) ?_
  refine l_to (to_box (show _ = (Value.agg _) from rfl) ?_)
  rintro b1 w1 zb1 HB1 e1 z1
  have zs_e1 := e1.size
  replace E := E.trans (Ext.keep e1)
  try simp only [Value.cells] at HB1
  refine l_v (v_assign rfl) ?_
  refine l_nil ?_
  refine n_then ?_
  refine c_seq ?_
  refine wp_reg (by decide +kernel) ?_
  refine l_v (v_fieldAddr (off := 0) (ft := 2) (by kernel_rfl) rfl) ?_
  refine l_v (v_load (by kernel_rfl) rfl (by first | exact HB1.pv 0 _ rfl | assumption)) ?_
  refine l_to (to_f3 (by kernel_rfl) (show _ = (Value.int _ _) from rfl) (show _ = (Value.int _ _) from rfl) (show _ = (Value.int _ _) from rfl) (CallsR.mono (within_c) ?_))
  rintro _ w101 ⟨rfl, e101⟩
  have zs_e101 := e101.size
  replace E := E.trans (Ext.keep e101)
  replace HB1 := HB1.ext e101
  refine l_v (v_not rfl) ?_
  refine l_v (v_move (t := .bool _) rfl) ?_
  refine l_g1 rfl rfl (fun hG => v_fieldAddr (off := 1) (ft := 24) (by kernel_rfl) rfl) ?_
  refine l_g1 rfl rfl (fun hG => v_load (by kernel_rfl) (gd hG rfl) (by first | exact HB1.pv 1 _ rfl | assumption)) ?_
  refine l_g1 rfl rfl (fun hG => v_len (et := 5) (by kernel_rfl) (gd hG rfl)) ?_
  refine l_g1 rfl rfl (fun hG => v_gtr (gd hG rfl) rfl) ?_
  refine l_v (v_or rfl rfl) ?_
  refine l_v (v_assign (t := .bool _) rfl) ?_
  refine l_nil ?_
  refine n_then ?_
  refine c_ret ?_
  refine ret1v rfl (by decide) (show _ = (Value.bool _) from rfl) ?_
  refine ⟨?_, E⟩
  rw [badE]
  all_goals (cases wiB e.1 1 2147483647 <;> simp <;> omega)
end Go.Proofs.Ytaidpdjlchnonaa

namespace Go.Proofs.Ytaidpdjlchnonaa
open Go.Vc
set_option linter.unusedVariables false
set_option linter.unusedSimpArgs false
set_option maxRecDepth 100000

theorem IndexFuncE_c {w : World} {F : Nat → Prop} {v : Value} {xs : List EnV} {fn : Nat} {cap : Array Value} {p : EnV → Bool} (HSx : SlV tEn w F v xs) (hb : kBody Try.prog fn = true)
    (his : ∀ W u r, Ext w W → AgV tEn W F u r → r ∈ xs → CallsR Try.prog fn (#[u] ++ cap) W (fun o W' => o = .bool (p r) ∧ Ext W W')) :
    CallsR Try.prog 99 #[v, .func (.func fn) #[] cap] w (fun o w' => o = .int .i64 (idxP p xs 0) ∧ Ext w w') := by
  obtain ⟨a, c, rfl⟩ := HSx.shape
  have hmx := HSx.len_max
  refine enter 19 Try.func99 rfl rfl (by simp) ?_
  refine c_seq ?_
  have E := Keep.refl (K := NoK) w
  refine wp_reg (by decide +kernel) ?_
  refine l_v (v_assign rfl) ?_
  refine l_nil ?_
  refine n_then ?_
  refine c_seq ?_
  refine c_seq ?_
  refine wp_reg (by decide +kernel) ?_
  refine l_v (v_move (t := .slice _ _ _) rfl) ?_
  refine l_v (v_len (et := 73) (by kernel_rfl) rfl) ?_
  refine l_v (v_move rfl) ?_
  refine l_nil ?_
  refine n_then ?_
  refine c_block ?_
  refine c_loop (τ := Nat) [4, 5, 8, 9, 10, 11, 12, 13, 14, 15, 16, 17, 18] (fun i => [(8, .int .i64 i)]) (fun i W => Ext w W ∧ Keep (NoK) w W ∧ i ≤ xs.length ∧ idxP p xs 0 = idxP p (xs.drop i) i) (fun i => xs.length - i) 0 (by exact ⟨rfl, trivial⟩) (by exact ⟨E, Keep.refl _, Nat.zero_le _, rfl⟩) ?_
  rintro i w101 j ⟨E, EL1, h1, h2⟩
  have zs_EL1 := EL1.size
  replace HSx := HSx.ext EL1
  refine c_seq ?_
  refine wp_reg (by decide +kernel) ?_
  refine l_v (v_lss rfl rfl) ?_
  refine l_nil ?_
  refine n_then ?_
  refine c_seq ?_
  refine c_cond rfl rfl (fun hlt => ?_) (fun hlt => ?_)
  · skip
    have hlt := dtrue hlt
    obtain ⟨r, hx, hdr⟩ := getE (l := xs) (i := i) (by omega)
    obtain ⟨q, cs, hq, hF, _, HPq, hr⟩ := HSx.el hx
    subst hq
    have HGq : AgV tEn _ F _ r := ⟨cs, rfl, hr⟩
    obtain ⟨a7, c7, rfl, _⟩ := tEn_cells hr
    refine c_skip ?_
    refine n_then ?_
    refine c_seq ?_
    refine c_block ?_
    refine c_seq ?_
    refine wp_reg (by decide +kernel) ?_
    refine l_v (v_move (t := .int _ _) rfl) ?_
    refine l_v (v_assign (t := .int _ _) rfl) ?_
    refine l_nil ?_
    refine n_then ?_
    refine c_seq ?_
    refine wp_reg (by decide +kernel) ?_
    refine l_v (v_move (t := .func _ _ _) rfl) ?_
    refine l_v (v_move (t := .slice _ _ _) rfl) ?_
    refine l_v (v_move (t := .int _ _) rfl) ?_
    refine l_v (v_indexAddr (et := 73) (sz := 2) (k := i) (by kernel_rfl) (by kernel_rfl) rfl rfl (by first | rfl | omega) (by omega)) ?_
    refine l_v (v_loadA (by kernel_rfl) rfl (by first | exact HPq | assumption) rfl) ?_
    refine l_to (to_call1 hb rfl (show _ = (Value.agg _) from rfl) (CallsR.mono (his _ _ _ E HGq (List.mem_of_getElem? hx)) ?_))
    rintro _ w9 ⟨rfl, e9⟩
    have zs_e9 := e9.size
    replace E := E.trans (Ext.keep e9)
    replace HSx := HSx.ext e9
    replace EL1 := EL1.trans (Ext.keep e9)
    replace HPq := HPq.ext e9
    replace HGq := HGq.ext e9
    refine l_nil ?_
    refine n_then ?_
    refine c_cond rfl rfl (fun hc => ?_) (fun hc => ?_)
    · skip
      refine c_seq ?_
      refine wp_reg (by decide +kernel) ?_
      refine l_v (v_move (t := .int _ _) rfl) ?_
      refine l_v (v_assign (t := .int _ _) rfl) ?_
      refine l_nil ?_
      refine n_then ?_
      refine c_ret ?_
      refine r_blk ?_
      refine r_then ?_
      refine r_then ?_
      refine r_blk ?_
      refine r_then ?_
      refine ret1v rfl (by decide) (show _ = (Value.int _ _) from rfl) ?_
      refine ⟨?_, E⟩
      rw [h2, hdr, idxP, if_pos hc]
    · skip
      refine c_skip ?_
      refine n_blk ?_
      refine n_then ?_
      refine wp_reg (by decide +kernel) ?_
      refine l_v (v_add rfl rfl (by first | exact wr_i64 (by omega) (by omega) | rfl)) ?_
      refine l_v (v_move (t := .int _ _) rfl) ?_
      refine l_nil ?_
      refine n_then ?_
      refine ⟨i + 1, _, rfl, by (repeat (first | exact Off.of_over _ _ _ | refine Off.upd ?_ (by decide) _ | refine Off.overs ?_ (by decide) _)), ⟨by first | rfl | exact congrArg (Value.int _) (by omega) | (simp; done), trivial⟩, ⟨E, EL1, ?_⟩, ?_⟩
      · skip
        refine ⟨by omega, ?_⟩
        rw [h2, hdr, idxP, if_neg (by simp [hc])]
      · (dsimp only; omega)
  · skip
    refine c_exit ?_
    refine x_then ?_
    refine x_then ?_
    refine x_hit ?_
    refine n_then ?_
    refine c_seq ?_
    refine wp_reg (by decide +kernel) ?_
    refine l_v (v_assign rfl) ?_
    refine l_nil ?_
    refine n_then ?_
    refine c_ret ?_
    refine ret1v rfl (by decide) (show _ = (Value.int _ _) from rfl) ?_
    refine ⟨?_, E⟩
    rw [h2, List.drop_eq_nil_of_le (by have := dfalse hlt; omega)]; rfl
theorem ContainsFuncE_c {w : World} {F : Nat → Prop} {v : Value} {xs : List EnV} {fn : Nat} {cap : Array Value} {p : EnV → Bool} (HSx : SlV tEn w F v xs) (hb : kBody Try.prog fn = true)
    (his : ∀ W u r, Ext w W → AgV tEn W F u r → r ∈ xs → CallsR Try.prog fn (#[u] ++ cap) W (fun o W' => o = .bool (p r) ∧ Ext W W')) :
    CallsR Try.prog 67 #[v, .func (.func fn) #[] cap] w (fun o w' => o = .bool (xs.any p) ∧ Ext w w') := by
  obtain ⟨a, c, rfl⟩ := HSx.shape
  refine enter 9 Try.func67 rfl rfl (by simp) ?_
  refine c_seq ?_
  have E := Keep.refl (K := NoK) w
  refine wp_reg (by decide +kernel) ?_
  refine l_v (v_assign rfl) ?_
  refine l_nil ?_
  refine n_then ?_
  refine c_seq ?_
  refine wp_reg (by decide +kernel) ?_
  refine l_v (v_move (t := .slice _ _ _) rfl) ?_
  refine l_v (v_move (t := .func _ _ _) rfl) ?_
  refine l_to (to_f2 (by kernel_rfl) (show _ = (Value.slice _ _ _) from rfl) (show _ = (Value.func _ _ _) from rfl) (CallsR.mono (IndexFuncE_c HSx hb his) ?_))
  rintro _ w101 ⟨rfl, e101⟩
  have zs_e101 := e101.size
  replace E := E.trans (Ext.keep e101)
  refine l_v (v_geq rfl rfl) ?_
  refine l_v (v_assign (t := .bool _) rfl) ?_
  refine l_nil ?_
  refine n_then ?_
  refine c_ret ?_
  refine ret1v rfl (by decide) (show _ = (Value.bool _) from rfl) ?_
  exact ⟨by rw [idxP_any], E⟩

theorem IndexFuncM_c {w : World} {F : Nat → Prop} {v : Value} {xs : List Ms} {fn : Nat} {cap : Array Value} {p : Ms → Bool} (HSx : SlV tMs w F v xs) (hb : kBody Try.prog fn = true)
    (his : ∀ W u r, Ext w W → AgV tMs W F u r → r ∈ xs → CallsR Try.prog fn (#[u] ++ cap) W (fun o W' => o = .bool (p r) ∧ Ext W W')) :
    CallsR Try.prog 94 #[v, .func (.func fn) #[] cap] w (fun o w' => o = .int .i64 (idxP p xs 0) ∧ Ext w w') := by
  obtain ⟨a, c, rfl⟩ := HSx.shape
  have hmx := HSx.len_max
  refine enter 19 Try.func94 rfl rfl (by simp) ?_
  refine c_seq ?_
  have E := Keep.refl (K := NoK) w
  refine wp_reg (by decide +kernel) ?_
  refine l_v (v_assign rfl) ?_
  refine l_nil ?_
  refine n_then ?_
  refine c_seq ?_
  refine c_seq ?_
  refine wp_reg (by decide +kernel) ?_
  refine l_v (v_move (t := .slice _ _ _) rfl) ?_
  refine l_v (v_len (et := 26) (by kernel_rfl) rfl) ?_
  refine l_v (v_move rfl) ?_
  refine l_nil ?_
  refine n_then ?_
  refine c_block ?_
  refine c_loop (τ := Nat) [4, 5, 8, 9, 10, 11, 12, 13, 14, 15, 16, 17, 18] (fun i => [(8, .int .i64 i)]) (fun i W => Ext w W ∧ Keep (NoK) w W ∧ i ≤ xs.length ∧ idxP p xs 0 = idxP p (xs.drop i) i) (fun i => xs.length - i) 0 (by exact ⟨rfl, trivial⟩) (by exact ⟨E, Keep.refl _, Nat.zero_le _, rfl⟩) ?_
  rintro i w101 j ⟨E, EL1, h1, h2⟩
  have zs_EL1 := EL1.size
  replace HSx := HSx.ext EL1
  refine c_seq ?_
  refine wp_reg (by decide +kernel) ?_
  refine l_v (v_lss rfl rfl) ?_
  refine l_nil ?_
  refine n_then ?_
  refine c_seq ?_
  refine c_cond rfl rfl (fun hlt => ?_) (fun hlt => ?_)
  · skip
    have hlt := dtrue hlt
    obtain ⟨r, hx, hdr⟩ := getE (l := xs) (i := i) (by omega)
    obtain ⟨q, cs, hq, hF, _, HPq, hr⟩ := HSx.el hx
    subst hq
    have HGq : AgV tMs _ F _ r := ⟨cs, rfl, hr⟩
    obtain ⟨a7, c7, a8, c8, rfl, _⟩ := tMs_cells hr
    refine c_skip ?_
    refine n_then ?_
    refine c_seq ?_
    refine c_block ?_
    refine c_seq ?_
    refine wp_reg (by decide +kernel) ?_
    refine l_v (v_move (t := .int _ _) rfl) ?_
    refine l_v (v_assign (t := .int _ _) rfl) ?_
    refine l_nil ?_
    refine n_then ?_
    refine c_seq ?_
    refine wp_reg (by decide +kernel) ?_
    refine l_v (v_move (t := .func _ _ _) rfl) ?_
    refine l_v (v_move (t := .slice _ _ _) rfl) ?_
    refine l_v (v_move (t := .int _ _) rfl) ?_
    refine l_v (v_indexAddr (et := 26) (sz := 11) (k := i) (by kernel_rfl) (by kernel_rfl) rfl rfl (by first | rfl | omega) (by omega)) ?_
    refine l_v (v_loadA (by kernel_rfl) rfl (by first | exact HPq | assumption) rfl) ?_
    refine l_to (to_call1 hb rfl (show _ = (Value.agg _) from rfl) (CallsR.mono (his _ _ _ E HGq (List.mem_of_getElem? hx)) ?_))
    rintro _ w9 ⟨rfl, e9⟩
    have zs_e9 := e9.size
    replace E := E.trans (Ext.keep e9)
    replace HSx := HSx.ext e9
    replace EL1 := EL1.trans (Ext.keep e9)
    replace HPq := HPq.ext e9
    replace HGq := HGq.ext e9
    refine l_nil ?_
    refine n_then ?_
    refine c_cond rfl rfl (fun hc => ?_) (fun hc => ?_)
    · skip
      refine c_seq ?_
      refine wp_reg (by decide +kernel) ?_
      refine l_v (v_move (t := .int _ _) rfl) ?_
      refine l_v (v_assign (t := .int _ _) rfl) ?_
      refine l_nil ?_
      refine n_then ?_
      refine c_ret ?_
      refine r_blk ?_
      refine r_then ?_
      refine r_then ?_
      refine r_blk ?_
      refine r_then ?_
      refine ret1v rfl (by decide) (show _ = (Value.int _ _) from rfl) ?_
      refine ⟨?_, E⟩
      rw [h2, hdr, idxP, if_pos hc]
    · skip
      refine c_skip ?_
      refine n_blk ?_
      refine n_then ?_
      refine wp_reg (by decide +kernel) ?_
      refine l_v (v_add rfl rfl (by first | exact wr_i64 (by omega) (by omega) | rfl)) ?_
      refine l_v (v_move (t := .int _ _) rfl) ?_
      refine l_nil ?_
      refine n_then ?_
      refine ⟨i + 1, _, rfl, by (repeat (first | exact Off.of_over _ _ _ | refine Off.upd ?_ (by decide) _ | refine Off.overs ?_ (by decide) _)), ⟨by first | rfl | exact congrArg (Value.int _) (by omega) | (simp; done), trivial⟩, ⟨E, EL1, ?_⟩, ?_⟩
      · skip
        refine ⟨by omega, ?_⟩
        rw [h2, hdr, idxP, if_neg (by simp [hc])]
      · (dsimp only; omega)
  · skip
    refine c_exit ?_
    refine x_then ?_
    refine x_then ?_
    refine x_hit ?_
    refine n_then ?_
    refine c_seq ?_
    refine wp_reg (by decide +kernel) ?_
    refine l_v (v_assign rfl) ?_
    refine l_nil ?_
    refine n_then ?_
    refine c_ret ?_
    refine ret1v rfl (by decide) (show _ = (Value.int _ _) from rfl) ?_
    refine ⟨?_, E⟩
    rw [h2, List.drop_eq_nil_of_le (by have := dfalse hlt; omega)]; rfl
theorem ContainsFuncM_c {w : World} {F : Nat → Prop} {v : Value} {xs : List Ms} {fn : Nat} {cap : Array Value} {p : Ms → Bool} (HSx : SlV tMs w F v xs) (hb : kBody Try.prog fn = true)
    (his : ∀ W u r, Ext w W → AgV tMs W F u r → r ∈ xs → CallsR Try.prog fn (#[u] ++ cap) W (fun o W' => o = .bool (p r) ∧ Ext W W')) :
    CallsR Try.prog 58 #[v, .func (.func fn) #[] cap] w (fun o w' => o = .bool (xs.any p) ∧ Ext w w') := by
  obtain ⟨a, c, rfl⟩ := HSx.shape
  refine enter 9 Try.func58 rfl rfl (by simp) ?_
  refine c_seq ?_
  have E := Keep.refl (K := NoK) w
  refine wp_reg (by decide +kernel) ?_
  refine l_v (v_assign rfl) ?_
  refine l_nil ?_
  refine n_then ?_
  refine c_seq ?_
  refine wp_reg (by decide +kernel) ?_
  refine l_v (v_move (t := .slice _ _ _) rfl) ?_
  refine l_v (v_move (t := .func _ _ _) rfl) ?_
  refine l_to (to_f2 (by kernel_rfl) (show _ = (Value.slice _ _ _) from rfl) (show _ = (Value.func _ _ _) from rfl) (CallsR.mono (IndexFuncM_c HSx hb his) ?_))
  rintro _ w101 ⟨rfl, e101⟩
  have zs_e101 := e101.size
  replace E := E.trans (Ext.keep e101)
  refine l_v (v_geq rfl rfl) ?_
  refine l_v (v_assign (t := .bool _) rfl) ?_
  refine l_nil ?_
  refine n_then ?_
  refine c_ret ?_
  refine ret1v rfl (by decide) (show _ = (Value.bool _) from rfl) ?_
  exact ⟨by rw [idxP_any], E⟩


theorem May1_d {w : World} {c : Bool} {x : Int} : CallsR Try.prog 64 (#[.bool c, .int .i64 x] ++ #[]) w (fun o w' => o = .bool (numB c x) ∧ Ext w w') := May1_c
theorem May2_d {w : World} {F : Nat → Prop} {v : Value} {e : EnV} (HG1 : AgV tEn w F v e) : CallsR Try.prog 66 (#[v] ++ #[]) w (fun o w' => o = .bool (badE e) ∧ Ext w w') := May2_c HG1
theorem May_c {w : World} {F : Nat → Prop} {v : Value} {m : Ms} (HG1 : AgV tMs w F v m) : CallsR Try.prog 27 #[v] w (fun o w' => o = .bool (mayN m) ∧ Ext w w') := by
  obtain ⟨a1, c1, a2, c2, rfl, HSe, HSs, hw⟩ := HG1.ms
  have hw0 := hw.kind
  refine enter 134 Try.func27 rfl rfl (by simp) ?_
  refine c_seq ?_
  have E := Keep.refl (K := NoK) w
  replace HSe := HSe.all
  replace HSs := HSs.all
  refine wp_reg (by decide +kernel) ?_
  refine l_to (to_box (show _ = (Value.agg _) from rfl) ?_)
  rintro b1 w1 zb1 HB1 e1 z1
  have zs_e1 := e1.size
  replace E := E.trans (Ext.keep e1)
  replace HSe := HSe.ext e1
  replace HSs := HSs.ext e1
  try simp only [Value.cells] at HB1
  refine l_v (v_assign rfl) ?_
  refine l_nil ?_
  refine n_then ?_
  refine c_seq ?_
  refine c_seq ?_
  refine wp_reg (by decide +kernel) ?_
  refine l_v (v_fieldAddr (off := 0) (ft := 22) (by kernel_rfl) rfl) ?_
  refine l_v (v_load (by kernel_rfl) rfl (by first | exact HB1.pv 0 _ rfl | assumption)) ?_
  refine l_v (v_lss rfl rfl) ?_
  refine l_v (v_move (t := .bool _) rfl) ?_
  refine l_g1 rfl rfl (fun hG => v_fieldAddr (off := 0) (ft := 22) (by kernel_rfl) rfl) ?_
  refine l_g1 rfl rfl (fun hG => v_load (by kernel_rfl) (gd hG rfl) (by first | exact HB1.pv 0 _ rfl | assumption)) ?_
  refine l_g1 rfl rfl (fun hG => v_gtr (gd hG rfl) rfl) ?_
  refine l_v (v_or rfl rfl) ?_
  refine l_v (v_move (t := .bool _) rfl) ?_
  refine l_g1 rfl rfl (fun hG => v_fieldAddr (off := 1) (ft := 3) (by kernel_rfl) rfl) ?_
  refine l_g1 rfl rfl (fun hG => v_load (by kernel_rfl) (gd hG rfl) (by first | exact HB1.pv 1 _ rfl | assumption)) ?_
  refine l_g1 rfl rfl (fun hG => v_fieldAddr (off := 2) (ft := 3) (by kernel_rfl) rfl) ?_
  refine l_g1 rfl rfl (fun hG => v_load (by kernel_rfl) (gd hG rfl) (by first | exact HB1.pv 2 _ rfl | assumption)) ?_
  refine l_g1 rfl rfl (fun hG => v_eql (gd hG rfl) (gd hG rfl)) ?_
  refine l_v (v_or rfl rfl) ?_
  refine l_nil ?_
  refine n_then ?_
  refine c_cond rfl rfl (fun hc => ?_) (fun hc => ?_)
  · skip
    refine c_seq ?_
    refine wp_reg (by decide +kernel) ?_
    refine l_v (v_assign rfl) ?_
    refine l_nil ?_
    refine n_then ?_
    refine c_ret ?_
    refine r_then ?_
    refine ret1v rfl (by decide) (show _ = (Value.bool _) from rfl) ?_
    exact ⟨by rw [mayN_no hc], E⟩
  · skip
    have hk : 1 ≤ m.kind ∧ m.kind ≤ 7 := may_kr hc
    refine c_skip ?_
    refine n_then ?_
    refine c_seq ?_
    refine wp_any (by kernel_rfl) ?_
    have e101 : Ext w1 { w1 with drawn := w1.drawn + 1 } := Keep.drawn _ _
    generalize hw101 : ({ w1 with drawn := w1.drawn + 1 } : World) = w101 at e101 ⊢
    clear hw101
    have zs_e101 := e101.size
    replace E := E.trans (Ext.keep e101)
    replace HSe := HSe.ext e101
    replace HSs := HSs.ext e101
    replace HB1 := HB1.ext e101
    refine r_cut 5 rfl (by decide +kernel) (by decide +kernel) (by decide +kernel) ?_
    refine wp_regJW (fun k => w101.heap.size ≤ k) (AlJ w101.heap.size [⟨4, none, 77, ([.bool false, .bool false, .bool false, .bool false, .bool false, .bool false] : List Value), ([.bool false, .bool false, .bool false, .bool false, .bool false, .bool false] : List Value)⟩]) (by decide +kernel) (by decide +kernel) (fun vals done hd => AlJ.start (Nat.le_refl _) (fun a ha => hd a.al (al_lt (n := 5) rfl a ha))) ?_
    refine rj_vfJ (fun done vals w hR hcl hdk hJ hdn hd => to_f0 (by kernel_rfl) (kinds_c)) (fun done vals w w1 hdk hJ e => hJ.src e rfl) ?_
    refine rj_vJ (fun done vals w hR hcl hdk hJ hdn hd => v_fieldAddr (off := 0) (ft := 22) (by kernel_rfl) rfl) (fun done vals w hdk hJ => hJ.src (Keep.refl _) rfl) ?_
    refine rj_vJ (fun done vals w hR hcl hdk hJ hdn hd => v_load (by kernel_rfl) (hd 1 rfl) (by first | exact (HB1.keep hR (by intro h; (try dsimp only at h); first | omega)).pv 0 _ rfl | assumption)) (fun done vals w hdk hJ => hJ.src (Keep.refl _) rfl) ?_
    refine rj_vJ (fun done vals w hR hcl hdk hJ hdn hd => v_indexA (et := 77) (n := 8) (sz := 6) (k := m.kind.toNat) (by kernel_rfl) (by kernel_rfl) (hd 0 rfl) (hd 2 rfl) (by omega) (by omega) (kinds_ex (by omega) (by omega))) (fun done vals w hdk hJ => hJ.src (Keep.refl _) rfl) ?_
    refine rj_d (fun done vals w hR hcl hdk hJ hdn hd => to_alloc (z := .agg #[.bool false, .bool false, .bool false, .bool false, .bool false, .bool false]) (by unfold kZero; kernel_rfl) fun b w1 hb hB e hz => ⟨Ext.keep e, hJ.al (i := 0) rfl rfl hdk hcl (fun m a hm he => alOne_al (i := 0) (m := m) rfl rfl hm he) (fun a ha => alSt_ne rfl ha (List.mem_of_getElem? (i := 0) rfl)) (fun s hs => by cases hs) hb hB e⟩) ?_
    refine rj_nil (fun vals w102 k102 J102 => ?_)
    rintro _ - rfl _ - rfl _ - rfl _ - rfl v3 qv3 -
    have zs_k102 := k102.size
    obtain ⟨b3, hb3, zb3, HB3⟩ := J102.fin (i := 0) rfl
    try dsimp only at HB3
    have zl3 := HB3.lt
    obtain rfl := qv3.trans hb3
    replace E := E.step k102 (by intro i hi he; (try dsimp only [NoK] at hi he ⊢); first | exact he.elim | omega | exact he)
    replace HSe := HSe.keep k102 (by intro i _ hi he; (try dsimp only [NoK, AllB] at hi he); first | exact hi.elim | exact he.elim | omega | (rcases hi with hi | hi <;> omega) | (rcases he with he | he <;> omega))
    replace HSs := HSs.keep k102 (by intro i _ hi he; (try dsimp only [NoK, AllB] at hi he); first | exact hi.elim | exact he.elim | omega | (rcases hi with hi | hi <;> omega) | (rcases he with he | he <;> omega))
    replace HB1 := HB1.keep k102 (by intro h; (try dsimp only at h); first | omega)
    refine fin_nilJ ?_
    refine n_then ?_
    refine r_one (by decide +kernel) rfl ?_
    refine l_to (to_storeA (n := 6) rfl rfl (show _ = (Value.agg _) from rfl) (by kernel_rfl) rfl (by first | (simp [slice_one]; done) | (simp only [List.forall_mem_cons, List.cons_append, List.nil_append]; repeat' (first | exact rfl | apply And.intro | (intro u hu; cases hu; done)))) HB3 (by first | exact of_decide_eq_true rfl | (simp; done) | decide) ?_)
    rintro w103 HX103 k103 z103
    have zs_k103 := k103.size
    replace E := E.step k103 (by intro i hi he; (try dsimp only [NoK] at hi he ⊢); first | exact he.elim | omega | exact he)
    replace HSe := HSe.keep k103 (by intro i _ hi he; (try dsimp only [NoK, AllB] at hi he); first | exact hi.elim | exact he.elim | omega | (rcases hi with hi | hi <;> omega) | (rcases he with he | he <;> omega))
    replace HSs := HSs.keep k103 (by intro i _ hi he; (try dsimp only [NoK, AllB] at hi he); first | exact hi.elim | exact he.elim | omega | (rcases hi with hi | hi <;> omega) | (rcases he with he | he <;> omega))
    replace HB1 := HB1.keep k103 (by intro h; (try dsimp only at h); first | omega)
    replace HB3 := HX103
    clear HX103
    try simp only [List.set_cons_zero, List.set_cons_succ, setAt, List.take_zero, List.take_succ_cons, List.drop_zero, List.drop_succ_cons, List.nil_append, List.cons_append, List.append_nil, List.length_cons, List.length_nil, Nat.zero_add, Nat.reduceAdd, List.drop_nil] at HB3
    refine l_nil ?_
    refine n_then ?_
    refine c_seq ?_
    refine wp_reg (by decide +kernel) ?_
    refine l_v (v_assign (t := .func _ _ _) rfl) ?_
    refine l_nil ?_
    refine n_then ?_
    refine c_seq ?_
    refine wp_reg (by decide +kernel) ?_
    refine l_v (v_fieldAddr (off := 1) (ft := 3) (by kernel_rfl) rfl) ?_
    refine l_v (v_load (by kernel_rfl) rfl (by first | exact HB3.pv 1 _ rfl | exact HB1.pv 1 _ rfl | assumption)) ?_
    refine l_to (to_f3 (by kernel_rfl) (show _ = (Value.int _ _) from rfl) (show _ = (Value.int _ _) from rfl) (show _ = (Value.int _ _) from rfl) (CallsR.mono (within_c) ?_))
    rintro _ w104 ⟨rfl, e104⟩
    have zs_e104 := e104.size
    replace E := E.trans (Ext.keep e104)
    replace HSe := HSe.ext e104
    replace HSs := HSs.ext e104
    replace HB1 := HB1.ext e104
    replace HB3 := HB3.ext e104
    refine l_v (v_move (t := .bool _) rfl) ?_
    refine l_g1 rfl rfl (fun hG => v_fieldAddr (off := 2) (ft := 3) (by kernel_rfl) rfl) ?_
    refine l_g1 rfl rfl (fun hG => v_load (by kernel_rfl) (gd hG rfl) (by first | exact HB3.pv 2 _ rfl | exact HB1.pv 2 _ rfl | assumption)) ?_
    refine l_g1f rfl rfl (fun hG => to_f3 (by kernel_rfl) (gd hG rfl) (show _ = (Value.int _ _) from rfl) (show _ = (Value.int _ _) from rfl) (within_c)) ?_
    rintro w105 e105
    have zs_e105 := e105.size
    replace E := E.trans (Ext.keep e105)
    replace HSe := HSe.ext e105
    replace HSs := HSs.ext e105
    replace HB1 := HB1.ext e105
    replace HB3 := HB3.ext e105
    refine l_v (v_and rfl rfl) ?_
    refine l_v (v_move (t := .bool _) rfl) ?_
    refine l_g1 rfl rfl (fun hG => v_fieldAddr (off := 3) (ft := 3) (by kernel_rfl) rfl) ?_
    refine l_g1 rfl rfl (fun hG => v_load (by kernel_rfl) (gd hG rfl) (by first | exact HB3.pv 3 _ rfl | exact HB1.pv 3 _ rfl | assumption)) ?_
    refine l_g1f rfl rfl (fun hG => to_f3 (by kernel_rfl) (gd hG rfl) (show _ = (Value.int _ _) from rfl) (show _ = (Value.int _ _) from rfl) (within_c)) ?_
    rintro w106 e106
    have zs_e106 := e106.size
    replace E := E.trans (Ext.keep e106)
    replace HSe := HSe.ext e106
    replace HSs := HSs.ext e106
    replace HB1 := HB1.ext e106
    replace HB3 := HB3.ext e106
    refine l_v (v_and rfl rfl) ?_
    refine l_v (v_assign (t := .bool _) rfl) ?_
    refine l_nil ?_
    refine n_then ?_
    refine c_seq ?_
    refine wp_reg (by decide +kernel) ?_
    refine l_v (v_fieldAddr (off := 4) (ft := 2) (by kernel_rfl) rfl) ?_
    refine l_v (v_load (by kernel_rfl) rfl (by first | exact HB3.pv 4 _ rfl | exact HB1.pv 4 _ rfl | assumption)) ?_
    refine l_to (to_f3 (by kernel_rfl) (show _ = (Value.int _ _) from rfl) (show _ = (Value.int _ _) from rfl) (show _ = (Value.int _ _) from rfl) (CallsR.mono (within_c) ?_))
    rintro _ w107 ⟨rfl, e107⟩
    have zs_e107 := e107.size
    replace E := E.trans (Ext.keep e107)
    replace HSe := HSe.ext e107
    replace HSs := HSs.ext e107
    replace HB1 := HB1.ext e107
    replace HB3 := HB3.ext e107
    refine l_v (v_move (t := .bool _) rfl) ?_
    refine l_g1 rfl rfl (fun hG => v_move (t := .func _ _ _) rfl) ?_
    refine l_g1 rfl rfl (fun hG => v_fieldAddr (off := 0) (ft := 4) (by kernel_rfl) rfl) ?_
    refine l_g1 rfl rfl (fun hG => v_load (by kernel_rfl) (gd hG rfl) (by first | exact HB3.pv 0 _ rfl | exact HB1.pv 0 _ rfl | assumption)) ?_
    refine l_g1 rfl rfl (fun hG => v_fieldAddr (off := 5) (ft := 2) (by kernel_rfl) rfl) ?_
    refine l_g1 rfl rfl (fun hG => v_load (by kernel_rfl) (gd hG rfl) (by first | exact HB3.pv 5 _ rfl | exact HB1.pv 5 _ rfl | assumption)) ?_
    refine l_g1f rfl rfl (fun hG => to_call2 (by kernel_rfl) (gd hG rfl) (gd hG rfl) (gd hG rfl) (May1_d)) ?_
    rintro w108 e108
    have zs_e108 := e108.size
    replace E := E.trans (Ext.keep e108)
    replace HSe := HSe.ext e108
    replace HSs := HSs.ext e108
    replace HB1 := HB1.ext e108
    replace HB3 := HB3.ext e108
    refine l_v (v_and rfl rfl) ?_
    refine l_v (v_move (t := .bool _) rfl) ?_
    refine l_g1 rfl rfl (fun hG => v_move (t := .func _ _ _) rfl) ?_
    refine l_g1 rfl rfl (fun hG => v_fieldAddr (off := 1) (ft := 4) (by kernel_rfl) rfl) ?_
    refine l_g1 rfl rfl (fun hG => v_load (by kernel_rfl) (gd hG rfl) (by first | exact HB3.pv 1 _ rfl | exact HB1.pv 1 _ rfl | assumption)) ?_
    refine l_g1 rfl rfl (fun hG => v_fieldAddr (off := 6) (ft := 2) (by kernel_rfl) rfl) ?_
    refine l_g1 rfl rfl (fun hG => v_load (by kernel_rfl) (gd hG rfl) (by first | exact HB3.pv 6 _ rfl | exact HB1.pv 6 _ rfl | assumption)) ?_
    refine l_g1f rfl rfl (fun hG => to_call2 (by kernel_rfl) (gd hG rfl) (gd hG rfl) (gd hG rfl) (May1_d)) ?_
    rintro w109 e109
    have zs_e109 := e109.size
    replace E := E.trans (Ext.keep e109)
    replace HSe := HSe.ext e109
    replace HSs := HSs.ext e109
    replace HB1 := HB1.ext e109
    replace HB3 := HB3.ext e109
    refine l_v (v_and rfl rfl) ?_
    refine l_v (v_move (t := .bool _) rfl) ?_
    refine l_g1 rfl rfl (fun hG => v_move (t := .func _ _ _) rfl) ?_
    refine l_g1 rfl rfl (fun hG => v_fieldAddr (off := 2) (ft := 4) (by kernel_rfl) rfl) ?_
    refine l_g1 rfl rfl (fun hG => v_load (by kernel_rfl) (gd hG rfl) (by first | exact HB3.pv 2 _ rfl | exact HB1.pv 2 _ rfl | assumption)) ?_
    refine l_g1 rfl rfl (fun hG => v_fieldAddr (off := 7) (ft := 2) (by kernel_rfl) rfl) ?_
    refine l_g1 rfl rfl (fun hG => v_load (by kernel_rfl) (gd hG rfl) (by first | exact HB3.pv 7 _ rfl | exact HB1.pv 7 _ rfl | assumption)) ?_
    refine l_g1f rfl rfl (fun hG => to_call2 (by kernel_rfl) (gd hG rfl) (gd hG rfl) (gd hG rfl) (May1_d)) ?_
    rintro w110 e110
    have zs_e110 := e110.size
    replace E := E.trans (Ext.keep e110)
    replace HSe := HSe.ext e110
    replace HSs := HSs.ext e110
    replace HB1 := HB1.ext e110
    replace HB3 := HB3.ext e110
    refine l_v (v_and rfl rfl) ?_
    refine l_v (v_assign (t := .bool _) rfl) ?_
    refine l_nil ?_
    refine n_then ?_
    refine c_seq ?_
    refine wp_reg (by decide +kernel) ?_
    refine l_v (v_fieldAddr (off := 4) (ft := 4) (by kernel_rfl) rfl) ?_
    refine l_v (v_load (by kernel_rfl) rfl (by first | exact HB3.pv 4 _ rfl | exact HB1.pv 4 _ rfl | assumption)) ?_
    refine l_v (v_move (t := .bool _) rfl) ?_
    refine l_g1 rfl rfl (fun hG => v_fieldAddr (off := 9) (ft := 4) (by kernel_rfl) rfl) ?_
    refine l_g1 rfl rfl (fun hG => v_load (by kernel_rfl) (gd hG rfl) (by first | exact HB3.pv 9 _ rfl | exact HB1.pv 9 _ rfl | assumption)) ?_
    refine l_g1 rfl rfl (fun hG => v_not (gd hG rfl)) ?_
    refine l_v (v_or rfl rfl) ?_
    refine l_v (v_move (t := .bool _) rfl) ?_
    refine l_g1 rfl rfl (fun hG => v_fieldAddr (off := 3) (ft := 4) (by kernel_rfl) rfl) ?_
    refine l_g1 rfl rfl (fun hG => v_load (by kernel_rfl) (gd hG rfl) (by first | exact HB3.pv 3 _ rfl | exact HB1.pv 3 _ rfl | assumption)) ?_
    refine l_g1 rfl rfl (fun hG => v_move (t := .bool _) (gd hG rfl)) ?_
    refine l_g2 rfl rfl (fun hG => v_fieldAddr (off := 8) (ft := 23) (by kernel_rfl) rfl) ?_
    refine l_g2 rfl rfl (fun hG => v_load (by kernel_rfl) (gd hG rfl) (by first | exact HB3.pv 8 _ rfl | exact HB1.pv 8 _ rfl | assumption)) ?_
    refine l_g2 rfl rfl (fun hG => v_len (et := 73) (by kernel_rfl) (gd hG rfl)) ?_
    refine l_g2 rfl rfl (fun hG => v_eql (gd hG rfl) rfl) ?_
    refine l_g1 rfl rfl (fun hG => v_or (gd hG rfl) (gda hG rfl)) ?_
    refine l_v (v_and rfl rfl) ?_
    refine l_v (v_move (t := .bool _) rfl) ?_
    refine l_g1 rfl rfl (fun hG => v_fieldAddr (off := 5) (ft := 4) (by kernel_rfl) rfl) ?_
    refine l_g1 rfl rfl (fun hG => v_load (by kernel_rfl) (gd hG rfl) (by first | exact HB3.pv 5 _ rfl | exact HB1.pv 5 _ rfl | assumption)) ?_
    refine l_g1 rfl rfl (fun hG => v_move (t := .bool _) (gd hG rfl)) ?_
    refine l_g2 rfl rfl (fun hG => v_fieldAddr (off := 10) (ft := 24) (by kernel_rfl) rfl) ?_
    refine l_g2 rfl rfl (fun hG => v_load (by kernel_rfl) (gd hG rfl) (by first | exact HB3.pv 10 _ rfl | exact HB1.pv 10 _ rfl | assumption)) ?_
    refine l_g2 rfl rfl (fun hG => v_len (et := 5) (by kernel_rfl) (gd hG rfl)) ?_
    refine l_g2 rfl rfl (fun hG => v_eql (gd hG rfl) rfl) ?_
    refine l_g1 rfl rfl (fun hG => v_or (gd hG rfl) (gda hG rfl)) ?_
    refine l_v (v_and rfl rfl) ?_
    refine l_v (v_assign (t := .bool _) rfl) ?_
    refine l_nil ?_
    refine n_then ?_
    refine c_seq ?_
    refine wp_reg (by decide +kernel) ?_
    refine l_v (v_assign (t := .func _ _ _) rfl) ?_
    refine l_nil ?_
    refine n_then ?_
    refine c_seq ?_
    refine wp_reg (by decide +kernel) ?_
    refine l_v (v_fieldAddr (off := 8) (ft := 23) (by kernel_rfl) rfl) ?_
    refine l_v (v_load (by kernel_rfl) rfl (by first | exact HB3.pv 8 _ rfl | exact HB1.pv 8 _ rfl | assumption)) ?_
    refine l_v (v_len (et := 73) (by kernel_rfl) rfl) ?_
    refine l_v (v_leq rfl rfl) ?_
    refine l_v (v_move (t := .bool _) rfl) ?_
    refine l_g1 rfl rfl (fun hG => v_fieldAddr (off := 10) (ft := 24) (by kernel_rfl) rfl) ?_
    refine l_g1 rfl rfl (fun hG => v_load (by kernel_rfl) (gd hG rfl) (by first | exact HB3.pv 10 _ rfl | exact HB1.pv 10 _ rfl | assumption)) ?_
    refine l_g1 rfl rfl (fun hG => v_len (et := 5) (by kernel_rfl) (gd hG rfl)) ?_
    refine l_g1 rfl rfl (fun hG => v_leq (gd hG rfl) rfl) ?_
    refine l_v (v_and rfl rfl) ?_
    refine l_v (v_move (t := .bool _) rfl) ?_
    refine l_g1 rfl rfl (fun hG => v_fieldAddr (off := 8) (ft := 23) (by kernel_rfl) rfl) ?_
    refine l_g1 rfl rfl (fun hG => v_load (by kernel_rfl) (gd hG rfl) (by first | exact HB3.pv 8 _ rfl | exact HB1.pv 8 _ rfl | assumption)) ?_
    refine l_g1 rfl rfl (fun hG => v_move (t := .func _ _ _) rfl) ?_
    refine l_g1f rfl rfl (fun hG => to_f2 (by kernel_rfl) (gd hG rfl) (gd hG rfl) (ContainsFuncE_c HSe (by kernel_rfl) (fun W u r e h _ => May2_d h))) ?_
    rintro w111 e111
    have zs_e111 := e111.size
    replace E := E.trans (Ext.keep e111)
    replace HSe := HSe.ext e111
    replace HSs := HSs.ext e111
    replace HB1 := HB1.ext e111
    replace HB3 := HB3.ext e111
    refine l_g1 rfl rfl (fun hG => v_not (gd hG rfl)) ?_
    refine l_v (v_and rfl rfl) ?_
    refine l_v (v_assign (t := .bool _) rfl) ?_
    refine l_nil ?_
    refine n_then ?_
    refine c_seq ?_
    refine wp_reg (by decide +kernel) ?_
    refine l_v (v_move (t := .bool _) rfl) ?_
    refine l_v (v_move (t := .bool _) rfl) ?_
    refine l_g1 rfl rfl (fun hG => v_move (t := .bool _) rfl) ?_
    refine l_v (v_and rfl rfl) ?_
    refine l_v (v_move (t := .bool _) rfl) ?_
    refine l_g1 rfl rfl (fun hG => v_move (t := .bool _) rfl) ?_
    refine l_v (v_and rfl rfl) ?_
    refine l_v (v_move (t := .bool _) rfl) ?_
    refine l_g1 rfl rfl (fun hG => v_move (t := .bool _) rfl) ?_
    refine l_v (v_and rfl rfl) ?_
    refine l_v (v_move (t := .bool _) rfl) ?_
    refine l_g1 rfl rfl (fun hG => v_fieldAddr (off := 0) (ft := 22) (by kernel_rfl) rfl) ?_
    refine l_g1 rfl rfl (fun hG => v_load (by kernel_rfl) (gd hG rfl) (by first | exact HB3.pv 0 _ rfl | exact HB1.pv 0 _ rfl | assumption)) ?_
    refine l_g1 rfl rfl (fun hG => v_lss (gd hG rfl) rfl) ?_
    refine l_g1 rfl rfl (fun hG => v_move (t := .bool _) (gd hG rfl)) ?_
    refine l_g2 rfl rfl (fun hG => v_fieldAddr (off := 8) (ft := 23) (by kernel_rfl) rfl) ?_
    refine l_g2 rfl rfl (fun hG => v_load (by kernel_rfl) (gd hG rfl) (by first | exact HB3.pv 8 _ rfl | exact HB1.pv 8 _ rfl | assumption)) ?_
    refine l_g2 rfl rfl (fun hG => v_len (et := 73) (by kernel_rfl) (gd hG rfl)) ?_
    refine l_g2 rfl rfl (fun hG => v_eql (gd hG rfl) rfl) ?_
    refine l_g1 rfl rfl (fun hG => v_or (gd hG rfl) (gda hG rfl)) ?_
    refine l_v (v_and rfl rfl) ?_
    refine l_v (v_assign (t := .bool _) rfl) ?_
    refine l_nil ?_
    refine n_then ?_
    refine c_ret ?_
    refine ret1v rfl (by decide) (show _ = (Value.bool _) from rfl) ?_
    exact ⟨by rw [mayN_go hc], E⟩
end Go.Proofs.Ytaidpdjlchnonaa
