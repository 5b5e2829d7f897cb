/- A part of the proof: steps and lemmas for the walks through the given program. -/
import Derived.Test.YtaidpdjlchnonaaN35
namespace Go.Proofs.Ytaidpdjlchnonaa
open Go.Vc
set_option linter.unusedVariables false
set_option linter.unusedSimpArgs false
set_option maxRecDepth 100000

theorem toL_append (node : Int) : ∀ (l1 l2 : List Ms) (i : Nat), toL node (l1 ++ l2) i = toL node l1 i ++ toL node l2 (i + l1.length)
  | [], l2, i => by simp [toL]
  | m :: l1, l2, i => by
    rw [List.cons_append, toL, toL, toL_append node l1 l2 (i + 1), List.length_cons, show i + 1 + l1.length = i + (l1.length + 1) by omega]
    split <;> rfl
theorem toL_split {node : Int} {ms : List Ms} {i : Nat} {r : Ms} (hx : ms[i]? = some r) : toL node ms 0 = toL node (ms.take i) 0 ++ (if r.to = node then [(i : Int)] else []) ++ toL node (ms.drop (i + 1)) (i + 1) := by
  have hlt := (List.getElem?_eq_some_iff.1 hx).1
  have h : ms = ms.take i ++ (r :: ms.drop (i + 1)) := by
    have := List.take_append_drop i ms
    rw [List.drop_eq_getElem_cons hlt] at this
    rw [List.getElem?_eq_getElem hlt] at hx
    rw [Option.some.inj hx] at this
    exact this.symm
  conv => lhs; rw [h]
  rw [toL_append, List.length_take, Nat.min_eq_left (by omega), Nat.zero_add, toL]
  split <;> simp
theorem places_c {w : World} {F G : Nat → Prop} {b c c2 : Nat} {a a2 : Option Addr} {ms : List Ms} {y : Value} {node : Int} (HS1 : SlV (tInt .i64) w F (.slice a2 (toL node ms 0).length c2) (toL node ms 0)) (HB2 : Blk w b [.slice a ms.length c, y] 52) (HS2 : SlV tMs w G (.slice a ms.length c) ms) : CallsR Try.prog 30 #[.slice a2 (toL node ms 0).length c2, .pointer (some ⟨b, 0, none⟩), .int .i64 node] w (fun o w' => o = .bool true ∧ Ext w w') := by
  have hmx := HS1.len_max
  have hmx2 := HS2.len_max
  refine enter 46 Try.func30 rfl rfl (by simp) ?_
  refine c_seq ?_
  have E := Keep.refl (K := NoK) w
  replace HS1 := HS1.all
  replace HS2 := HS2.all
  refine wp_reg (by decide +kernel) ?_
  refine l_v (v_assign rfl) ?_
  refine l_nil ?_
  refine n_then ?_
  refine c_seq ?_
  refine wp_reg (by decide +kernel) ?_
  refine l_v (v_assign rfl) ?_
  refine l_nil ?_
  refine n_then ?_
  refine c_seq ?_
  refine c_seq ?_
  refine wp_reg (by decide +kernel) ?_
  refine l_v (v_assign rfl) ?_
  refine l_nil ?_
  refine n_then ?_
  refine c_block ?_
  refine c_loop (τ := Nat × Nat) [6, 7, 8, 9, 10, 11, 12, 13, 14, 15, 16, 17, 18, 19, 20, 21, 22, 23, 24, 25, 26, 27, 28, 29, 30, 31, 32, 33, 34, 35, 36, 37, 38, 39, 40, 41] (fun (i, n) => [(7, .int .i64 n), (8, .int .i64 i)]) (fun (i, n) W => Ext w W ∧ Keep (NoK) w W ∧ i ≤ ms.length ∧ n = (toL node (ms.take i) 0).length) (fun (i, n) => ms.length - i) (0, 0) (by exact ⟨rfl, rfl, trivial⟩) (by exact ⟨E, Keep.refl _, Nat.zero_le _, rfl⟩) ?_
  rintro ⟨i, n⟩ w101 j ⟨E, EL1, h1, h2⟩
  have zs_EL1 := EL1.size
  replace HS1 := HS1.ext EL1
  replace HB2 := HB2.ext EL1
  replace HS2 := HS2.ext EL1
  refine c_seq ?_
  refine c_seq ?_
  refine wp_reg (by decide +kernel) ?_
  refine l_v (v_move (t := .int _ _) rfl) ?_
  refine l_v (v_move (t := .pointer _) rfl) ?_
  refine l_v (v_nilCheck rfl) ?_
  refine l_v (v_fieldAddr (off := 0) (ft := 41) (by kernel_rfl) rfl) ?_
  refine l_v (v_load (by kernel_rfl) rfl (by first | exact HB2.pv 0 _ rfl | assumption)) ?_
  refine l_v (v_len (et := 26) (by kernel_rfl) rfl) ?_
  refine l_v (v_lss rfl rfl) ?_
  refine l_nil ?_
  refine n_then ?_
  refine c_cond rfl rfl (fun hlt => ?_) (fun hlt => ?_)
  · skip
    have hlt := dtrue hlt
    obtain ⟨r, hx, hdr⟩ := getE (l := ms) (i := i) (by omega)
    have hsp := toL_split (node := node) hx
    have htk := toL_snoc node r (ms.take i) 0
    obtain ⟨q1, cs1, hq1, _, _, HP1, hr1⟩ := HS2.el hx
    subst hq1
    obtain ⟨b1, d1, b3, d3, rfl, _⟩ := tMs_cells hr1
    refine c_skip ?_
    refine n_then ?_
    refine c_seq ?_
    refine c_block ?_
    refine c_seq ?_
    refine c_seq ?_
    refine wp_reg (by decide +kernel) ?_
    refine l_v (v_move (t := .pointer _) rfl) ?_
    refine l_v (v_nilCheck rfl) ?_
    refine l_v (v_fieldAddr (off := 0) (ft := 41) (by kernel_rfl) rfl) ?_
    refine l_v (v_load (by kernel_rfl) rfl (by first | exact HP1 0 _ rfl | exact HB2.pv 0 _ rfl | assumption)) ?_
    refine l_v (v_move (t := .int _ _) rfl) ?_
    refine l_v (v_indexAddr (et := 26) (sz := 11) (k := i) (by kernel_rfl) (by kernel_rfl) rfl rfl (by first | rfl | omega) (by omega)) ?_
    refine l_v (v_fieldAddr (off := 2) (ft := 3) (by kernel_rfl) rfl) ?_
    refine l_v (v_load (by kernel_rfl) rfl (by first | exact HP1 2 _ rfl | exact HB2.pv 2 _ rfl | assumption)) ?_
    refine l_v (v_move (t := .int _ _) rfl) ?_
    refine l_v (v_neq rfl rfl) ?_
    refine l_nil ?_
    refine n_then ?_
    refine c_cond rfl rfl (fun hto => ?_) (fun hto => ?_)
    · skip
      have hto2 : ¬ r.to = node := by simpa using hto
      refine c_exit ?_
      refine x_then ?_
      refine x_hit ?_
      refine n_then ?_
      refine wp_reg (by decide +kernel) ?_
      refine l_v (v_move (t := .int _ _) rfl) ?_
      refine l_v (v_add rfl rfl (by first | exact wr_i64 (by omega) (by omega) | rfl)) ?_
      refine l_v (v_assign (t := .int _ _) rfl) ?_
      refine l_nil ?_
      refine n_then ?_
      refine ⟨(i + 1, n), _, rfl, by (repeat (first | exact Off.of_over _ _ _ | refine Off.upd ?_ (by decide) _ | refine Off.overs ?_ (by decide) _)), ⟨by first | rfl | exact congrArg (Value.int _) (by omega) | (simp; done), by first | rfl | exact congrArg (Value.int _) (by omega) | (simp; done), trivial⟩, ⟨E, EL1, ?_⟩, ?_⟩
      · skip
        refine ⟨by omega, ?_⟩
        rw [List.take_add_one, hx]
        show n = (toL node (ms.take i ++ [r]) 0).length
        rw [htk, if_neg hto2, List.append_nil]; exact h2
      · (dsimp only; omega)
    · skip
      have hto2 : r.to = node := by simpa using hto
      rw [if_pos hto2] at hsp
      have hnl : n < (toL node ms 0).length := by rw [hsp]; simp; omega
      have hgl : (toL node ms 0)[n]? = some (i : Int) := by rw [hsp, List.append_assoc, List.getElem?_append_right (by omega), h2]; simp
      obtain ⟨q2, cs2, hq2, _, _, HP2, hr2⟩ := HS1.el hgl
      subst hq2
      obtain ⟨rfl, _⟩ := hr2
      refine c_skip ?_
      refine n_then ?_
      refine c_seq ?_
      refine c_seq ?_
      refine wp_reg (by decide +kernel) ?_
      refine l_v (v_move (t := .int _ _) rfl) ?_
      refine l_v (v_move (t := .slice _ _ _) rfl) ?_
      refine l_v (v_len (et := 3) (by kernel_rfl) rfl) ?_
      refine l_v (v_geq rfl rfl) ?_
      refine l_v (v_move (t := .bool _) rfl) ?_
      refine l_g1 rfl rfl (fun hG => v_move (t := .slice _ _ _) rfl) ?_
      refine l_g1 rfl rfl (fun hG => v_move (t := .int _ _) rfl) ?_
      refine l_g1 rfl rfl (fun hG => v_indexAddr (et := 3) (sz := 1) (k := n) (by kernel_rfl) (by kernel_rfl) (gd hG rfl) (gd hG rfl) (by first | rfl | omega) (by omega)) ?_
      refine l_g1 rfl rfl (fun hG => v_load (by kernel_rfl) (gd hG rfl) (by first | exact pv_1 HP2 | exact pv_1 HP1 | exact HB2.cell rfl | assumption)) ?_
      refine l_g1 rfl rfl (fun hG => v_move (t := .int _ _) rfl) ?_
      refine l_g1 rfl rfl (fun hG => v_neq (gd hG rfl) (gd hG rfl)) ?_
      refine l_v (v_or rfl rfl) ?_
      refine l_nil ?_
      refine n_then ?_
      refine c_cond rfl rfl (fun hno => ?_) (fun hno => ?_)
      · skip
        simp at hno; omega
      · skip
        refine c_skip ?_
        refine n_then ?_
        refine wp_reg (by decide +kernel) ?_
        refine l_v (v_move (t := .int _ _) rfl) ?_
        refine l_v (v_add rfl rfl (by first | exact wr_i64 (by omega) (by omega) | rfl)) ?_
        refine l_v (v_assign (t := .int _ _) rfl) ?_
        refine l_nil ?_
        refine n_blk ?_
        refine n_then ?_
        refine wp_reg (by decide +kernel) ?_
        refine l_v (v_move (t := .int _ _) rfl) ?_
        refine l_v (v_add rfl rfl (by first | exact wr_i64 (by omega) (by omega) | rfl)) ?_
        refine l_v (v_assign (t := .int _ _) rfl) ?_
        refine l_nil ?_
        refine n_then ?_
        refine ⟨(i + 1, n + 1), _, rfl, by (repeat (first | exact Off.of_over _ _ _ | refine Off.upd ?_ (by decide) _ | refine Off.overs ?_ (by decide) _)), ⟨by first | rfl | exact congrArg (Value.int _) (by omega) | (simp; done), by first | rfl | exact congrArg (Value.int _) (by omega) | (simp; done), trivial⟩, ⟨E, EL1, ?_⟩, ?_⟩
        · skip
          refine ⟨by omega, ?_⟩
          rw [List.take_add_one, hx]
          show n + 1 = (toL node (ms.take i ++ [r]) 0).length
          rw [htk, if_pos hto2, List.length_append, h2]; rfl
        · (dsimp only; omega)
  · skip
    have hlt := dfalse hlt
    refine c_exit ?_
    refine x_then ?_
    refine x_then ?_
    refine x_hit ?_
    refine n_then ?_
    refine c_seq ?_
    refine wp_reg (by decide +kernel) ?_
    refine l_v (v_move (t := .int _ _) rfl) ?_
    refine l_v (v_move (t := .slice _ _ _) rfl) ?_
    refine l_v (v_len (et := 3) (by kernel_rfl) rfl) ?_
    refine l_v (v_eql rfl rfl) ?_
    refine l_v (v_assign (t := .bool _) rfl) ?_
    refine l_nil ?_
    refine n_then ?_
    refine c_ret ?_
    refine ret1v rfl (by decide) (show _ = (Value.bool _) from rfl) ?_
    refine ⟨?_, E⟩
    rw [List.take_of_length_le (by omega)] at h2
    rw [h2]; simp
end Go.Proofs.Ytaidpdjlchnonaa
