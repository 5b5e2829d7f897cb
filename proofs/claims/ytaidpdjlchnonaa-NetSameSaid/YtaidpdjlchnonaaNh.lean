/- A part of the proof: steps and lemmas for the walks through the given program. -/
import Derived.Test.YtaidpdjlchnonaaN15
import Derived.Test.YtaidpdjlchnonaaGn
namespace Go.Proofs.Ytaidpdjlchnonaa
open Go.Vc
set_option linter.unusedVariables false
set_option linter.unusedSimpArgs false
set_option maxRecDepth 100000

end Go.Proofs.Ytaidpdjlchnonaa

namespace Go.Proofs.Ytaidpdjlchnonaa
open Go.Vc
set_option linter.unusedVariables false
set_option linter.unusedSimpArgs false
set_option maxRecDepth 100000

set_option maxHeartbeats 4000000 in
theorem much_c {w : World} {F : Nat → Prop} {v : Value} {l : List StpV} (HS1 : SlV tStp w F v l) : CallsR Try.prog 19 #[v] w (fun o w' => (∃ b, o = .bool b ∧ (b = false → l.length ≤ 60 ∧ ∀ s ∈ l, stOk s)) ∧ Ext w w') := by
  obtain ⟨a1, c1, rfl⟩ := HS1.shape
  have hmx := HS1.len_max
  refine enter 61 Try.func19 rfl rfl (by simp) ?_
  refine c_seq ?_
  have E := Keep.refl (K := NoK) w
  replace HS1 := HS1.all
  refine wp_reg (by decide +kernel) ?_
  refine l_v (v_assign rfl) ?_
  refine l_nil ?_
  refine n_then ?_
  refine c_seq ?_
  refine wp_reg (by decide +kernel) ?_
  refine l_v (v_assign rfl) ?_
  refine l_nil ?_
  refine n_then ?_
  refine c_seq ?_
  refine c_seq ?_
  refine wp_reg (by decide +kernel) ?_
  refine l_v (v_assign rfl) ?_
  refine l_nil ?_
  refine n_then ?_
  refine c_block ?_
  refine c_loop (τ := Nat × Nat) [2, 3, 4, 5, 6, 7, 8, 9, 10, 11, 12, 13, 14, 15, 16, 17, 18, 19, 20, 21, 22, 23, 24, 25, 26, 27, 28, 29, 30, 31, 32, 33, 34, 35, 36, 37, 38, 39, 40, 41, 42, 43, 44, 45, 46, 47, 48, 49, 50, 51, 52, 53] (fun (i, n) => [(3, .int .i64 n), (4, .int .i64 i)]) (fun (i, n) W => Ext w W ∧ Keep (NoK) w W ∧ i ≤ l.length ∧ n ≤ 400010 ∧ (n ≤ 200000 → ∀ s ∈ l.take i, stOk s)) (fun (i, n) => l.length - i) (0, 0) (by exact ⟨rfl, rfl, trivial⟩) (by exact ⟨E, Keep.refl _, Nat.zero_le _, by omega, fun _ s hs => by simp at hs⟩) ?_
  rintro ⟨i, n⟩ w101 j ⟨E, EL1, h1, h2, h3⟩
  have zs_EL1 := EL1.size
  replace HS1 := HS1.ext EL1
  refine c_seq ?_
  refine c_seq ?_
  refine wp_reg (by decide +kernel) ?_
  refine l_v (v_move (t := .int _ _) rfl) ?_
  refine l_v (v_move (t := .slice _ _ _) rfl) ?_
  refine l_v (v_len (et := 43) (by kernel_rfl) rfl) ?_
  refine l_v (v_lss rfl rfl) ?_
  refine l_v (v_move (t := .bool _) rfl) ?_
  refine l_g1 rfl rfl (fun hG => v_move (t := .int _ _) rfl) ?_
  refine l_g1 rfl rfl (fun hG => v_lss (gd hG rfl) rfl) ?_
  refine l_v (v_and rfl rfl) ?_
  refine l_nil ?_
  refine n_then ?_
  refine c_cond rfl rfl (fun hlt => ?_) (fun hlt => ?_)
  · skip
    have hlt2 : i < l.length ∧ i < 61 := by simp at hlt; omega
    obtain ⟨r, hx, hdr⟩ := getE (l := l) (i := i) (by omega)
    obtain ⟨q, cs, hq, hF, _, HPq, hr⟩ := HS1.el hx
    subst hq
    obtain ⟨a7, c7, rfl, HS7, hle, _, _⟩ := tStp_cells hr
    have hmx7 := HS7.len_max
    refine c_skip ?_
    refine n_then ?_
    refine c_seq ?_
    refine c_block ?_
    refine c_seq ?_
    refine c_seq ?_
    refine wp_reg (by decide +kernel) ?_
    refine l_v (v_assign rfl) ?_
    refine l_nil ?_
    refine n_then ?_
    refine c_block ?_
    refine c_loop (τ := Nat × Nat) [3, 5, 16, 17, 18, 19, 20, 21, 22, 23, 24, 25, 26, 27, 28, 29, 30, 31, 32, 33, 34, 35, 36, 37, 38, 39, 40, 41, 42, 43, 44, 45, 46] (fun (k, n2) => [(3, .int .i64 n2), (5, .int .i64 k)]) (fun (k, n2) W => Ext w W ∧ Keep (NoK) w101 W ∧ k ≤ r.2.2.length ∧ n2 ≤ 400010 ∧ (n2 ≤ 200000 → (∀ s ∈ l.take i, stOk s) ∧ ∀ m ∈ r.2.2.take k, sizeN m ≤ 200000)) (fun (k, n2) => r.2.2.length - k) (0, n) (by exact ⟨rfl, rfl, trivial⟩) (by exact ⟨E, Keep.refl _, Nat.zero_le _, h2, fun hn => ⟨h3 hn, fun m hm => by simp at hm⟩⟩) ?_
    rintro ⟨k, n2⟩ w102 j ⟨E, EL2, g1, g2, g3⟩
    have zs_EL2 := EL2.size
    replace HS1 := HS1.ext EL2
    replace EL1 := EL1.trans (Ext.keep EL2)
    replace HPq := HPq.ext EL2
    replace HS7 := HS7.ext EL2
    refine c_seq ?_
    refine c_seq ?_
    refine wp_reg (by decide +kernel) ?_
    refine l_v (v_move (t := .int _ _) rfl) ?_
    refine l_v (v_move (t := .slice _ _ _) rfl) ?_
    refine l_v (v_move (t := .int _ _) rfl) ?_
    refine l_v (v_indexAddr (et := 43) (sz := 3) (k := i) (by kernel_rfl) (by kernel_rfl) rfl rfl (by first | rfl | omega) (by omega)) ?_
    refine l_v (v_fieldAddr (off := 2) (ft := 41) (by kernel_rfl) rfl) ?_
    refine l_v (v_load (by kernel_rfl) rfl (by first | exact HPq 2 _ rfl | assumption)) ?_
    refine l_v (v_len (et := 26) (by kernel_rfl) rfl) ?_
    refine l_v (v_lss rfl rfl) ?_
    refine l_v (v_move (t := .bool _) rfl) ?_
    refine l_g1 rfl rfl (fun hG => v_move (t := .int _ _) rfl) ?_
    refine l_g1 rfl rfl (fun hG => v_lss (gd hG rfl) rfl) ?_
    refine l_v (v_and rfl rfl) ?_
    refine l_v (v_move (t := .bool _) rfl) ?_
    refine l_g1 rfl rfl (fun hG => v_move (t := .int _ _) rfl) ?_
    refine l_g1 rfl rfl (fun hG => v_leq (gd hG rfl) rfl) ?_
    refine l_v (v_and rfl rfl) ?_
    refine l_nil ?_
    refine n_then ?_
    refine c_cond rfl rfl (fun hl2 => ?_) (fun hl2 => ?_)
    · skip
      have hl3 : k < r.2.2.length ∧ k < 601 ∧ n2 ≤ 200000 := by simp at hl2; omega
      obtain ⟨m, hxm, _⟩ := getE (l := r.2.2) (i := k) (by omega)
      obtain ⟨q2, cs2, hq2, hF2, _, HP2, hr2⟩ := HS7.el hxm
      subst hq2
      have HG5 : AgV tMs _ _ _ m := ⟨cs2, rfl, hr2⟩
      obtain ⟨b1, d1, b2, d2, rfl, _, _, _⟩ := tMs_cells hr2
      obtain ⟨hm1, hm2⟩ := hle m (List.mem_of_getElem? hxm)
      refine c_skip ?_
      refine n_then ?_
      refine c_seq ?_
      refine c_block ?_
      refine wp_reg (by decide +kernel) ?_
      refine l_v (v_move (t := .int _ _) rfl) ?_
      refine l_v (v_add rfl rfl (by first | exact wr_i64 (by omega) (by omega) | rfl)) ?_
      refine l_v (v_move (t := .slice _ _ _) rfl) ?_
      refine l_v (v_move (t := .int _ _) rfl) ?_
      refine l_v (v_indexAddr (et := 43) (sz := 3) (k := i) (by kernel_rfl) (by kernel_rfl) rfl rfl (by first | rfl | omega) (by omega)) ?_
      refine l_v (v_fieldAddr (off := 2) (ft := 41) (by kernel_rfl) rfl) ?_
      refine l_v (v_load (by kernel_rfl) rfl (by first | exact HP2 2 _ rfl | exact HPq 2 _ rfl | assumption)) ?_
      refine l_v (v_move (t := .int _ _) rfl) ?_
      refine l_v (v_indexAddr (et := 26) (sz := 11) (k := k) (by kernel_rfl) (by kernel_rfl) rfl rfl (by first | rfl | omega) (by omega)) ?_
      refine l_v (v_loadA (by kernel_rfl) rfl (by first | exact HP2 | exact HPq | assumption) rfl) ?_
      refine l_to (to_f1 (by kernel_rfl) (show _ = (Value.agg _) from rfl) (CallsR.mono (Size_c HG5 hm1 hm2) ?_))
      rintro _ w103 ⟨rfl, e103⟩
      have zs_e103 := e103.size
      replace E := E.trans (Ext.keep e103)
      replace HS1 := HS1.ext e103
      replace EL1 := EL1.trans (Ext.keep e103)
      replace HPq := HPq.ext e103
      replace HS7 := HS7.ext e103
      replace EL2 := EL2.trans (Ext.keep e103)
      replace HP2 := HP2.ext e103
      replace HG5 := HG5.ext e103
      refine l_v (vmin rfl rfl) ?_
      refine l_v (v_add rfl rfl (by first | exact wr_i64 (by omega) (by omega) | rfl)) ?_
      refine l_v (v_assign (t := .int _ _) rfl) ?_
      refine l_nil ?_
      refine n_blk ?_
      refine n_then ?_
      refine wp_reg (by decide +kernel) ?_
      refine l_v (v_move (t := .int _ _) rfl) ?_
      refine l_v (v_add rfl rfl (by first | exact wr_i64 (by omega) (by omega) | rfl)) ?_
      refine l_v (v_assign (t := .int _ _) rfl) ?_
      refine l_nil ?_
      refine n_then ?_
      refine ⟨(k + 1, n2 + 1 + min (sizeN m) 200001), _, rfl, by (repeat (first | exact Off.of_over _ _ _ | refine Off.upd ?_ (by decide) _ | refine Off.overs ?_ (by decide) _)), ⟨by first | rfl | exact congrArg (Value.int _) (by omega) | (simp; done), by first | rfl | exact congrArg (Value.int _) (by omega) | (simp; done), trivial⟩, ⟨E, EL2, ?_⟩, ?_⟩
      · skip
        refine ⟨by omega, by omega, fun hn => ?_⟩
        obtain ⟨ha, hb⟩ := g3 (by omega)
        refine ⟨ha, fun x hx2 => ?_⟩
        rw [List.take_add_one, hxm] at hx2
        rcases List.mem_append.1 hx2 with h | h
        · exact hb x h
        · simp at h; subst h; omega
      · (dsimp only; omega)
    · skip
      refine c_exit ?_
      refine x_then ?_
      refine x_then ?_
      refine x_hit ?_
      refine n_then ?_
      refine c_seq ?_
      refine wp_reg (by decide +kernel) ?_
      refine l_v (v_move (t := .slice _ _ _) rfl) ?_
      refine l_v (v_move (t := .int _ _) rfl) ?_
      refine l_v (v_indexAddr (et := 43) (sz := 3) (k := i) (by kernel_rfl) (by kernel_rfl) rfl rfl (by first | rfl | omega) (by omega)) ?_
      refine l_v (v_fieldAddr (off := 2) (ft := 41) (by kernel_rfl) rfl) ?_
      refine l_v (v_load (by kernel_rfl) rfl (by first | exact HPq 2 _ rfl | assumption)) ?_
      refine l_v (v_len (et := 26) (by kernel_rfl) rfl) ?_
      refine l_v (v_gtr rfl rfl) ?_
      refine l_nil ?_
      refine n_then ?_
      refine c_cond rfl rfl (fun h600 => ?_) (fun h600 => ?_)
      · skip
        refine c_seq ?_
        refine wp_reg (by decide +kernel) ?_
        refine l_v (v_assign rfl) ?_
        refine l_nil ?_
        refine n_then ?_
        refine c_ret ?_
        refine r_blk ?_
        refine r_then ?_
        refine r_then ?_
        refine r_blk ?_
        refine r_then ?_
        refine ret1v rfl (by decide) (show _ = (Value.bool _) from rfl) ?_
        exact ⟨⟨true, rfl, fun h => by cases h⟩, E⟩
      · skip
        refine c_skip ?_
        refine n_blk ?_
        refine n_then ?_
        refine wp_reg (by decide +kernel) ?_
        refine l_v (v_move (t := .int _ _) rfl) ?_
        refine l_v (v_add rfl rfl (by first | exact wr_i64 (by omega) (by omega) | rfl)) ?_
        refine l_v (v_assign (t := .int _ _) rfl) ?_
        refine l_nil ?_
        refine n_then ?_
        refine ⟨(i + 1, n2), _, rfl, by (repeat (first | exact Off.of_over _ _ _ | refine Off.upd ?_ (by decide) _ | refine Off.overs ?_ (by decide) _)), ⟨by first | rfl | exact congrArg (Value.int _) (by omega) | (simp; done), by first | rfl | exact congrArg (Value.int _) (by omega) | (simp; done), trivial⟩, ⟨E, EL1, ?_⟩, ?_⟩
        · skip
          refine ⟨by omega, g2, fun hn => ?_⟩
          obtain ⟨ha, hb⟩ := g3 hn
          have hl4 : r.2.2.length ≤ 600 := by have := dfalse h600; omega
          have hk : r.2.2.length ≤ k := by simp at hl2; omega
          intro s hs
          rw [List.take_add_one, hx] at hs
          rcases List.mem_append.1 hs with h | h
          · exact ha s h
          · simp at h; subst h; exact ⟨hl4, fun m hm => hb m (by rw [List.take_of_length_le hk]; exact hm)⟩
        · (dsimp only; omega)
  · skip
    refine c_exit ?_
    refine x_then ?_
    refine x_then ?_
    refine x_hit ?_
    refine n_then ?_
    refine c_seq ?_
    refine wp_reg (by decide +kernel) ?_
    refine l_v (v_move (t := .int _ _) rfl) ?_
    refine l_v (v_gtr rfl rfl) ?_
    refine l_v (v_move (t := .bool _) rfl) ?_
    refine l_g1 rfl rfl (fun hG => v_move (t := .slice _ _ _) rfl) ?_
    refine l_g1 rfl rfl (fun hG => v_len (et := 43) (by kernel_rfl) (gd hG rfl)) ?_
    refine l_g1 rfl rfl (fun hG => v_gtr (gd hG rfl) rfl) ?_
    refine l_v (v_or rfl rfl) ?_
    refine l_v (v_assign (t := .bool _) rfl) ?_
    refine l_nil ?_
    refine n_then ?_
    refine c_ret ?_
    refine ret1v rfl (by decide) (show _ = (Value.bool _) from rfl) ?_
    refine ⟨⟨_, rfl, fun hb => ?_⟩, E⟩
    have hb2 : n ≤ 200000 ∧ l.length ≤ 60 := by simp at hb; omega
    refine ⟨hb2.2, ?_⟩
    have hi : l.length ≤ i := by simp at hlt; omega
    have := h3 hb2.1
    rw [List.take_of_length_le hi] at this; exact this
end Go.Proofs.Ytaidpdjlchnonaa
