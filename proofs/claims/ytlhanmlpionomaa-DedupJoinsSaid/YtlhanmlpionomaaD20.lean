/- A part of the proof: steps and lemmas for the walks through the given program. -/
import Derived.Test.YtlhanmlpionomaaDf
import Derived.Test.YtlhanmlpionomaaDSt
namespace Go.Proofs.Ytlhanmlpionomaa
open Go.Vc
set_option linter.unusedVariables false
set_option linter.unusedSimpArgs false
set_option maxRecDepth 100000

theorem much_take {l : List DsV} {i : Nat} {x : DsV} (h : ((l.take i).any fun x => muchA 9000 x.2.2.1) = false) (hx : l[i]? = some x) : ((l.take (i + 1)).any fun x => muchA 9000 x.2.2.1) = muchA 9000 x.2.2.1 := by
  rw [List.take_add_one, hx, List.any_append, h]; simp
theorem much_yes {l : List DsV} {i : Nat} {x : DsV} (hi : i < 61) (hx : l[i]? = some x) (h : muchA 9000 x.2.2.1 = true) : muchS l = true := by
  unfold muchS
  have : ((l.take 61).any fun x => muchA 9000 x.2.2.1) = true := by
    rw [List.any_eq_true]
    refine ⟨x, List.mem_of_getElem? (i := i) ?_, h⟩
    rw [List.getElem?_take, if_pos hi]; exact hx
  rw [this]; rfl
theorem much_c {w : World} {F : Nat → Prop} {v : Value} {l : List DsV} (HS1 : SlV tDs w F v l) : CallsR Try.prog 10 #[v] w (fun o w' => o = .bool (muchS l) ∧ Ext w w') := by
  obtain ⟨a0, c0, rfl⟩ := HS1.shape
  have hmx := HS1.len_max
  refine enter 23 Try.func10 rfl rfl (by simp) ?_
  refine c_seq ?_
  have E := Keep.refl (K := NoK) w
  replace HS1 := HS1.all
  refine wp_reg (by decide +kernel) ?_
  refine l_v (v_assign rfl) ?_
  refine l_nil ?_
  refine n_then ?_
  refine c_seq ?_
  refine c_seq ?_
  refine wp_reg (by decide +kernel) ?_
  refine l_v (v_assign rfl) ?_
  refine l_nil ?_
  refine n_then ?_
  refine c_block ?_
  refine c_loop (τ := Nat) [2, 3, 4, 5, 6, 7, 8, 9, 10, 11, 12, 13, 14, 15, 16, 17, 18, 19] (fun i => [(3, .int .i64 i)]) (fun i W => Ext w W ∧ Keep (NoK) w W ∧ i ≤ 61 ∧ i ≤ l.length ∧ ((l.take i).any fun x => muchA 9000 x.2.2.1) = false) (fun i => 61 - i) 0 (by exact ⟨rfl, trivial⟩) (by exact ⟨E, Keep.refl _, Nat.zero_le _, Nat.zero_le _, rfl⟩) ?_
  rintro i w101 j ⟨E, EL1, h1, h2, h3⟩
  have zs_EL1 := EL1.size
  replace HS1 := HS1.ext EL1
  refine c_seq ?_
  refine c_seq ?_
  refine wp_reg (by decide +kernel) ?_
  refine l_v (v_move (t := .int _ _) rfl) ?_
  refine l_v (v_move (t := .slice _ _ _) rfl) ?_
  refine l_v (v_len (et := 58) (by kernel_rfl) rfl) ?_
  refine l_v (v_lss rfl rfl) ?_
  refine l_v (v_move (t := .bool _) rfl) ?_
  refine l_g1 rfl rfl (fun hG => v_move (t := .int _ _) rfl) ?_
  refine l_g1 rfl rfl (fun hG => v_lss (gd hG rfl) rfl) ?_
  refine l_v (v_and rfl rfl) ?_
  refine l_nil ?_
  refine n_then ?_
  refine c_cond rfl rfl (fun hlt => ?_) (fun hlt => ?_)
  · skip
    have hlt : i < l.length ∧ i < 61 := by simp at hlt; omega
    obtain ⟨x, hx, hdr⟩ := getE (l := l) (i := i) (by omega)
    obtain ⟨q, cs, hq, hF, _, HPq, hr⟩ := HS1.el hx
    cases hq
    obtain ⟨a1, c1, a2, c2, rfl, HS3, HS4, g1, g2, g3⟩ := tDs_cells hr
    have HG3 := AgV.mkAn' HS3 HS4 g1
    refine c_skip ?_
    refine n_then ?_
    refine c_seq ?_
    refine c_block ?_
    refine c_seq ?_
    refine wp_reg (by decide +kernel) ?_
    refine l_v (v_move (t := .slice _ _ _) rfl) ?_
    refine l_v (v_move (t := .int _ _) rfl) ?_
    refine l_v (v_indexAddr (et := 58) (sz := 6) (k := i) (by kernel_rfl) (by kernel_rfl) rfl rfl (by first | rfl | omega) (by omega)) ?_
    refine l_v (v_fieldAddr (off := 2) (ft := 33) (by kernel_rfl) rfl) ?_
    refine l_v (v_loadA (by kernel_rfl) rfl (by first | exact (show Pv _ _ [_, _, _] from pv_sub 2 3 HPq) | exact pv_at 2 HPq | exact HPq | assumption) rfl) ?_
    refine l_to (to_f2 (by kernel_rfl) (show _ = (Value.agg _) from rfl) (show _ = (Value.int _ _) from rfl) (CallsR.mono (Much_c HG3 (by decide)) ?_))
    rintro _ w102 ⟨rfl, e102⟩
    have zs_e102 := e102.size
    replace E := E.trans (Ext.keep e102)
    replace HS1 := HS1.ext e102
    replace EL1 := EL1.trans (Ext.keep e102)
    replace HPq := HPq.ext e102
    replace HG3 := HG3.ext e102
    refine l_nil ?_
    refine n_then ?_
    refine c_cond rfl rfl (fun hm => ?_) (fun hm => ?_)
    · skip
      refine c_seq ?_
      refine wp_reg (by decide +kernel) ?_
      refine l_v (v_assign rfl) ?_
      refine l_nil ?_
      refine n_then ?_
      refine c_ret ?_
      refine r_blk ?_
      refine r_then ?_
      refine r_then ?_
      refine r_blk ?_
      refine r_then ?_
      refine ret1v rfl (by decide) (show _ = (Value.bool _) from rfl) ?_
      rw [much_yes hlt.2 hx hm]
      exact ⟨rfl, E⟩
    · skip
      refine c_skip ?_
      refine n_blk ?_
      refine n_then ?_
      refine wp_reg (by decide +kernel) ?_
      refine l_v (v_move (t := .int _ _) rfl) ?_
      refine l_v (v_add rfl rfl (by first | exact wr_i64 (by omega) (by omega) | rfl)) ?_
      refine l_v (v_assign (t := .int _ _) rfl) ?_
      refine l_nil ?_
      refine n_then ?_
      refine ⟨i + 1, _, rfl, by (repeat (first | exact Off.of_over _ _ _ | refine Off.upd ?_ (by decide) _ | refine Off.overs ?_ (by decide) _)), ⟨by first | rfl | exact congrArg (Value.int _) (by omega) | (simp; done), trivial⟩, ⟨E, EL1, ?_⟩, ?_⟩
      · skip
        refine ⟨by omega, by omega, ?_⟩
        rw [much_take h3 hx]
        simpa using hm
      · (dsimp only; omega)
  · skip
    refine c_exit ?_
    refine x_then ?_
    refine x_then ?_
    refine x_hit ?_
    refine n_then ?_
    refine c_seq ?_
    refine wp_reg (by decide +kernel) ?_
    refine l_v (v_move (t := .slice _ _ _) rfl) ?_
    refine l_v (v_len (et := 58) (by kernel_rfl) rfl) ?_
    refine l_v (v_gtr rfl rfl) ?_
    refine l_v (v_assign (t := .bool _) rfl) ?_
    refine l_nil ?_
    refine n_then ?_
    refine c_ret ?_
    refine ret1v rfl (by decide) (show _ = (Value.bool _) from rfl) ?_
    have hlt : ¬ (i < l.length ∧ i < 61) := by simp at hlt; omega
    refine ⟨?_, E⟩
    unfold muchS
    by_cases hl : l.length ≤ 60
    · have hi : i = l.length := by omega
      rw [List.take_of_length_le (by omega)]
      rw [hi, List.take_length] at h3
      rw [h3, Bool.false_or]
      congr 1
      rw [decide_eq_decide]
      omega
    · simp only [show 60 < l.length by omega, decide_true, Bool.or_true]
      simp; omega
end Go.Proofs.Ytlhanmlpionomaa
