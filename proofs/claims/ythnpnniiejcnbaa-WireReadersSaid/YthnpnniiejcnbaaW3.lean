/- A part of the proof: steps and lemmas for the walks through the given program. -/
import Derived.Test.YthnpnniiejcnbaaW2
namespace Go.Proofs.Ythnpnniiejcnbaa
open Go.Vc
set_option linter.unusedVariables false
set_option maxRecDepth 100000

theorem Flag_c {w : World} {is : Bool} : CallsR Try.prog 25 #[.bool is] w (fun r w' => OwV tU8 nU8 w' w.heap.size NoK r (wFlag is) ∧ (∃ q c, r = .slice (some q) (wFlag is).length c) ∧ Ext w w') := by
  refine enter 12 Try.func25 rfl rfl (by simp) ?_
  refine c_seq ?_
  refine wp_reg (by decide +kernel) ?_
  refine l_v (v_assign rfl) ?_
  refine l_nil ?_
  refine n_then ?_
  refine c_seq ?_
  refine wp_reg (by decide +kernel) ?_
  refine l_to (to_make (et := 5) (bytes := 1) (by kernel_rfl) (t := tU8) (z := 0) (n := 1) (m := 1) (zv := .int .u8 0) rfl rfl (.inl rfl) (by omega) (by simp only [maxLen]; omega) (by unfold kZero; kernel_rfl) rfl rfl (fun _ _ => rfl) ?_)
  rintro b1 c1 w1 rfl o1 e1 z1
  have zs_e1 := e1.size
  refine l_v (v_assign (t := .slice _ _ _) rfl) ?_
  refine l_nil ?_
  refine n_then ?_
  refine c_seq ?_
  refine c_seq ?_
  refine wp_reg (by decide +kernel) ?_
  refine l_v (v_move (t := .bool _) rfl) ?_
  refine l_nil ?_
  refine n_then ?_
  refine c_cond rfl rfl (fun hc => ?_) (fun hc => ?_)
  · skip
    refine wp_reg (by decide +kernel) ?_
    refine l_v (v_move (t := .slice _ _ _) rfl) ?_
    refine l_v (v_indexAddr (et := 5) (sz := 1) (k := 0) (by kernel_rfl) (by kernel_rfl) rfl rfl rfl (by omega)) ?_
    refine l_v (v_load (by kernel_rfl) rfl (o1.cell1 (k := 0) (xx := 0) rfl)) ?_
    refine l_v (v_add (t := 1) rfl rfl (by decide)) ?_
    refine l_v (v_indexAddr (et := 5) (sz := 1) (k := 0) (by kernel_rfl) (by kernel_rfl) rfl rfl rfl (by omega)) ?_
    refine l_to (to_storeO (k := 0) (off := 0) rfl (by simp [add_lit]) (by decide) (show _ = (Value.int _ _) from rfl) rfl (by kernel_rfl) o1 (x0 := 0) (x1 := 1) rfl (fun cs h => by cases h; exact (rfl : [Value.int .u8 1] = [Value.int .u8 1])) ?_)
    rintro w2 o2 k2 z2
    have zs_k2 := k2.size
    refine l_nil ?_
    refine n_then ?_
    refine c_seq ?_
    refine wp_reg (by decide +kernel) ?_
    refine l_v (v_move (t := .slice _ _ _) rfl) ?_
    refine l_v (v_assign (t := .slice _ _ _) rfl) ?_
    refine l_nil ?_
    refine n_then ?_
    refine wp_ret ?_
    refine ret1 rfl (by decide) ?_
    refine ⟨?_, ⟨_, _, rfl⟩, e1.step k2 (fun b hb h => by omega)⟩
    subst hc; exact o2
  · skip
    refine wp_skip ?_
    refine n_then ?_
    refine c_seq ?_
    refine wp_reg (by decide +kernel) ?_
    refine l_v (v_move (t := .slice _ _ _) rfl) ?_
    refine l_v (v_assign (t := .slice _ _ _) rfl) ?_
    refine l_nil ?_
    refine n_then ?_
    refine wp_ret ?_
    refine ret1 rfl (by decide) ?_
    refine ⟨?_, ⟨_, _, rfl⟩, e1⟩
    subst hc; exact o1

theorem sum_take {ls : List (List UInt8)} {k : Nat} {x : List UInt8} (h : ls[k]? = some x) : (ls.take (k + 1)).flatten = (ls.take k).flatten ++ x := by
  rw [List.take_add_one, h]; simp
theorem len_take_le (ls : List (List UInt8)) (k : Nat) : (ls.take k).flatten.length ≤ ls.flatten.length := by
  have : ls.flatten = (ls.take k).flatten ++ (ls.drop k).flatten := by rw [← List.flatten_append, List.take_append_drop]
  rw [this, List.length_append]; omega

theorem Join_c {w : World} {v : Value} {F : Nat → Prop} {ls : List (List UInt8)} (hv : SlV (tSl tU8) w F v ls) (hl : ls.flatten.length ≤ 140737488355300) : CallsR Try.prog 21 #[v] w (fun r w' => OwV tU8 nU8 w' w.heap.size NoK r ls.flatten ∧ (∃ q c, r = .slice (some q) ls.flatten.length c) ∧ Ext w w') := by
  obtain ⟨a, c, rfl⟩ := hv.shape
  have hmx := hv.max
  simp only [maxLen] at hmx
  obtain ⟨w0, rfl⟩ : ∃ x, x = w := ⟨w, rfl⟩
  refine enter 33 Try.func21 rfl rfl (by simp) ?_
  refine c_seq ?_
  refine wp_reg (by decide +kernel) ?_
  refine l_v (v_assign rfl) ?_
  refine l_nil ?_
  refine n_then ?_
  refine c_seq ?_
  refine wp_reg (by decide +kernel) ?_
  refine l_v (v_assign rfl) ?_
  refine l_nil ?_
  refine n_then ?_
  refine c_seq ?_
  refine c_seq ?_
  refine wp_reg (by decide +kernel) ?_
  refine l_v (v_move (t := .slice _ _ _) rfl) ?_
  refine l_v (v_len (et := 22) (by kernel_rfl) rfl) ?_
  refine l_v (v_move rfl) ?_
  refine l_nil ?_
  refine n_then ?_
  refine wp_block ?_
  refine c_loop (τ := Nat) [3, 5, 11, 12, 13, 14, 15, 16, 17, 18, 19] (fun k => [(3, .int .i64 (ls.take k).flatten.length), (11, .int .i64 k)]) (fun k w => w = w0 ∧ k ≤ ls.length) (fun k => ls.length - k) 0 (by exact ⟨rfl, rfl, trivial⟩) (by exact ⟨rfl, Nat.zero_le _⟩) ?_
  rintro k w1 j ⟨rfl, h1⟩
  refine c_seq ?_
  refine wp_reg (by decide +kernel) ?_
  refine l_v (v_lss rfl rfl) ?_
  refine l_nil ?_
  refine n_then ?_
  refine c_seq ?_
  refine c_cond rfl rfl (fun hc => ?_) (fun hc => ?_)
  · skip
    have hc := dtrue hc
    obtain ⟨x, hx⟩ : ∃ x, ls[k]? = some x := ⟨ls[k]'(by omega), by simp [show k < ls.length by omega]⟩
    have hs := sum_take hx
    have hs2 := len_take_le ls (k + 1)
    have hs3 := congrArg List.length hs
    rw [List.length_append] at hs3
    refine wp_skip ?_
    refine n_then ?_
    refine c_seq ?_
    refine wp_block ?_
    refine c_seq ?_
    refine wp_reg (by decide +kernel) ?_
    refine l_to (to_index (et := 22) (by kernel_rfl) (by kernel_rfl) (show _ = (Value.slice _ _ _) from rfl) hv (show _ = (Value.int _ _) from rfl) rfl hx ?_)
    rintro q cs hF hp ⟨v1, rfl, hv1⟩
    obtain ⟨a1, c1, rfl⟩ := hv1.shape
    refine l_v (v_load (by kernel_rfl) rfl (pv_1 hp)) ?_
    refine l_v (v_assign (t := .slice _ _ _) rfl) ?_
    refine l_nil ?_
    refine n_then ?_
    refine wp_reg (by decide +kernel) ?_
    refine l_v (v_move (t := .int _ _) rfl) ?_
    refine l_v (v_move (t := .slice _ _ _) rfl) ?_
    refine l_v (v_len (et := 5) (by kernel_rfl) rfl) ?_
    refine l_v (v_add rfl rfl (by first | exact wr_i64 (by omega) (by omega) | rfl)) ?_
    refine l_v (v_assign (t := .int _ _) rfl) ?_
    refine l_nil ?_
    refine n_blk ?_
    refine n_then ?_
    refine wp_reg (by decide +kernel) ?_
    refine l_v (v_add rfl rfl (by first | exact wr_i64 (by omega) (by omega) | rfl)) ?_
    refine l_v (v_move (t := .int _ _) rfl) ?_
    refine l_nil ?_
    refine n_then ?_
    refine ⟨k + 1, _, rfl, by (repeat (first | exact Off.of_over _ _ _ | refine Off.upd ?_ (by decide) _)), ⟨by first | rfl | exact congrArg (Value.int _) (by omega) | (simp; done), by first | rfl | exact congrArg (Value.int _) (by omega) | (simp; done), trivial⟩, ?_, ?_⟩
    · exact ⟨rfl, by omega⟩
    · dsimp only; omega
  · skip
    have hc := dfalse hc
    obtain rfl : k = ls.length := by omega
    have hfl : (ls.take ls.length).flatten = ls.flatten := by rw [List.take_length]
    refine wp_exit ?_
    refine x_then ?_
    refine x_then ?_
    refine x_hit ?_
    refine n_then ?_
    refine c_seq ?_
    refine wp_reg (by decide +kernel) ?_
    refine l_v (v_move (t := .int _ _) rfl) ?_
    refine l_to (to_make (et := 5) (bytes := 1) (by kernel_rfl) (t := tU8) (z := 0) (n := 0) (m := (ls.take ls.length).flatten.length) (zv := .int .u8 0) rfl rfl (.inr rfl) (by rw [hfl]; omega) (by rw [hfl]; simp only [maxLen]; omega) (by unfold kZero; kernel_rfl) rfl rfl (fun _ _ => rfl) ?_)
    rintro b1 c1 w2 rfl o1 e1 z1
    have zs_e1 := e1.size
    refine l_v (v_assign (t := .slice _ _ _) rfl) ?_
    refine l_nil ?_
    refine n_then ?_
    refine c_seq ?_
    refine c_seq ?_
    refine wp_reg (by decide +kernel) ?_
    refine l_v (v_move (t := .slice _ _ _) rfl) ?_
    refine l_v (v_len (et := 22) (by kernel_rfl) rfl) ?_
    refine l_v (v_move rfl) ?_
    refine l_nil ?_
    refine n_then ?_
    refine wp_block ?_
    refine c_loop (τ := Addr × Nat × Nat) [6, 8, 24, 25, 26, 27, 28, 29, 30, 31] (fun (a2, c2, k) => [(6, .slice (some a2) (ls.take k).flatten.length c2), (24, .int .i64 k)]) (fun (a2, c2, k) w => OwV tU8 nU8 w w1.heap.size NoK (.slice (some a2) (ls.take k).flatten.length c2) (ls.take k).flatten ∧ Ext w1 w ∧ k ≤ ls.length) (fun (a2, c2, k) => ls.length - k) (⟨w1.heap.size, 0, none⟩, c1, 0) (by exact ⟨rfl, rfl, trivial⟩) (by exact ⟨o1, e1, Nat.zero_le _⟩) ?_
    rintro ⟨a2, c2, k⟩ w3 j2 ⟨o2, e2, h2⟩
    refine c_seq ?_
    refine wp_reg (by decide +kernel) ?_
    refine l_v (v_lss rfl rfl) ?_
    refine l_nil ?_
    refine n_then ?_
    refine c_seq ?_
    refine c_cond rfl rfl (fun hc2 => ?_) (fun hc2 => ?_)
    · skip
      have hc2 := dtrue hc2
      have hz2 := e2.size
      obtain ⟨x, hx⟩ : ∃ x, ls[k]? = some x := ⟨ls[k]'(by omega), by simp [show k < ls.length by omega]⟩
      have hs := sum_take hx
      have hs2 := len_take_le ls (k + 1)
      have hs3 := congrArg List.length hs
      rw [List.length_append] at hs3
      refine wp_skip ?_
      refine n_then ?_
      refine c_seq ?_
      refine wp_block ?_
      refine c_seq ?_
      refine wp_reg (by decide +kernel) ?_
      refine l_to (to_index (et := 22) (by kernel_rfl) (by kernel_rfl) (show _ = (Value.slice _ _ _) from rfl) (hv.ext e2) (show _ = (Value.int _ _) from rfl) rfl hx ?_)
      rintro q cs hF hp ⟨v1, rfl, hv1⟩
      obtain ⟨a1, c1, rfl⟩ := hv1.shape
      refine l_v (v_load (by kernel_rfl) rfl (pv_1 hp)) ?_
      refine l_v (v_assign (t := .slice _ _ _) rfl) ?_
      refine l_nil ?_
      refine n_then ?_
      refine wp_reg (by decide +kernel) ?_
      refine l_v (v_move (t := .slice _ _ _) rfl) ?_
      refine l_v (v_move (t := .slice _ _ _) rfl) ?_
      refine l_to (to_append (et := 5) (bytes := 1) (by kernel_rfl) (show _ = (Value.slice _ _ _) from rfl) o2 (show _ = (Value.slice _ _ _) from rfl) hv1 (flat_u8.to) (by first | omega | (simp; done) | (simp; omega)) (by simp only [maxLen]; first | omega | (simp; done) | (simp; omega)) (by omega) ?_)
      rintro a3 n3 c3 w4 o3 hn3 k3 b3 i3
      have zs_k3 := k3.size
      subst hn3
      have e3 : Ext w1 w4 := e2.step k3 fun b hb h => by have := (o2.own_lt h).1; omega
      rw [← hs] at o3 ⊢
      obtain ⟨q3, rfl⟩ : ∃ q, a3 = some q := by
        cases a3 with
        | some q => exact ⟨q, rfl⟩
        | none => exact absurd (i3.1 rfl).1 (by simp)
      refine l_v (v_assign (t := .slice _ _ _) rfl) ?_
      refine l_nil ?_
      refine n_blk ?_
      refine n_then ?_
      refine wp_reg (by decide +kernel) ?_
      refine l_v (v_add rfl rfl (by first | exact wr_i64 (by omega) (by omega) | rfl)) ?_
      refine l_v (v_move (t := .int _ _) rfl) ?_
      refine l_nil ?_
      refine n_then ?_
      refine ⟨(q3, c3, k + 1), _, rfl, by (repeat (first | exact Off.of_over _ _ _ | refine Off.upd ?_ (by decide) _)), ⟨by first | rfl | exact congrArg (Value.int _) (by omega) | (simp; done), by first | rfl | exact congrArg (Value.int _) (by omega) | (simp; done), trivial⟩, ?_, ?_⟩
      · exact ⟨o3, e3, by omega⟩
      · dsimp only; omega
    · skip
      have hc2 := dfalse hc2
      obtain rfl : k = ls.length := by omega
      refine wp_exit ?_
      refine x_then ?_
      refine x_then ?_
      refine x_hit ?_
      refine n_then ?_
      refine c_seq ?_
      refine wp_reg (by decide +kernel) ?_
      refine l_v (v_move (t := .slice _ _ _) rfl) ?_
      refine l_v (v_assign (t := .slice _ _ _) rfl) ?_
      refine l_nil ?_
      refine n_then ?_
      refine wp_ret ?_
      refine ret1 rfl (by decide) ?_
      rw [hfl] at o2
      exact ⟨by show OwV _ _ _ _ _ (Value.slice (some a2) (ls.take ls.length).flatten.length c2) _; rw [hfl]; exact o2, ⟨a2, c2, by show Value.slice (some a2) (ls.take ls.length).flatten.length c2 = _; rw [hfl]⟩, e2⟩

theorem Open_c {w : World} {v : Value} {F : Nat → Prop} {l : List UInt8} (hv : Bv w F v l) (hl : l.length ≤ 140737488355300) : CallsR Try.prog 12 #[v] w (fun r w' => ∃ b, r = .pointer (some ⟨b, 0, none⟩) ∧ Rd nRd w' b (fun k => w.heap.size ≤ k ∧ k < b) l ∧ w.heap.size ≤ b ∧ Ext w w' ∧ b < w'.heap.size) := by
  obtain ⟨a, c, rfl⟩ := hv.shape
  refine enter 8 Try.func12 rfl rfl (by simp) ?_
  refine c_seq ?_
  refine wp_reg (by decide +kernel) ?_
  refine l_v (v_assign rfl) ?_
  refine l_nil ?_
  refine n_then ?_
  refine c_seq ?_
  refine wp_reg (by decide +kernel) ?_
  refine l_to (to_slice0 (t := tU8) (et := 5) (bytes := 1) (by kernel_rfl) ?_)
  rintro b1 w1 rfl o1 e1 z1
  have zs_e1 := e1.size
  refine l_v (v_move (t := .slice _ _ _) rfl) ?_
  refine l_to (to_append (et := 5) (bytes := 1) (by kernel_rfl) (show _ = (Value.slice _ _ _) from rfl) o1 (show _ = (Value.slice _ _ _) from rfl) (hv.ext e1) (flat_u8.to) (by first | omega | (simp; done) | (simp; omega)) (by simp only [maxLen]; first | omega | (simp; done) | (simp; omega)) (by omega) ?_)
  rintro a2 n2 c2 w2 o2 hn2 k2 b2 i2
  have zs_k2 := k2.size
  subst hn2
  have e2 : Ext w w2 := e1.step k2 fun b hb h => by simp [Value.ownBlock] at h; omega
  obtain ⟨q2, rfl⟩ : ∃ q, a2 = some q := by
    cases a2 with
    | some q => exact ⟨q, rfl⟩
    | none => exact absurd (i2.1 rfl).1 (by simp)
  refine l_v (v_build (pl := [(0, 1)]) (z := .agg #[.slice none 0 0]) (zl := [.slice none 0 0]) (by kernel_rfl) (by unfold kZero; kernel_rfl) rfl rfl (cells := [_]) rfl) ?_
  refine l_to (to_box (show _ = (Value.agg _) from rfl) ?_)
  rintro b3 w3 rfl hb3 e3 z3
  have zs_e3 := e3.size
  refine l_v (v_assign (t := .pointer _) rfl) ?_
  refine l_nil ?_
  refine n_then ?_
  refine wp_ret ?_
  refine ret1 rfl (by decide) ?_
  refine ⟨_, rfl, ⟨q2, c2, hb3, (o2.view.mono fun b hb h => ?_).ext e3⟩, by omega, e2.trans e3, by omega⟩
  exact ⟨h.resolve_right (fun x => x), hb⟩

theorem Left_c {w : World} {b : Nat} {F : Nat → Prop} {l : List UInt8} (hr : Rd nRd w b F l) : CallsR Try.prog 22 #[.pointer (some ⟨b, 0, none⟩)] w (fun r w' => r = .int .i64 l.length ∧ Ext w w') := by
  obtain ⟨a, c, hb, hv⟩ := hr
  refine enter 10 Try.func22 rfl rfl (by simp) ?_
  refine c_seq ?_
  refine wp_reg (by decide +kernel) ?_
  refine l_v (v_assign rfl) ?_
  refine l_nil ?_
  refine n_then ?_
  refine c_seq ?_
  refine c_seq ?_
  refine wp_reg (by decide +kernel) ?_
  refine l_v (v_move (t := .pointer _) rfl) ?_
  refine l_to (to_f1 (by kernel_rfl) (show _ = (Value.pointer _) from rfl) (CallsR.mono (closed_c hb) ?_))
  rintro _ w1 ⟨rfl, e1⟩
  have zs_e1 := e1.size
  refine l_nil ?_
  refine n_then ?_
  refine c_cond rfl rfl (fun hc => ?_) (fun hc => ?_)
  · skip
    cases hc
  · skip
    refine wp_skip ?_
    refine n_then ?_
    refine c_seq ?_
    refine wp_reg (by decide +kernel) ?_
    refine l_v (v_move (t := .pointer _) rfl) ?_
    refine l_v (v_nilCheck rfl) ?_
    refine l_v (v_fieldAddr (off := 0) (ft := 22) (by kernel_rfl) rfl) ?_
    refine l_v (v_load (by kernel_rfl) rfl ((hb.ext e1).pv 0 _ rfl)) ?_
    refine l_v (v_len (et := 5) (by kernel_rfl) rfl) ?_
    refine l_v (v_assign (t := .int _ _) rfl) ?_
    refine l_nil ?_
    refine n_then ?_
    refine wp_ret ?_
    refine ret1 rfl (by decide) ?_
    exact ⟨rfl, e1⟩

theorem End_c {w : World} {b : Nat} {F : Nat → Prop} {l : List UInt8} (hr : Rd nRd w b F l) : CallsR Try.prog 17 #[.pointer (some ⟨b, 0, none⟩)] w (fun r w' => r = .int .i64 (if l = [] then 0 else 4) ∧ Ext w w') := by
  obtain ⟨a, c, hb, hv⟩ := hr
  refine enter 11 Try.func17 rfl rfl (by simp) ?_
  refine c_seq ?_
  refine wp_reg (by decide +kernel) ?_
  refine l_v (v_assign rfl) ?_
  refine l_nil ?_
  refine n_then ?_
  refine c_seq ?_
  refine c_seq ?_
  refine wp_reg (by decide +kernel) ?_
  refine l_v (v_move (t := .pointer _) rfl) ?_
  refine l_to (to_f1 (by kernel_rfl) (show _ = (Value.pointer _) from rfl) (CallsR.mono (closed_c hb) ?_))
  rintro _ w1 ⟨rfl, e1⟩
  have zs_e1 := e1.size
  refine l_nil ?_
  refine n_then ?_
  refine c_cond rfl rfl (fun hc => ?_) (fun hc => ?_)
  · skip
    cases hc
  · skip
    refine wp_skip ?_
    refine n_then ?_
    refine c_seq ?_
    refine c_seq ?_
    refine wp_reg (by decide +kernel) ?_
    refine l_v (v_move (t := .pointer _) rfl) ?_
    refine l_v (v_nilCheck rfl) ?_
    refine l_v (v_fieldAddr (off := 0) (ft := 22) (by kernel_rfl) rfl) ?_
    refine l_v (v_load (by kernel_rfl) rfl ((hb.ext e1).pv 0 _ rfl)) ?_
    refine l_v (v_len (et := 5) (by kernel_rfl) rfl) ?_
    refine l_v (v_neq rfl rfl) ?_
    refine l_nil ?_
    refine n_then ?_
    refine c_cond rfl rfl (fun hc2 => ?_) (fun hc2 => ?_)
    · skip
      refine c_seq ?_
      refine wp_reg (by decide +kernel) ?_
      refine l_v (v_assign rfl) ?_
      refine l_nil ?_
      refine n_then ?_
      refine wp_ret ?_
      refine r_then ?_
      refine ret1 rfl (by decide) ?_
      refine ⟨?_, e1⟩
      have : ¬ l = [] := by rintro rfl; simp at hc2
      rw [if_neg this]; rfl
    · skip
      refine wp_skip ?_
      refine n_then ?_
      refine c_seq ?_
      refine wp_reg (by decide +kernel) ?_
      refine l_v (v_assign rfl) ?_
      refine l_nil ?_
      refine n_then ?_
      refine wp_ret ?_
      refine ret1 rfl (by decide) ?_
      refine ⟨?_, e1⟩
      have : l = [] := by cases l with
      | nil => rfl
      | cons x l => simp at hc2; omega
      rw [if_pos this]; rfl
end Go.Proofs.Ythnpnniiejcnbaa
