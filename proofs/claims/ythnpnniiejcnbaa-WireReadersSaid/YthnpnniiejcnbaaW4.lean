/- A part of the proof: steps and lemmas for the walks through the given program. -/
import Derived.Test.YthnpnniiejcnbaaW3
namespace Go.Proofs.Ythnpnniiejcnbaa
open Go.Vc
set_option linter.unusedVariables false
set_option maxRecDepth 100000

/-- what 'form' answers -/
def formV (l : List UInt8) : Value := match rdNum l with
  | some (n, r) => .tuple #[.int .u64 n, .int .i64 ((l.length - r.length : Nat) : Int)]
  | none => .tuple #[.int .u64 0, .int .i64 0]

theorem rdGo_drop {l : List UInt8} {i : Nat} {c : UInt8} (h : l[i]? = some c) : rdGo i (l.drop i) = if (i = 9 ∧ 1 < c.toNat) ∨ (0 < i ∧ c.toNat = 0) then none else if c.toNat < 128 then some (c.toNat, l.drop (i + 1)) else
    match rdGo (i + 1) (l.drop (i + 1)) with
    | some (n, r') => some (c.toNat % 128 + 128 * n, r')
    | none => none := by
  have hlt := (List.getElem?_eq_some_iff.1 h).1
  have e : l.drop i = c :: l.drop (i + 1) := by
    rw [List.drop_eq_getElem_cons hlt]
    congr 1
    exact (List.getElem?_eq_some_iff.1 h).2
  rw [e]; rfl

theorem form_c {w : World} {v : Value} {F : Nat → Prop} {l : List UInt8} (hv : Bv w F v l) : CallsR Try.prog 45 #[v] w (fun r w' => r = formV l ∧ Ext w w') := by
  obtain ⟨a, c, rfl⟩ := hv.shape
  have hmx := hv.max
  simp only [maxLen] at hmx
  obtain ⟨w0, rfl⟩ : ∃ x, x = w := ⟨w, rfl⟩
  refine enter 49 Try.func45 rfl rfl (by simp) ?_
  refine c_seq ?_
  refine wp_reg (by decide +kernel) ?_
  refine l_v (v_assign rfl) ?_
  refine l_v (v_assign rfl) ?_
  refine l_nil ?_
  refine n_then ?_
  refine wp_scope_straight ?_
  refine c_seq ?_
  refine wp_reg (by decide +kernel) ?_
  refine l_v (v_assign rfl) ?_
  refine l_nil ?_
  refine n_then ?_
  refine c_seq ?_
  refine wp_label ?_
  refine n_then ?_
  refine c_seq ?_
  refine c_seq ?_
  refine wp_reg (by decide +kernel) ?_
  refine l_v (v_move (t := .slice _ _ _) rfl) ?_
  refine l_v (v_len (et := 5) (by kernel_rfl) rfl) ?_
  refine l_v (v_move rfl) ?_
  refine l_nil ?_
  refine n_then ?_
  refine wp_block ?_
  refine c_loop (τ := Nat × Nat) [2, 3, 4, 5, 6, 7, 10, 11, 12, 13, 14, 15, 16, 17, 18, 19, 20, 21, 22, 23, 24, 25, 26, 27, 28, 29, 30, 31, 32, 33, 34, 35, 36, 37, 38, 39, 40, 41, 42, 43, 44, 45, 46, 47, 48] (fun (i, n) => [(2, .int .u64 n), (4, .int .u64 ((128 ^ i : Nat) : Int)), (10, .int .i64 i)]) (fun (i, n) w => w = w0 ∧ i ≤ l.length ∧ i ≤ 9 ∧ n < 128 ^ i ∧ rdNum l = (rdGo i (l.drop i)).map (fun p => (n + 128 ^ i * p.1, p.2))) (fun (i, n) => l.length - i) (0, 0) (by exact ⟨rfl, rfl, rfl, trivial⟩) (by exact ⟨rfl, Nat.zero_le _, by omega, by simp, by simp [rdNum]⟩) ?_
  rintro ⟨i, n⟩ w1 j ⟨rfl, h1, h2, h3, h4⟩
  refine c_seq ?_
  refine wp_reg (by decide +kernel) ?_
  refine l_v (v_lss rfl rfl) ?_
  refine l_nil ?_
  refine n_then ?_
  refine c_seq ?_
  refine c_cond rfl rfl (fun hc => ?_) (fun hc => ?_)
  · skip
    have hc := dtrue hc
    obtain ⟨x, hx⟩ : ∃ x, l[i]? = some x := ⟨l[i]'(by omega), by simp [show i < l.length by omega]⟩
    have hd := rdGo_drop hx
    have hp : 128 ^ i ≤ 128 ^ 9 := Nat.pow_le_pow_right (by omega) h2
    have hx8 : x.toNat < 256 := x.toNat_lt
    have hm : x.toNat % 128 * 128 ^ i + 128 ^ i ≤ 128 * 128 ^ i := by rw [← Nat.succ_mul]; exact Nat.mul_le_mul_right _ (by omega)
    refine wp_skip ?_
    refine n_then ?_
    refine c_seq ?_
    refine wp_block ?_
    refine c_seq ?_
    refine wp_reg (by decide +kernel) ?_
    refine l_v (v_move (t := .int _ _) rfl) ?_
    refine l_to (to_index (et := 5) (by kernel_rfl) (by kernel_rfl) (show _ = (Value.slice _ _ _) from rfl) hv (show _ = (Value.int _ _) from rfl) rfl hx ?_)
    rintro q cs hF hq hr
    refine l_v (v_load (by kernel_rfl) rfl (pv_u8 hq hr)) ?_
    refine l_v (v_assign (t := .int _ _) rfl) ?_
    refine l_v (v_assign (t := .int _ _) rfl) ?_
    refine l_nil ?_
    refine n_then ?_
    refine c_seq ?_
    refine wp_reg (by decide +kernel) ?_
    refine l_v (v_move (t := .int _ _) rfl) ?_
    refine l_v (v_rem rfl rfl (by decide) (by first | exact tm_nn (by omega) | rfl)) ?_
    refine l_v (v_conv (ds := .int .u8) (by kernel_rfl) (by kernel_rfl) rfl (by first | exact wr_u64 (by omega) (by omega) | rfl)) ?_
    refine l_v (v_assign (t := .int _ _) rfl) ?_
    refine l_nil ?_
    refine n_then ?_
    refine c_seq ?_
    refine wp_block ?_
    refine c_seq ?_
    refine c_seq ?_
    refine wp_reg (by decide +kernel) ?_
    refine l_v (v_move (t := .int _ _) rfl) ?_
    refine l_v (v_eql rfl rfl) ?_
    refine l_v (v_move (t := .bool _) rfl) ?_
    refine l_g1 rfl rfl (fun hG => v_move (t := .int _ _) rfl) ?_
    refine l_g1 rfl rfl (fun hG => v_gtr (gd hG rfl) rfl) ?_
    refine l_v (v_and rfl rfl) ?_
    refine l_v (v_assign (t := .bool _) rfl) ?_
    refine l_nil ?_
    refine n_then ?_
    refine c_cond rfl rfl (fun hb => ?_) (fun hb => ?_)
    · skip
      refine wp_skip ?_
      refine n_then ?_
      refine c_cond rfl rfl (fun hb2 => ?_) (fun hb2 => ?_)
      · skip
        refine wp_exit ?_
        refine x_miss (by decide) ?_
        refine x_then ?_
        refine x_miss (by decide) ?_
        refine x_then ?_
        refine x_then ?_
        refine x_hit ?_
        refine n_then ?_
        refine c_seq ?_
        refine wp_reg (by decide +kernel) ?_
        refine l_v (v_assign rfl) ?_
        refine l_v (v_assign rfl) ?_
        refine l_nil ?_
        refine n_then ?_
        refine wp_ret ?_
        refine r_scp ?_
        refine ret2 rfl (by decide) (by decide) ?_
        refine ⟨?_, Keep.refl _⟩
        simp at hb
        rw [hd, if_pos (.inl (by omega))] at h4
        show _ = formV l
        rw [formV, h4]; rfl
      · skip
        rw [hb] at hb2; cases hb2
    · skip
      refine wp_reg (by decide +kernel) ?_
      refine l_v (v_move (t := .int _ _) rfl) ?_
      refine l_v (v_gtr rfl rfl) ?_
      refine l_v (v_move (t := .bool _) rfl) ?_
      refine l_g1 rfl rfl (fun hG => v_move (t := .int _ _) rfl) ?_
      refine l_g1 rfl rfl (fun hG => v_eql (gd hG rfl) rfl) ?_
      refine l_v (v_and rfl rfl) ?_
      refine l_v (v_assign (t := .bool _) rfl) ?_
      refine l_nil ?_
      refine n_then ?_
      refine c_cond rfl rfl (fun hb2 => ?_) (fun hb2 => ?_)
      · skip
        refine wp_exit ?_
        refine x_miss (by decide) ?_
        refine x_then ?_
        refine x_miss (by decide) ?_
        refine x_then ?_
        refine x_then ?_
        refine x_hit ?_
        refine n_then ?_
        refine c_seq ?_
        refine wp_reg (by decide +kernel) ?_
        refine l_v (v_assign rfl) ?_
        refine l_v (v_assign rfl) ?_
        refine l_nil ?_
        refine n_then ?_
        refine wp_ret ?_
        refine r_scp ?_
        refine ret2 rfl (by decide) (by decide) ?_
        refine ⟨?_, Keep.refl _⟩
        simp at hb2
        rw [hd, if_pos (.inr (by omega))] at h4
        show _ = formV l
        rw [formV, h4]; rfl
      · skip
        have hb : ¬ (i = 9 ∧ 1 < x.toNat) := by simp at hb; omega
        have hb2 : ¬ (0 < i ∧ x.toNat = 0) := by simp at hb2; omega
        rw [if_neg (by omega)] at hd
        refine c_seq ?_
        refine wp_reg (by decide +kernel) ?_
        refine l_v (v_move (t := .int _ _) rfl) ?_
        refine l_v (v_lss rfl rfl) ?_
        refine l_v (v_assign (t := .bool _) rfl) ?_
        refine l_nil ?_
        refine n_then ?_
        refine c_cond rfl rfl (fun hb3 => ?_) (fun hb3 => ?_)
        · skip
          have hb3 : x.toNat < 128 := by simp at hb3; omega
          rw [if_pos hb3] at hd
          rw [hd] at h4
          have hlt : n + 128 ^ i * x.toNat < 18446744073709551616 := rdNum_lt h4
          have hxm : x.toNat % 128 = x.toNat := Nat.mod_eq_of_lt hb3
          refine c_seq ?_
          refine wp_reg (by decide +kernel) ?_
          refine l_v (v_move (t := .int _ _) rfl) ?_
          refine l_v (v_move (t := .int _ _) rfl) ?_
          refine l_v (v_move (t := .int _ _) rfl) ?_
          refine l_v (v_mul (t := ((x.toNat % 128 * 128 ^ i : Nat) : Int)) rfl rfl ((by rw [show ((x.toNat : Int) % 128) * ((128 ^ i : Nat) : Int) = ((x.toNat % 128 * 128 ^ i : Nat) : Int) by push_cast; rfl]; have hlt' := hlt; rw [Nat.mul_comm] at hlt'; exact wr_u64 (by omega) (by rw [hxm]; omega)))) ?_
          refine l_v (v_add (t := ((n + 128 ^ i * x.toNat : Nat) : Int)) rfl rfl ((by rw [hxm, Nat.mul_comm]; rw [show ((n : Nat) : Int) + ((128 ^ i * x.toNat : Nat) : Int) = ((n + 128 ^ i * x.toNat : Nat) : Int) by push_cast; rfl]; exact wr_u64 (by omega) (by omega)))) ?_
          refine l_v (v_move (t := .int _ _) rfl) ?_
          refine l_v (v_add rfl rfl (by first | exact wr_i64 (by omega) (by omega) | rfl)) ?_
          refine l_v (v_assign (t := .int _ _) rfl) ?_
          refine l_v (v_assign (t := .int _ _) rfl) ?_
          refine l_nil ?_
          refine n_then ?_
          refine wp_ret ?_
          refine r_blk ?_
          refine r_then ?_
          refine r_blk ?_
          refine r_then ?_
          refine r_then ?_
          refine r_blk ?_
          refine r_then ?_
          refine r_scp ?_
          refine ret2 rfl (by decide) (by decide) ?_
          refine ⟨?_, Keep.refl _⟩
          show _ = formV l
          rw [formV, h4]
          show Value.tuple #[Value.int .u64 _, Value.int .i64 _] = Value.tuple #[_, _]
          have hdl : (l.drop (i + 1)).length = l.length - (i + 1) := List.length_drop
          rw [hdl, show l.length - (l.length - (i + 1)) = i + 1 by omega]
          rfl
        · skip
          have hb3 : ¬ x.toNat < 128 := by simp at hb3; omega
          have hi8 : i ≤ 8 := by omega
          have hp8 : 128 ^ i ≤ 128 ^ 8 := Nat.pow_le_pow_right (by omega) hi8
          rw [if_neg hb3] at hd
          refine wp_skip ?_
          refine n_blk ?_
          refine n_then ?_
          refine c_seq ?_
          refine wp_reg (by decide +kernel) ?_
          refine l_v (v_move (t := .int _ _) rfl) ?_
          refine l_v (v_move (t := .int _ _) rfl) ?_
          refine l_v (v_move (t := .int _ _) rfl) ?_
          refine l_v (v_mul (t := ((x.toNat % 128 * 128 ^ i : Nat) : Int)) rfl rfl ((by rw [show ((x.toNat : Int) % 128) * ((128 ^ i : Nat) : Int) = ((x.toNat % 128 * 128 ^ i : Nat) : Int) by push_cast; rfl]; exact wr_u64 (by omega) (by omega)))) ?_
          refine l_v (v_add rfl rfl (by first | exact wr_u64 (by omega) (by omega) | rfl)) ?_
          refine l_v (v_assign (t := .int _ _) rfl) ?_
          refine l_nil ?_
          refine n_then ?_
          refine wp_reg (by decide +kernel) ?_
          refine l_v (v_move (t := .int _ _) rfl) ?_
          refine l_v (v_mul rfl rfl (by first | exact wr_u64 (by omega) (by omega) | rfl)) ?_
          refine l_v (v_assign (t := .int _ _) rfl) ?_
          refine l_nil ?_
          refine n_blk ?_
          refine n_then ?_
          refine wp_reg (by decide +kernel) ?_
          refine l_v (v_add rfl rfl (by first | exact wr_i64 (by omega) (by omega) | rfl)) ?_
          refine l_v (v_move (t := .int _ _) rfl) ?_
          refine l_nil ?_
          refine n_then ?_
          refine ⟨(i + 1, n + x.toNat % 128 * 128 ^ i), _, rfl, by (repeat (first | exact Off.of_over _ _ _ | refine Off.upd ?_ (by decide) _)), ⟨by first | rfl | exact congrArg (Value.int _) (by omega) | (simp; done) | (exact congrArg (Value.int _) (by rw [Nat.pow_succ]; omega)), by first | rfl | exact congrArg (Value.int _) (by omega) | (simp; done) | (exact congrArg (Value.int _) (by rw [Nat.pow_succ]; omega)), by first | rfl | exact congrArg (Value.int _) (by omega) | (simp; done) | (exact congrArg (Value.int _) (by rw [Nat.pow_succ]; omega)), trivial⟩, ?_, ?_⟩
          · refine ⟨rfl, by omega, by omega, by rw [Nat.pow_succ]; omega, ?_⟩
            rw [h4, hd]
            cases rdGo (i + 1) (l.drop (i + 1)) with
            | none => rfl
            | some p =>
              simp only [Option.map_some]
              congr 2
              rw [Nat.pow_succ, Nat.mul_add, Nat.mul_comm (128 ^ i) (x.toNat % 128), Nat.mul_assoc, Nat.add_assoc]
          · dsimp only; omega
  · skip
    refine wp_exit ?_
    refine x_then ?_
    refine x_then ?_
    refine x_hit ?_
    refine n_then ?_
    refine c_seq ?_
    refine wp_reg (by decide +kernel) ?_
    refine l_v (v_assign rfl) ?_
    refine l_v (v_assign rfl) ?_
    refine l_nil ?_
    refine n_then ?_
    refine wp_ret ?_
    refine r_scp ?_
    refine ret2 rfl (by decide) (by decide) ?_
    refine ⟨?_, Keep.refl _⟩
    have hc := dfalse hc
    have he : l.drop i = [] := List.drop_eq_nil_of_le (by omega)
    rw [he] at h4
    show _ = formV l
    rw [formV, h4]; rfl
end Go.Proofs.Ythnpnniiejcnbaa
