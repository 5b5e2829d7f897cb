/- A part of the proof: steps and lemmas for the walks through the given program. -/
import Derived.Test.YthnpnniiejcnbaaW1
namespace Go.Proofs.Ythnpnniiejcnbaa
open Go.Vc
set_option linter.unusedVariables false
set_option maxRecDepth 100000

theorem Number_c {w : World} {n : Nat} (hn : n < 18446744073709551616) : CallsR Try.prog 19 #[.int .u64 n] w (fun r w' => OwV tU8 nU8 w' w.heap.size NoK r (wNum n) ∧ (∃ q c, r = .slice (some q) (wNum n).length c) ∧ Ext w w') := by
  refine enter 5 Try.func19 rfl rfl (by simp) ?_
  refine c_seq ?_
  refine wp_reg (by decide +kernel) ?_
  refine l_v (v_assign rfl) ?_
  refine l_nil ?_
  refine n_then ?_
  refine c_seq ?_
  refine wp_reg (by decide +kernel) ?_
  refine l_v (v_move (t := .int _ _) rfl) ?_
  refine l_to (to_f2 (by kernel_rfl) (show _ = (Value.slice _ _ _) from rfl) (show _ = (Value.int _ _) from rfl) (CallsR.mono (spell_c (l := []) (n := n) rfl (OwV.nil _ _ _ _ _) (Nat.le_refl _) hn (by simp)) ?_))
  rintro _ w1 ⟨a, c, rfl, o1, k1, b1, q, rfl⟩
  have zs_k1 := k1.size
  have k2 : Ext w w1 := k1.mono fun b _ h => by simp [Value.ownBlock] at h
  refine l_v (v_assign (t := .slice _ _ _) rfl) ?_
  refine l_nil ?_
  refine n_then ?_
  refine wp_ret ?_
  refine ret1 rfl (by decide) ?_
  exact ⟨o1, ⟨q, c, rfl⟩, k2⟩

theorem Signed_c {w : World} {n : Int} (h1 : -9223372036854775808 ≤ n) (h2 : n ≤ 9223372036854775807) : CallsR Try.prog 11 #[.int .i64 n] w (fun r w' => OwV tU8 nU8 w' w.heap.size NoK r (wNum (zig n)) ∧ (∃ q c, r = .slice (some q) (wNum (zig n)).length c) ∧ Ext w w') := by
  have hz := zig_lt h1 h2
  refine enter 16 Try.func11 rfl rfl (by simp) ?_
  refine c_seq ?_
  refine wp_reg (by decide +kernel) ?_
  refine l_v (v_assign rfl) ?_
  refine l_nil ?_
  refine n_then ?_
  refine c_seq ?_
  refine c_seq ?_
  refine wp_reg (by decide +kernel) ?_
  refine l_v (v_move (t := .int _ _) rfl) ?_
  refine l_v (v_lss rfl rfl) ?_
  refine l_nil ?_
  refine n_then ?_
  refine c_cond rfl rfl (fun hc => ?_) (fun hc => ?_)
  · skip
    have hc := dtrue hc
    have hzn := zig_neg hc
    refine c_seq ?_
    refine wp_reg (by decide +kernel) ?_
    refine l_v (v_move (t := .int _ _) rfl) ?_
    refine l_v (v_add rfl rfl (by first | exact wr_i64 (by omega) (by omega) | rfl)) ?_
    refine l_v (v_neg rfl (by first | exact wr_i64 (by omega) (by omega) | rfl)) ?_
    refine l_v (v_conv (ds := .int .i64) (by kernel_rfl) (by kernel_rfl) rfl (by first | exact wr_u64 (by omega) (by omega) | rfl)) ?_
    refine l_v (v_mul rfl rfl (by first | exact wr_u64 (by omega) (by omega) | rfl)) ?_
    refine l_v (v_add rfl rfl (by first | exact wr_u64 (by omega) (by omega) | rfl)) ?_
    refine l_to (to_f2 (by kernel_rfl) (show _ = (Value.slice _ _ _) from rfl) (show _ = (Value.int _ _) from rfl) (CallsR.mono (spell_c (l := []) (n := zig n) (by omega) (OwV.nil _ _ _ _ _) (Nat.le_refl _) hz (by simp)) ?_))
    rintro _ w1 ⟨a, c, rfl, o1, k1, b1, q, rfl⟩
    have zs_k1 := k1.size
    have k2 : Ext w w1 := k1.mono fun b _ h => by simp [Value.ownBlock] at h
    refine l_v (v_assign (t := .slice _ _ _) rfl) ?_
    refine l_nil ?_
    refine n_then ?_
    refine wp_ret ?_
    refine r_then ?_
    refine ret1 rfl (by decide) ?_
    exact ⟨o1, ⟨q, c, rfl⟩, k2⟩
  · skip
    have hc := dfalse hc
    have hzn := zig_nn (n := n) (by omega)
    refine wp_skip ?_
    refine n_then ?_
    refine c_seq ?_
    refine wp_reg (by decide +kernel) ?_
    refine l_v (v_move (t := .int _ _) rfl) ?_
    refine l_v (v_conv (ds := .int .i64) (by kernel_rfl) (by kernel_rfl) rfl (by first | exact wr_u64 (by omega) (by omega) | rfl)) ?_
    refine l_v (v_mul rfl rfl (by first | exact wr_u64 (by omega) (by omega) | rfl)) ?_
    refine l_to (to_f2 (by kernel_rfl) (show _ = (Value.slice _ _ _) from rfl) (show _ = (Value.int _ _) from rfl) (CallsR.mono (spell_c (l := []) (n := zig n) (by omega) (OwV.nil _ _ _ _ _) (Nat.le_refl _) hz (by simp)) ?_))
    rintro _ w1 ⟨a, c, rfl, o1, k1, b1, q, rfl⟩
    have zs_k1 := k1.size
    have k2 : Ext w w1 := k1.mono fun b _ h => by simp [Value.ownBlock] at h
    refine l_v (v_assign (t := .slice _ _ _) rfl) ?_
    refine l_nil ?_
    refine n_then ?_
    refine wp_ret ?_
    refine ret1 rfl (by decide) ?_
    exact ⟨o1, ⟨q, c, rfl⟩, k2⟩

theorem Bytes_c {w : World} {v : Value} {F : Nat → Prop} {l : List UInt8} (hv : Bv w F v l) (hl : l.length ≤ 140737488355300) : CallsR Try.prog 23 #[v] w (fun r w' => OwV tU8 nU8 w' w.heap.size NoK r (wBytes l) ∧ (∃ q c, r = .slice (some q) (wBytes l).length c) ∧ Ext w w') := by
  obtain ⟨a, c, rfl⟩ := hv.shape
  have hw := wNum_len10 (n := l.length) (by omega)
  refine enter 13 Try.func23 rfl rfl (by simp) ?_
  refine c_seq ?_
  refine wp_reg (by decide +kernel) ?_
  refine l_v (v_assign rfl) ?_
  refine l_nil ?_
  refine n_then ?_
  refine c_seq ?_
  refine wp_reg (by decide +kernel) ?_
  refine l_v (v_move (t := .slice _ _ _) rfl) ?_
  refine l_v (v_len (et := 5) (by kernel_rfl) rfl) ?_
  refine l_v (v_add rfl rfl (by first | exact wr_i64 (by omega) (by omega) | rfl)) ?_
  refine l_to (to_make (et := 5) (bytes := 1) (by kernel_rfl) (t := tU8) (z := 0) (n := 0) (m := l.length + 10) (zv := .int .u8 0) rfl rfl (.inr rfl) (by omega) (by simp only [maxLen]; omega) (by unfold kZero; kernel_rfl) rfl rfl (fun _ _ => rfl) ?_)
  rintro b1 c1 w1 rfl o1 e1 z1
  have zs_e1 := e1.size
  refine l_v (v_move (t := .slice _ _ _) rfl) ?_
  refine l_v (v_len (et := 5) (by kernel_rfl) rfl) ?_
  refine l_v (v_conv (ds := .int .i64) (by kernel_rfl) (by kernel_rfl) rfl (by first | exact wr_u64 (by omega) (by omega) | rfl)) ?_
  refine l_to (to_f2 (by kernel_rfl) (show _ = (Value.slice _ _ _) from rfl) (show _ = (Value.int _ _) from rfl) (CallsR.mono (spell_c (l := []) (n := l.length) rfl o1 (by omega) (by omega) (by simp)) ?_))
  rintro _ w2 ⟨a2, c2, rfl, o2, k2, b2, q2, rfl⟩
  have zs_k2 := k2.size
  have kk : Ext w w2 := e1.step k2 fun b hb h => by simp [Value.ownBlock] at h; omega
  refine l_v (v_move (t := .slice _ _ _) rfl) ?_
  refine l_to (to_append (et := 5) (bytes := 1) (by kernel_rfl) (show _ = (Value.slice _ _ _) from rfl) o2 (show _ = (Value.slice _ _ _) from rfl) (hv.ext kk) (flat_u8.to) (by first | omega | (simp; done) | (simp; omega)) (by simp only [maxLen]; first | omega | (simp; done) | (simp; omega)) (by omega) ?_)
  rintro a3 n3 c3 w3 o3 hn3 k3 b3 i3
  have zs_k3 := k3.size
  subst hn3
  have kk3 : Ext w w3 := kk.step k3 fun b hb h => by have := (o2.own_lt h).1; omega
  refine l_v (v_assign (t := .slice _ _ _) rfl) ?_
  refine l_nil ?_
  refine n_then ?_
  refine wp_ret ?_
  refine ret1 rfl (by decide) ?_
  refine ⟨o3, ?_, kk3⟩
  cases a3 with
  | some q => exact ⟨q, c3, rfl⟩
  | none => exact absurd (i3.1 rfl).1 (by simp)
end Go.Proofs.Ythnpnniiejcnbaa
