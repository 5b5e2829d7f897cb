/- A part of the proof: steps and lemmas for the walks through the given program. -/
import Derived.Test.YtlhanmlpionomaaGc
import Derived.Test.YtlhanmlpionomaaProg
namespace Go.Proofs.Ytlhanmlpionomaa
open Go.Vc
set_option linter.unusedVariables false
set_option maxRecDepth 100000

abbrev nU8 : Nat := 5
theorem spell_c {w : World} {B : Nat} {a0 : Option Addr} {c0 : Nat} {l : List UInt8} {n : Nat} {x : Int} (hx : x = (n : Nat)) (hv : OwV tU8 nU8 w B NoK (.slice a0 l.length c0) l) (hB : B ≤ w.heap.size) (hn : n < 18446744073709551616) (hl : l.length + 10 ≤ 140737488355328) :
    CallsR Try.prog 67 #[.slice a0 l.length c0, .int .u64 x] w (fun r w' => ∃ a c, r = .slice a (l ++ wNum n).length c ∧ OwV tU8 nU8 w' B NoK r (l ++ wNum n) ∧ Keep (fun b => (Value.slice a0 l.length c0).ownBlock = some b) w w' ∧ (∀ b, r.ownBlock = some b → (Value.slice a0 l.length c0).ownBlock = some b ∨ w.heap.size ≤ b) ∧ ∃ q, a = some q) := by
  subst hx
  have hlen := wNum_len10 hn
  obtain ⟨w0, rfl⟩ : ∃ x, x = w := ⟨w, rfl⟩
  refine enter 21 Try.func67 rfl rfl (by simp) ?_
  refine c_seq ?_
  refine wp_reg (by decide +kernel) ?_
  refine l_v (v_assign rfl) ?_
  refine l_nil ?_
  refine n_then ?_
  refine c_seq ?_
  refine c_block ?_
  refine c_loop (τ := Option Addr × Nat × List UInt8 × Nat) [0, 1, 5, 6, 7, 8, 9, 10, 11, 12, 13, 14, 15] (fun (a, c, l', n') => [(0, .slice a l'.length c), (1, .int .u64 n')]) (fun (a, c, l', n') w => OwV tU8 nU8 w B NoK (.slice a l'.length c) l' ∧ B ≤ w.heap.size ∧ n' ≤ n ∧ l' ++ wNum n' = l ++ wNum n ∧ Keep (fun b => (Value.slice a0 l.length c0).ownBlock = some b) w0 w ∧ (∀ b, (Value.slice a l'.length c).ownBlock = some b → (Value.slice a0 l.length c0).ownBlock = some b ∨ w0.heap.size ≤ b)) (fun (a, c, l', n') => n') (a0, c0, l, n) (by exact ⟨rfl, rfl, trivial⟩) (by exact ⟨hv, hB, Nat.le_refl _, rfl, Keep.refl _, fun b hb => .inl (hb)⟩) ?_
  rintro ⟨a, c, l', n'⟩ w1 j ⟨h1, h2, h3, h4, h5, h6⟩
  refine c_seq ?_
  refine c_seq ?_
  refine wp_reg (by decide +kernel) ?_
  refine l_v (v_move (t := .int _ _) rfl) ?_
  refine l_v (v_geq rfl rfl) ?_
  refine l_nil ?_
  refine n_then ?_
  refine c_cond rfl rfl (fun hc => ?_) (fun hc => ?_)
  · skip
    have hz1 := h5.size
    have hll := congrArg List.length h4
    simp only [List.length_append] at hll
    have hep := wNum_pos n'
    have hge : 128 ≤ n' := by have := dtrue hc; omega
    refine c_skip ?_
    refine n_then ?_
    refine c_block ?_
    refine wp_reg (by decide +kernel) ?_
    refine l_v (v_move (t := .slice _ _ _) rfl) ?_
    refine l_v (v_move (t := .int _ _) rfl) ?_
    refine l_v (v_rem rfl rfl (by decide) (by first | exact tm_nn (by omega) | rfl)) ?_
    refine l_v (v_conv (ds := .int .u64) (by kernel_rfl) (by kernel_rfl) rfl (by first | exact wr_u8 (by omega) (by omega) | rfl)) ?_
    refine l_v (v_bor rfl rfl (by first | exact or_128 (by omega) (by omega) | rfl)) ?_
    refine l_to (to_slice1 (t := tU8) (et := 5) (bytes := 1) (by kernel_rfl) (by decide) (show _ = (Value.int _ _) from rfl) (rep_u8 (F := NoK) (UInt8.ofNat (128 + n' % 128)) (by rw [u8n (by omega)]; omega)) ?_)
    rintro b2 w2 rfl hs e2 z2
    have zs_e2 := e2.size
    refine l_to (to_append (et := 5) (bytes := 1) (by kernel_rfl) (show _ = (Value.slice _ _ _) from rfl) (h1.ext e2) (show _ = (Value.slice _ _ _) from rfl) (hs.view) (flat_u8.to) (by first | omega | (simp; done) | (simp; omega)) (by simp only [maxLen]; first | omega | (simp; done) | (simp; omega)) (by omega) ?_)
    rintro a3 n3 c3 w3 o3 hn3 k3 b3 i3
    have zs_k3 := k3.size
    subst hn3
    refine l_v (v_move (t := .int _ _) rfl) ?_
    refine l_v (v_quo rfl rfl (by decide) (by first | exact qu_u64 (by omega) (by omega) (by decide) | rfl)) ?_
    refine l_v (v_assign (t := .slice _ _ _) rfl) ?_
    refine l_v (v_assign (t := .int _ _) rfl) ?_
    refine l_nil ?_
    refine n_blk ?_
    refine n_then ?_
    refine ⟨(a3, c3, l' ++ [UInt8.ofNat (128 + n' % 128)], n' / 128), _, rfl, by (repeat (first | exact Off.of_over _ _ _ | refine Off.upd ?_ (by decide) _ | refine Off.overs ?_ (by decide) _)), ⟨by first | rfl | exact congrArg (Value.int _) (by omega) | (simp; done), by first | rfl | exact congrArg (Value.int _) (by omega) | (simp; done), trivial⟩, ?_, ?_⟩
    · have hz3 := k3.size
      refine ⟨o3, by omega, by omega, ?_, (h5.step e2 (fun _ _ x => x.elim)).step k3 (fun b hb h => (h6 b h).resolve_right (by omega)), fun b hb => (b3 b hb).elim (h6 b) (fun h => .inr (by have := h5.size; omega))⟩
      rw [List.append_assoc, ← h4, wNum_ge hge]; rfl
    · dsimp only; omega
  · skip
    have hep := wNum_pos n'
    have hlt : n' < 128 := by have := dfalse hc; omega
    have hll := congrArg List.length h4
    simp only [List.length_append] at hll
    have hee : l' ++ [UInt8.ofNat n'] = l ++ wNum n := by rw [← h4, wNum_lt hlt]
    refine c_exit ?_
    refine x_then ?_
    refine x_then ?_
    refine x_hit ?_
    refine n_then ?_
    refine c_seq ?_
    refine wp_reg (by decide +kernel) ?_
    refine l_v (v_move (t := .slice _ _ _) rfl) ?_
    refine l_v (v_move (t := .int _ _) rfl) ?_
    refine l_v (v_conv (ds := .int .u64) (by kernel_rfl) (by kernel_rfl) rfl (by first | exact wr_u8 (by omega) (by omega) | rfl)) ?_
    refine l_to (to_slice1 (t := tU8) (et := 5) (bytes := 1) (by kernel_rfl) (by decide) (show _ = (Value.int _ _) from rfl) (rep_u8 (F := NoK) (UInt8.ofNat n') (by rw [u8n (by omega)])) ?_)
    rintro b2 w2 rfl hs e2 z2
    have zs_e2 := e2.size
    refine l_to (to_append (et := 5) (bytes := 1) (by kernel_rfl) (show _ = (Value.slice _ _ _) from rfl) (h1.ext e2) (show _ = (Value.slice _ _ _) from rfl) (hs.view) (flat_u8.to) (by first | omega | (simp; done) | (simp; omega)) (by simp only [maxLen]; first | omega | (simp; done) | (simp; omega)) (by omega) ?_)
    rintro a3 n3 c3 w3 o3 hn3 k3 b3 i3
    have zs_k3 := k3.size
    subst hn3
    refine l_v (v_assign (t := .slice _ _ _) rfl) ?_
    refine l_nil ?_
    refine n_then ?_
    refine c_ret ?_
    refine ret1 rfl (by decide) ?_
    refine ⟨a3, c3, ?_, ?_, (h5.step e2 (fun _ _ x => x.elim)).step k3 (fun b hb h => (h6 b h).resolve_right (by omega)), fun b hb => (b3 b hb).elim (h6 b) (fun h => .inr (by have := h5.size; omega)), ?_⟩
    · show Value.slice a3 _ c3 = _; rw [List.length_append, ← hee, List.length_append]
    · rw [← hee]; exact o3
    · cases a3 with
      | some q => exact ⟨q, rfl⟩
      | none => exact absurd (i3.1 rfl).2 (by simp)
end Go.Proofs.Ytlhanmlpionomaa

namespace Go.Proofs.Ytlhanmlpionomaa
open Go.Vc
set_option linter.unusedVariables false
set_option maxRecDepth 100000

theorem Number_c {w : World} {n : Nat} (hn : n < 18446744073709551616) : CallsR Try.prog 46 #[.int .u64 n] w (fun r w' => OwV tU8 nU8 w' w.heap.size NoK r (wNum n) ∧ (∃ q c, r = .slice (some q) (wNum n).length c) ∧ Ext w w') := by
  refine enter 5 Try.func46 rfl rfl (by simp) ?_
  refine c_seq ?_
  refine wp_reg (by decide +kernel) ?_
  refine l_v (v_assign rfl) ?_
  refine l_nil ?_
  refine n_then ?_
  refine c_seq ?_
  refine wp_reg (by decide +kernel) ?_
  refine l_v (v_move (t := .int _ _) rfl) ?_
  refine l_to (to_f2 (by kernel_rfl) (show _ = (Value.slice _ _ _) from rfl) (show _ = (Value.int _ _) from rfl) (CallsR.mono (spell_c (l := []) (n := n) rfl (OwV.nil _ _ _ _ _) (Nat.le_refl _) hn (by simp)) ?_))
  rintro _ w1 ⟨a, c, rfl, o1, k1, b1, q, rfl⟩
  have zs_k1 := k1.size
  have k2 : Ext w w1 := k1.mono fun b _ h => by simp [Value.ownBlock] at h
  refine l_v (v_assign (t := .slice _ _ _) rfl) ?_
  refine l_nil ?_
  refine n_then ?_
  refine c_ret ?_
  refine ret1 rfl (by decide) ?_
  exact ⟨o1, ⟨q, c, rfl⟩, k2⟩

theorem Bytes_c {w : World} {v : Value} {F : Nat → Prop} {l : List UInt8} (hv : Bv w F v l) (hl : l.length ≤ 140737488355300) : CallsR Try.prog 50 #[v] w (fun r w' => OwV tU8 nU8 w' w.heap.size NoK r (wBytes l) ∧ (∃ q c, r = .slice (some q) (wBytes l).length c) ∧ Ext w w') := by
  obtain ⟨a, c, rfl⟩ := hv.shape
  have hw := wNum_len10 (n := l.length) (by omega)
  refine enter 13 Try.func50 rfl rfl (by simp) ?_
  refine c_seq ?_
  refine wp_reg (by decide +kernel) ?_
  refine l_v (v_assign rfl) ?_
  refine l_nil ?_
  refine n_then ?_
  refine c_seq ?_
  refine wp_reg (by decide +kernel) ?_
  refine l_v (v_move (t := .slice _ _ _) rfl) ?_
  refine l_v (v_len (et := 5) (by kernel_rfl) rfl) ?_
  refine l_v (v_add rfl rfl (by first | exact wr_i64 (by omega) (by omega) | rfl)) ?_
  refine l_to (to_make (et := 5) (bytes := 1) (by kernel_rfl) (t := tU8) (z := 0) (n := 0) (m := l.length + 10) (zv := .int .u8 0) rfl rfl (.inr rfl) (by omega) (by simp only [maxLen]; omega) (by unfold kZero; kernel_rfl) rfl rfl (fun _ _ => rfl) ?_)
  rintro b1 c1 w1 rfl o1 e1 z1
  have zs_e1 := e1.size
  refine l_v (v_move (t := .slice _ _ _) rfl) ?_
  refine l_v (v_len (et := 5) (by kernel_rfl) rfl) ?_
  refine l_v (v_conv (ds := .int .i64) (by kernel_rfl) (by kernel_rfl) rfl (by first | exact wr_u64 (by omega) (by omega) | rfl)) ?_
  refine l_to (to_f2 (by kernel_rfl) (show _ = (Value.slice _ _ _) from rfl) (show _ = (Value.int _ _) from rfl) (CallsR.mono (spell_c (l := []) (n := l.length) rfl o1 (by omega) (by omega) (by simp)) ?_))
  rintro _ w2 ⟨a2, c2, rfl, o2, k2, b2, q2, rfl⟩
  have zs_k2 := k2.size
  have kk : Ext w w2 := e1.step k2 fun b hb h => by simp [Value.ownBlock] at h; omega
  refine l_v (v_move (t := .slice _ _ _) rfl) ?_
  refine l_to (to_append (et := 5) (bytes := 1) (by kernel_rfl) (show _ = (Value.slice _ _ _) from rfl) o2 (show _ = (Value.slice _ _ _) from rfl) (hv.ext kk) (flat_u8.to) (by first | omega | (simp; done) | (simp; omega)) (by simp only [maxLen]; first | omega | (simp; done) | (simp; omega)) (by omega) ?_)
  rintro a3 n3 c3 w3 o3 hn3 k3 b3 i3
  have zs_k3 := k3.size
  subst hn3
  have kk3 : Ext w w3 := kk.step k3 fun b hb h => by have := (o2.own_lt h).1; omega
  refine l_v (v_assign (t := .slice _ _ _) rfl) ?_
  refine l_nil ?_
  refine n_then ?_
  refine c_ret ?_
  refine ret1 rfl (by decide) ?_
  refine ⟨o3, ?_, kk3⟩
  cases a3 with
  | some q => exact ⟨q, c3, rfl⟩
  | none => exact absurd (i3.1 rfl).1 (by simp)
end Go.Proofs.Ytlhanmlpionomaa

namespace Go.Proofs.Ytlhanmlpionomaa
open Go.Vc
set_option linter.unusedVariables false
set_option maxRecDepth 100000

theorem sum_take {ls : List (List UInt8)} {k : Nat} {x : List UInt8} (h : ls[k]? = some x) : (ls.take (k + 1)).flatten = (ls.take k).flatten ++ x := by
  rw [List.take_add_one, h]; simp
theorem len_take_le (ls : List (List UInt8)) (k : Nat) : (ls.take k).flatten.length ≤ ls.flatten.length := by
  have : ls.flatten = (ls.take k).flatten ++ (ls.drop k).flatten := by rw [← List.flatten_append, List.take_append_drop]
  rw [this, List.length_append]; omega

theorem Join_c {w : World} {v : Value} {F : Nat → Prop} {ls : List (List UInt8)} (hv : SlV (tSl tU8) w F v ls) (hl : ls.flatten.length ≤ 140737488355300) : CallsR Try.prog 49 #[v] w (fun r w' => OwV tU8 nU8 w' w.heap.size NoK r ls.flatten ∧ (∃ q c, r = .slice (some q) ls.flatten.length c) ∧ Ext w w') := by
  obtain ⟨a, c, rfl⟩ := hv.shape
  have hmx := hv.max
  simp only [maxLen] at hmx
  obtain ⟨w0, rfl⟩ : ∃ x, x = w := ⟨w, rfl⟩
  refine enter 33 Try.func49 rfl rfl (by simp) ?_
  refine c_seq ?_
  refine wp_reg (by decide +kernel) ?_
  refine l_v (v_assign rfl) ?_
  refine l_nil ?_
  refine n_then ?_
  refine c_seq ?_
  refine wp_reg (by decide +kernel) ?_
  refine l_v (v_assign rfl) ?_
  refine l_nil ?_
  refine n_then ?_
  refine c_seq ?_
  refine c_seq ?_
  refine wp_reg (by decide +kernel) ?_
  refine l_v (v_move (t := .slice _ _ _) rfl) ?_
  refine l_v (v_len (et := 31) (by kernel_rfl) rfl) ?_
  refine l_v (v_move rfl) ?_
  refine l_nil ?_
  refine n_then ?_
  refine c_block ?_
  refine c_loop (τ := Nat) [3, 5, 11, 12, 13, 14, 15, 16, 17, 18, 19] (fun k => [(3, .int .i64 (ls.take k).flatten.length), (11, .int .i64 k)]) (fun k w => w = w0 ∧ k ≤ ls.length) (fun k => ls.length - k) 0 (by exact ⟨rfl, rfl, trivial⟩) (by exact ⟨rfl, Nat.zero_le _⟩) ?_
  rintro k w1 j ⟨rfl, h1⟩
  refine c_seq ?_
  refine wp_reg (by decide +kernel) ?_
  refine l_v (v_lss rfl rfl) ?_
  refine l_nil ?_
  refine n_then ?_
  refine c_seq ?_
  refine c_cond rfl rfl (fun hc => ?_) (fun hc => ?_)
  · skip
    have hc := dtrue hc
    obtain ⟨x, hx⟩ : ∃ x, ls[k]? = some x := ⟨ls[k]'(by omega), by simp [show k < ls.length by omega]⟩
    have hs := sum_take hx
    have hs2 := len_take_le ls (k + 1)
    have hs3 := congrArg List.length hs
    rw [List.length_append] at hs3
    refine c_skip ?_
    refine n_then ?_
    refine c_seq ?_
    refine c_block ?_
    refine c_seq ?_
    refine wp_reg (by decide +kernel) ?_
    refine l_to (to_index (et := 31) (by kernel_rfl) (by kernel_rfl) (show _ = (Value.slice _ _ _) from rfl) hv (show _ = (Value.int _ _) from rfl) rfl hx ?_)
    rintro q cs hF hp ⟨v1, rfl, hv1⟩
    obtain ⟨a1, c1, rfl⟩ := hv1.shape
    refine l_v (v_load (by kernel_rfl) rfl (pv_1 hp)) ?_
    refine l_v (v_assign (t := .slice _ _ _) rfl) ?_
    refine l_nil ?_
    refine n_then ?_
    refine wp_reg (by decide +kernel) ?_
    refine l_v (v_move (t := .int _ _) rfl) ?_
    refine l_v (v_move (t := .slice _ _ _) rfl) ?_
    refine l_v (v_len (et := 5) (by kernel_rfl) rfl) ?_
    refine l_v (v_add rfl rfl (by first | exact wr_i64 (by omega) (by omega) | rfl)) ?_
    refine l_v (v_assign (t := .int _ _) rfl) ?_
    refine l_nil ?_
    refine n_blk ?_
    refine n_then ?_
    refine wp_reg (by decide +kernel) ?_
    refine l_v (v_add rfl rfl (by first | exact wr_i64 (by omega) (by omega) | rfl)) ?_
    refine l_v (v_move (t := .int _ _) rfl) ?_
    refine l_nil ?_
    refine n_then ?_
    refine ⟨k + 1, _, rfl, by (repeat (first | exact Off.of_over _ _ _ | refine Off.upd ?_ (by decide) _ | refine Off.overs ?_ (by decide) _)), ⟨by first | rfl | exact congrArg (Value.int _) (by omega) | (simp; done), by first | rfl | exact congrArg (Value.int _) (by omega) | (simp; done), trivial⟩, ?_, ?_⟩
    · exact ⟨rfl, by omega⟩
    · dsimp only; omega
  · skip
    have hc := dfalse hc
    obtain rfl : k = ls.length := by omega
    have hfl : (ls.take ls.length).flatten = ls.flatten := by rw [List.take_length]
    refine c_exit ?_
    refine x_then ?_
    refine x_then ?_
    refine x_hit ?_
    refine n_then ?_
    refine c_seq ?_
    refine wp_reg (by decide +kernel) ?_
    refine l_v (v_move (t := .int _ _) rfl) ?_
    refine l_to (to_make (et := 5) (bytes := 1) (by kernel_rfl) (t := tU8) (z := 0) (n := 0) (m := (ls.take ls.length).flatten.length) (zv := .int .u8 0) rfl rfl (.inr rfl) (by rw [hfl]; omega) (by rw [hfl]; simp only [maxLen]; omega) (by unfold kZero; kernel_rfl) rfl rfl (fun _ _ => rfl) ?_)
    rintro b1 c1 w2 rfl o1 e1 z1
    have zs_e1 := e1.size
    refine l_v (v_assign (t := .slice _ _ _) rfl) ?_
    refine l_nil ?_
    refine n_then ?_
    refine c_seq ?_
    refine c_seq ?_
    refine wp_reg (by decide +kernel) ?_
    refine l_v (v_move (t := .slice _ _ _) rfl) ?_
    refine l_v (v_len (et := 31) (by kernel_rfl) rfl) ?_
    refine l_v (v_move rfl) ?_
    refine l_nil ?_
    refine n_then ?_
    refine c_block ?_
    refine c_loop (τ := Addr × Nat × Nat) [6, 8, 24, 25, 26, 27, 28, 29, 30, 31] (fun (a2, c2, k) => [(6, .slice (some a2) (ls.take k).flatten.length c2), (24, .int .i64 k)]) (fun (a2, c2, k) w => OwV tU8 nU8 w w1.heap.size NoK (.slice (some a2) (ls.take k).flatten.length c2) (ls.take k).flatten ∧ Ext w1 w ∧ k ≤ ls.length) (fun (a2, c2, k) => ls.length - k) (⟨w1.heap.size, 0, none⟩, c1, 0) (by exact ⟨rfl, rfl, trivial⟩) (by exact ⟨o1, e1, Nat.zero_le _⟩) ?_
    rintro ⟨a2, c2, k⟩ w3 j2 ⟨o2, e2, h2⟩
    refine c_seq ?_
    refine wp_reg (by decide +kernel) ?_
    refine l_v (v_lss rfl rfl) ?_
    refine l_nil ?_
    refine n_then ?_
    refine c_seq ?_
    refine c_cond rfl rfl (fun hc2 => ?_) (fun hc2 => ?_)
    · skip
      have hc2 := dtrue hc2
      have hz2 := e2.size
      obtain ⟨x, hx⟩ : ∃ x, ls[k]? = some x := ⟨ls[k]'(by omega), by simp [show k < ls.length by omega]⟩
      have hs := sum_take hx
      have hs2 := len_take_le ls (k + 1)
      have hs3 := congrArg List.length hs
      rw [List.length_append] at hs3
      refine c_skip ?_
      refine n_then ?_
      refine c_seq ?_
      refine c_block ?_
      refine c_seq ?_
      refine wp_reg (by decide +kernel) ?_
      refine l_to (to_index (et := 31) (by kernel_rfl) (by kernel_rfl) (show _ = (Value.slice _ _ _) from rfl) (hv.ext e2) (show _ = (Value.int _ _) from rfl) rfl hx ?_)
      rintro q cs hF hp ⟨v1, rfl, hv1⟩
      obtain ⟨a1, c1, rfl⟩ := hv1.shape
      refine l_v (v_load (by kernel_rfl) rfl (pv_1 hp)) ?_
      refine l_v (v_assign (t := .slice _ _ _) rfl) ?_
      refine l_nil ?_
      refine n_then ?_
      refine wp_reg (by decide +kernel) ?_
      refine l_v (v_move (t := .slice _ _ _) rfl) ?_
      refine l_v (v_move (t := .slice _ _ _) rfl) ?_
      refine l_to (to_append (et := 5) (bytes := 1) (by kernel_rfl) (show _ = (Value.slice _ _ _) from rfl) o2 (show _ = (Value.slice _ _ _) from rfl) hv1 (flat_u8.to) (by first | omega | (simp; done) | (simp; omega)) (by simp only [maxLen]; first | omega | (simp; done) | (simp; omega)) (by omega) ?_)
      rintro a3 n3 c3 w4 o3 hn3 k3 b3 i3
      have zs_k3 := k3.size
      subst hn3
      have e3 : Ext w1 w4 := e2.step k3 fun b hb h => by have := (o2.own_lt h).1; omega
      rw [← hs] at o3 ⊢
      obtain ⟨q3, rfl⟩ : ∃ q, a3 = some q := by
        cases a3 with
        | some q => exact ⟨q, rfl⟩
        | none => exact absurd (i3.1 rfl).1 (by simp)
      refine l_v (v_assign (t := .slice _ _ _) rfl) ?_
      refine l_nil ?_
      refine n_blk ?_
      refine n_then ?_
      refine wp_reg (by decide +kernel) ?_
      refine l_v (v_add rfl rfl (by first | exact wr_i64 (by omega) (by omega) | rfl)) ?_
      refine l_v (v_move (t := .int _ _) rfl) ?_
      refine l_nil ?_
      refine n_then ?_
      refine ⟨(q3, c3, k + 1), _, rfl, by (repeat (first | exact Off.of_over _ _ _ | refine Off.upd ?_ (by decide) _ | refine Off.overs ?_ (by decide) _)), ⟨by first | rfl | exact congrArg (Value.int _) (by omega) | (simp; done), by first | rfl | exact congrArg (Value.int _) (by omega) | (simp; done), trivial⟩, ?_, ?_⟩
      · exact ⟨o3, e3, by omega⟩
      · dsimp only; omega
    · skip
      have hc2 := dfalse hc2
      obtain rfl : k = ls.length := by omega
      refine c_exit ?_
      refine x_then ?_
      refine x_then ?_
      refine x_hit ?_
      refine n_then ?_
      refine c_seq ?_
      refine wp_reg (by decide +kernel) ?_
      refine l_v (v_move (t := .slice _ _ _) rfl) ?_
      refine l_v (v_assign (t := .slice _ _ _) rfl) ?_
      refine l_nil ?_
      refine n_then ?_
      refine c_ret ?_
      refine ret1 rfl (by decide) ?_
      rw [hfl] at o2
      exact ⟨by show OwV _ _ _ _ _ (Value.slice (some a2) (ls.take ls.length).flatten.length c2) _; rw [hfl]; exact o2, ⟨a2, c2, by show Value.slice (some a2) (ls.take ls.length).flatten.length c2 = _; rw [hfl]⟩, e2⟩

end Go.Proofs.Ytlhanmlpionomaa

namespace Go.Proofs.Ytlhanmlpionomaa
open Go.Vc
set_option linter.unusedVariables false
set_option maxRecDepth 100000

end Go.Proofs.Ytlhanmlpionomaa

namespace Go.Proofs.Ytlhanmlpionomaa
open Go.Vc
set_option linter.unusedVariables false
set_option maxRecDepth 100000

def rest (l : List UInt8) : List UInt8 := match rdNum l with
  | some (_, r) => r
  | none => l

end Go.Proofs.Ytlhanmlpionomaa

namespace Go.Proofs.Ytlhanmlpionomaa
open Go.Vc
set_option linter.unusedVariables false
set_option maxRecDepth 100000

/-- reading with a number ahead -/
def tryRd {β : Type} (ρ : Nat → List UInt8 → Except Int (β × List UInt8)) (most : Nat) (l : List UInt8) : Except Int (β × List UInt8) := match rdNum l with
  | none => .error 4
  | some (n, l') => if n ≤ most then ρ n l' else .error 3

end Go.Proofs.Ytlhanmlpionomaa

namespace Go.Proofs.Ytlhanmlpionomaa
open Go.Vc
set_option linter.unusedVariables false
set_option maxRecDepth 100000

def rdSome (n : Nat) (l : List UInt8) : Except Int (List UInt8 × List UInt8) := if n ≤ l.length then .ok (l.take n, l.drop n) else .error 4
def rdBytes (most : Nat) (l : List UInt8) : Except Int (List UInt8 × List UInt8) := tryRd rdSome most l

theorem digits_c {w : World} {n : Nat} (hn : n < 18446744073709551616) : CallsR Try.prog 68 #[.int .u64 n] w (fun r w' => r = .int .i64 (wNum n).length ∧ Ext w w') := by
  have hl := wNum_len10 hn
  obtain ⟨w0, rfl⟩ : ∃ x, x = w := ⟨w, rfl⟩
  refine enter 12 Try.func68 rfl rfl (by simp) ?_
  refine c_seq ?_
  refine wp_reg (by decide +kernel) ?_
  refine l_v (v_assign rfl) ?_
  refine l_nil ?_
  refine n_then ?_
  refine c_seq ?_
  refine wp_reg (by decide +kernel) ?_
  refine l_v (v_assign rfl) ?_
  refine l_nil ?_
  refine n_then ?_
  refine c_seq ?_
  refine c_block ?_
  refine c_loop (τ := Nat × Nat) [0, 3, 4, 5, 6, 7, 8, 9, 10] (fun (n', m) => [(0, .int .u64 n'), (3, .int .i64 m)]) (fun (n', m) w => w = w0 ∧ n' < 18446744073709551616 ∧ m + (wNum n').length = 1 + (wNum n).length) (fun (n', m) => n') (n, 1) (by exact ⟨rfl, rfl, trivial⟩) (by exact ⟨rfl, hn, rfl⟩) ?_
  rintro ⟨n', m⟩ w1 j ⟨rfl, h1, h2⟩
  refine c_seq ?_
  refine c_seq ?_
  refine wp_reg (by decide +kernel) ?_
  refine l_v (v_move (t := .int _ _) rfl) ?_
  refine l_v (v_quo rfl rfl (by decide) (by first | exact qu_u64 (by omega) (by omega) (by decide) | rfl)) ?_
  refine l_v (v_gtr rfl rfl) ?_
  refine l_nil ?_
  refine n_then ?_
  refine c_cond rfl rfl (fun hc => ?_) (fun hc => ?_)
  · skip
    have hge : 128 ≤ n' := by have := dtrue hc; omega
    have hw := wNum_ge hge
    rw [hw] at h2
    simp only [List.length_cons] at h2
    refine c_skip ?_
    refine n_then ?_
    refine c_block ?_
    refine c_seq ?_
    refine wp_reg (by decide +kernel) ?_
    refine l_v (v_move (t := .int _ _) rfl) ?_
    refine l_v (v_quo rfl rfl (by decide) (by first | exact qu_u64 (by omega) (by omega) (by decide) | rfl)) ?_
    refine l_v (v_assign (t := .int _ _) rfl) ?_
    refine l_nil ?_
    refine n_then ?_
    refine wp_reg (by decide +kernel) ?_
    refine l_v (v_move (t := .int _ _) rfl) ?_
    refine l_v (v_add rfl rfl (by first | exact wr_i64 (by omega) (by omega) | rfl)) ?_
    refine l_v (v_assign (t := .int _ _) rfl) ?_
    refine l_nil ?_
    refine n_blk ?_
    refine n_then ?_
    refine ⟨(n' / 128, m + 1), _, rfl, by (repeat (first | exact Off.of_over _ _ _ | refine Off.upd ?_ (by decide) _ | refine Off.overs ?_ (by decide) _)), ⟨by first | rfl | exact congrArg (Value.int _) (by omega) | (simp; done), by first | rfl | exact congrArg (Value.int _) (by omega) | (simp; done), trivial⟩, ?_, ?_⟩
    · exact ⟨rfl, by omega, by omega⟩
    · dsimp only; omega
  · skip
    refine c_exit ?_
    refine x_then ?_
    refine x_then ?_
    refine x_hit ?_
    refine n_then ?_
    refine c_seq ?_
    refine wp_reg (by decide +kernel) ?_
    refine l_v (v_move (t := .int _ _) rfl) ?_
    refine l_v (v_assign (t := .int _ _) rfl) ?_
    refine l_nil ?_
    refine n_then ?_
    refine c_ret ?_
    refine ret1 rfl (by decide) ?_
    refine ⟨?_, Keep.refl _⟩
    have hlt : n' < 128 := by have := dfalse hc; omega
    rw [wNum_lt hlt] at h2
    exact congrArg (Value.int _) (by simp at h2; omega)

theorem refNumber_c {w : World} {n : Nat} {x : Int} (hx : x = (n : Nat)) (hn : n < 18446744073709551616) : CallsR Try.prog 51 #[.int .u64 x] w (fun r w' => OwV tU8 nU8 w' w.heap.size NoK r (wNum n) ∧ (∃ q c, r = .slice (some q) (wNum n).length c) ∧ Ext w w') := by
  subst hx
  have hl := wNum_len10 hn
  have hp := wNum_pos n
  obtain ⟨w0, rfl⟩ : ∃ x, x = w := ⟨w, rfl⟩
  refine enter 36 Try.func51 rfl rfl (by simp) ?_
  refine c_seq ?_
  refine wp_reg (by decide +kernel) ?_
  refine l_v (v_assign rfl) ?_
  refine l_nil ?_
  refine n_then ?_
  refine c_seq ?_
  refine wp_reg (by decide +kernel) ?_
  refine l_v (v_move (t := .int _ _) rfl) ?_
  refine l_to (to_f1 (by kernel_rfl) (show _ = (Value.int _ _) from rfl) (CallsR.mono (digits_c hn) ?_))
  rintro _ w1 ⟨rfl, e1⟩
  have zs_e1 := e1.size
  refine l_to (to_make (et := 5) (bytes := 1) (by kernel_rfl) (t := tU8) (z := 0) (n := (wNum n).length) (m := (wNum n).length) (zv := .int .u8 0) rfl rfl (.inl rfl) (by omega) (by simp only [maxLen]; omega) (by unfold kZero; kernel_rfl) rfl rfl (fun _ _ => rfl) ?_)
  rintro b2 c2 w2 rfl o2 e2 z2
  have zs_e2 := e2.size
  refine l_v (v_assign (t := .slice _ _ _) rfl) ?_
  refine l_nil ?_
  refine n_then ?_
  refine c_seq ?_
  refine c_seq ?_
  refine wp_reg (by decide +kernel) ?_
  refine l_v (v_assign rfl) ?_
  refine l_nil ?_
  refine n_then ?_
  refine c_block ?_
  refine c_loop (τ := Nat × Nat × List UInt8) [0, 4, 8, 9, 10, 11, 12, 13, 14, 15, 16, 17, 18, 19, 20, 21, 22, 23, 24, 25, 26, 27, 28, 29, 30, 31, 32, 33, 34] (fun (n', i, xs) => [(0, .int .u64 n'), (4, .int .i64 i)]) (fun (n', i, xs) w => OwV tU8 nU8 w w1.heap.size NoK (.slice (some ⟨w1.heap.size, 0, none⟩) (wNum n).length c2) xs ∧ Ext w1 w ∧ n' < 18446744073709551616 ∧ i ≤ (wNum n).length ∧ xs.length = (wNum n).length ∧ xs.take i = (wNum n).take i ∧ (i < (wNum n).length → (wNum n).drop i = wNum n')) (fun (n', i, xs) => (wNum n).length - i) (n, 0, List.replicate (wNum n).length 0) (by exact ⟨rfl, rfl, trivial⟩) (by exact ⟨o2, e2, hn, Nat.zero_le _, by simp, by simp, by simp⟩) ?_
  rintro ⟨n', i, xs⟩ w3 j ⟨o3, e3, h1, h2, h3, h4, h5⟩
  refine c_seq ?_
  refine c_seq ?_
  refine wp_reg (by decide +kernel) ?_
  refine l_v (v_move (t := .int _ _) rfl) ?_
  refine l_v (v_move (t := .slice _ _ _) rfl) ?_
  refine l_v (v_len (et := 5) (by kernel_rfl) rfl) ?_
  refine l_v (v_lss rfl rfl) ?_
  refine l_nil ?_
  refine n_then ?_
  refine c_cond rfl rfl (fun hc => ?_) (fun hc => ?_)
  · skip
    have hc := dtrue hc
    have hz3 := e3.size
    have h6 := h5 (by omega)
    have hlen := congrArg List.length h6
    rw [List.length_drop] at hlen
    obtain ⟨x, hx⟩ : ∃ x, xs[i]? = some x := ⟨xs[i]'(by omega), by simp [show i < xs.length by omega]⟩
    refine c_skip ?_
    refine n_then ?_
    refine c_seq ?_
    refine c_block ?_
    refine c_seq ?_
    refine wp_reg (by decide +kernel) ?_
    refine l_v (v_move (t := .slice _ _ _) rfl) ?_
    refine l_v (v_move (t := .int _ _) rfl) ?_
    refine l_v (v_move (t := .int _ _) rfl) ?_
    refine l_v (v_rem rfl rfl (by decide) (by first | exact tm_nn (by omega) | rfl)) ?_
    refine l_v (v_conv (ds := .int .u64) (by kernel_rfl) (by kernel_rfl) rfl (by first | exact wr_u8 (by omega) (by omega) | rfl)) ?_
    refine l_v (v_indexAddr (et := 5) (sz := 1) (k := i) (by kernel_rfl) (by kernel_rfl) rfl rfl (by first | rfl | omega) (by omega)) ?_
    refine l_to (to_storeO (k := i) (off := 0) rfl (by simp [add_lit, tU8]) (by first | decide | exact (of_decide_eq_true rfl : 0 < 2)) (show _ = (Value.int _ _) from rfl) rfl (by kernel_rfl) o3 (x1 := UInt8.ofNat (n' % 128)) hx (fun cs h => by cases h; exact congrArg (fun y => [Value.int .u8 y]) (by rw [u8n (by omega)]; omega)) ?_)
    rintro w4 o4 k4 z4
    have zs_k4 := k4.size
    have e4 : Ext w1 w4 := e3.step k4 (fun b hb h => by omega)
    have hx4 : (xs.set i (UInt8.ofNat (n' % 128)))[i]? = some (UInt8.ofNat (n' % 128)) := by rw [List.getElem?_set_self (by omega)]
    refine l_nil ?_
    refine n_then ?_
    refine c_seq ?_
    refine c_seq ?_
    refine wp_reg (by decide +kernel) ?_
    refine l_v (v_move (t := .int _ _) rfl) ?_
    refine l_v (v_move (t := .slice _ _ _) rfl) ?_
    refine l_v (v_len (et := 5) (by kernel_rfl) rfl) ?_
    refine l_v (v_sub rfl rfl (by first | exact wr_i64 (by omega) (by omega) | rfl)) ?_
    refine l_v (v_lss rfl rfl) ?_
    refine l_nil ?_
    refine n_then ?_
    refine c_cond rfl rfl (fun hd => ?_) (fun hd => ?_)
    · skip
      have hd := dtrue hd
      have hge : 128 ≤ n' := by
        rcases Nat.lt_or_ge n' 128 with h | h
        · rw [wNum_lt h] at hlen; simp at hlen; omega
        · exact h
      have hw := wNum_ge hge
      have hmod : (UInt8.ofNat (n' % 128)).toNat = n' % 128 := u8n (by omega)
      refine wp_reg (by decide +kernel) ?_
      refine l_v (v_move (t := .slice _ _ _) rfl) ?_
      refine l_v (v_move (t := .int _ _) rfl) ?_
      refine l_v (v_move (t := .slice _ _ _) rfl) ?_
      refine l_v (v_move (t := .int _ _) rfl) ?_
      refine l_v (v_indexAddr (et := 5) (sz := 1) (k := i) (by kernel_rfl) (by kernel_rfl) rfl rfl (by first | rfl | omega) (by omega)) ?_
      refine l_v (v_load (by kernel_rfl) rfl (o4.cell1 hx4)) ?_
      refine l_v (v_add rfl rfl (by first | exact wr_u8 (by omega) (by omega) | rfl)) ?_
      refine l_v (v_indexAddr (et := 5) (sz := 1) (k := i) (by kernel_rfl) (by kernel_rfl) rfl rfl (by first | rfl | omega) (by omega)) ?_
      refine l_to (to_storeO (k := i) (off := 0) rfl (by simp [add_lit, tU8]) (by first | decide | exact (of_decide_eq_true rfl : 0 < 2)) (show _ = (Value.int _ _) from rfl) rfl (by kernel_rfl) o4 (x1 := UInt8.ofNat (128 + n' % 128)) hx4 (fun cs h => by cases h; exact congrArg (fun y => [Value.int .u8 y]) (by rw [u8n (m := 128 + n' % 128) (by omega)]; omega)) ?_)
      rintro w5 o5 k5 z5
      have zs_k5 := k5.size
      have e5 : Ext w1 w5 := e4.step k5 (fun b hb h => by omega)
      refine l_nil ?_
      refine n_then ?_
      refine wp_reg (by decide +kernel) ?_
      refine l_v (v_move (t := .int _ _) rfl) ?_
      refine l_v (v_quo rfl rfl (by decide) (by first | exact qu_u64 (by omega) (by omega) (by decide) | rfl)) ?_
      refine l_v (v_assign (t := .int _ _) rfl) ?_
      refine l_nil ?_
      refine n_blk ?_
      refine n_then ?_
      refine wp_reg (by decide +kernel) ?_
      refine l_v (v_move (t := .int _ _) rfl) ?_
      refine l_v (v_add rfl rfl (by first | exact wr_i64 (by omega) (by omega) | rfl)) ?_
      refine l_v (v_assign (t := .int _ _) rfl) ?_
      refine l_nil ?_
      refine n_then ?_
      refine ⟨(n' / 128, i + 1, (xs.set i (UInt8.ofNat (n' % 128))).set i (UInt8.ofNat (128 + n' % 128))), _, rfl, by (repeat (first | exact Off.of_over _ _ _ | refine Off.upd ?_ (by decide) _ | refine Off.overs ?_ (by decide) _)), ⟨by first | rfl | exact congrArg (Value.int _) (by omega) | (simp; done), by first | rfl | exact congrArg (Value.int _) (by omega) | (simp; done), trivial⟩, ?_, ?_⟩
      · refine ⟨o5, e5, by omega, by omega, by simp [h3], ?_, fun h => ?_⟩
        · rw [List.set_set, List.take_add_one, List.take_add_one, List.take_set_of_le (by omega), h4, List.getElem?_set_self (by omega)]
          congr 1
          have : (wNum n)[i]? = some (UInt8.ofNat (128 + n' % 128)) := by
            have h7 := List.getElem?_drop (xs := wNum n) (i := i) (j := 0)
            rw [h6, hw] at h7
            simpa using h7.symm
          rw [this]
        · have h7 := List.drop_drop (i := 1) (j := i) (l := wNum n)
          rw [h6, hw] at h7
          rw [← h7]; rfl
      · dsimp only; omega
    · skip
      have hd := dfalse hd
      have hlt : n' < 128 := by
        rcases Nat.lt_or_ge n' 128 with h | h
        · exact h
        · rw [wNum_ge h] at hlen; have := wNum_pos (n' / 128); simp at hlen; omega
      refine c_skip ?_
      refine n_then ?_
      refine wp_reg (by decide +kernel) ?_
      refine l_v (v_move (t := .int _ _) rfl) ?_
      refine l_v (v_quo rfl rfl (by decide) (by first | exact qu_u64 (by omega) (by omega) (by decide) | rfl)) ?_
      refine l_v (v_assign (t := .int _ _) rfl) ?_
      refine l_nil ?_
      refine n_blk ?_
      refine n_then ?_
      refine wp_reg (by decide +kernel) ?_
      refine l_v (v_move (t := .int _ _) rfl) ?_
      refine l_v (v_add rfl rfl (by first | exact wr_i64 (by omega) (by omega) | rfl)) ?_
      refine l_v (v_assign (t := .int _ _) rfl) ?_
      refine l_nil ?_
      refine n_then ?_
      refine ⟨(n' / 128, i + 1, xs.set i (UInt8.ofNat (n' % 128))), _, rfl, by (repeat (first | exact Off.of_over _ _ _ | refine Off.upd ?_ (by decide) _ | refine Off.overs ?_ (by decide) _)), ⟨by first | rfl | exact congrArg (Value.int _) (by omega) | (simp; done), by first | rfl | exact congrArg (Value.int _) (by omega) | (simp; done), trivial⟩, ?_, ?_⟩
      · refine ⟨o4, e4, by omega, by omega, by simp [h3], ?_, fun h => by omega⟩
        rw [List.take_add_one, List.take_add_one, List.take_set_of_le (by omega), h4, List.getElem?_set_self (by omega)]
        congr 1
        have : (wNum n)[i]? = some (UInt8.ofNat n') := by
          have h7 := List.getElem?_drop (xs := wNum n) (i := i) (j := 0)
          rw [h6, wNum_lt hlt] at h7
          simpa using h7.symm
        rw [this, Nat.mod_eq_of_lt hlt]
      · dsimp only; omega
  · skip
    refine c_exit ?_
    refine x_then ?_
    refine x_then ?_
    refine x_hit ?_
    refine n_then ?_
    refine c_seq ?_
    refine wp_reg (by decide +kernel) ?_
    refine l_v (v_move (t := .slice _ _ _) rfl) ?_
    refine l_v (v_assign (t := .slice _ _ _) rfl) ?_
    refine l_nil ?_
    refine n_then ?_
    refine c_ret ?_
    refine ret1 rfl (by decide) ?_
    have hc := dfalse hc
    have hi : i = (wNum n).length := by omega
    have hxs : xs = wNum n := by
      rw [hi, ← h3, List.take_length] at h4
      rw [h4, h3, List.take_length]
    rw [hxs] at o3
    exact ⟨o3.base (by omega), ⟨_, _, rfl⟩, e1.trans e3⟩

end Go.Proofs.Ytlhanmlpionomaa
