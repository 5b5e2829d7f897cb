/- A part of the proof: steps and lemmas for the walks through the given program. -/
import Derived.Test.YthnpnniiejcnbaaWPl
import Derived.Test.YthnpnniiejcnbaaProg
namespace Go.Proofs.Ythnpnniiejcnbaa
open Go.Vc
set_option linter.unusedVariables false
set_option maxRecDepth 100000

abbrev nU8 : Nat := 5
abbrev nRd : Nat := 71
theorem closed_c {w : World} {b : Nat} {a : Option Addr} {n c : Nat} (h : Blk w b [.slice a n c] nRd) : CallsR Try.prog 44 #[.pointer (some ⟨b, 0, none⟩)] w (fun r w' => r = .bool a.isNone ∧ Ext w w') := by
  refine enter 12 Try.func44 rfl rfl (by simp) ?_
  refine c_seq ?_
  refine wp_reg (by decide +kernel) ?_
  refine l_v (v_assign rfl) ?_
  refine l_nil ?_
  refine n_then ?_
  refine c_seq ?_
  refine wp_reg (by decide +kernel) ?_
  refine l_v (v_move (t := .pointer _) rfl) ?_
  refine l_v (v_peql (et := 71) (by kernel_rfl) rfl rfl) ?_
  refine l_v (v_move (t := .bool _) rfl) ?_
  refine l_g1 rfl rfl (fun hG => v_move (t := .pointer _) rfl) ?_
  refine l_g1 rfl rfl (fun hG => v_nilCheck (gd hG rfl)) ?_
  refine l_g1 rfl rfl (fun hG => v_fieldAddr (off := 0) (ft := 22) (by kernel_rfl) (gd hG rfl)) ?_
  refine l_g1 rfl rfl (fun hG => v_load (by kernel_rfl) (gd hG rfl) (h.pv 0 _ rfl)) ?_
  refine l_g1 rfl rfl (fun hG => v_sleneq (et := 5) (by kernel_rfl) (gd hG rfl) rfl) ?_
  refine l_v (v_or rfl rfl) ?_
  refine l_v (v_assign (t := .bool _) rfl) ?_
  refine l_nil ?_
  refine n_then ?_
  refine wp_ret ?_
  refine ret1 rfl (by decide) ?_
  exact ⟨rfl, Keep.refl _⟩
theorem spell_c {w : World} {B : Nat} {a0 : Option Addr} {c0 : Nat} {l : List UInt8} {n : Nat} {x : Int} (hx : x = (n : Nat)) (hv : OwV tU8 nU8 w B NoK (.slice a0 l.length c0) l) (hB : B ≤ w.heap.size) (hn : n < 18446744073709551616) (hl : l.length + 10 ≤ 140737488355328) :
    CallsR Try.prog 43 #[.slice a0 l.length c0, .int .u64 x] w (fun r w' => ∃ a c, r = .slice a (l ++ wNum n).length c ∧ OwV tU8 nU8 w' B NoK r (l ++ wNum n) ∧ Keep (fun b => (Value.slice a0 l.length c0).ownBlock = some b) w w' ∧ (∀ b, r.ownBlock = some b → (Value.slice a0 l.length c0).ownBlock = some b ∨ w.heap.size ≤ b) ∧ ∃ q, a = some q) := by
  subst hx
  have hlen := wNum_len10 hn
  obtain ⟨w0, rfl⟩ : ∃ x, x = w := ⟨w, rfl⟩
  refine enter 21 Try.func43 rfl rfl (by simp) ?_
  refine c_seq ?_
  refine wp_reg (by decide +kernel) ?_
  refine l_v (v_assign rfl) ?_
  refine l_nil ?_
  refine n_then ?_
  refine c_seq ?_
  refine wp_block ?_
  refine c_loop (τ := Option Addr × Nat × List UInt8 × Nat) [0, 1, 5, 6, 7, 8, 9, 10, 11, 12, 13, 14, 15] (fun (a, c, l', n') => [(0, .slice a l'.length c), (1, .int .u64 n')]) (fun (a, c, l', n') w => OwV tU8 nU8 w B NoK (.slice a l'.length c) l' ∧ B ≤ w.heap.size ∧ n' ≤ n ∧ l' ++ wNum n' = l ++ wNum n ∧ Keep (fun b => (Value.slice a0 l.length c0).ownBlock = some b) w0 w ∧ (∀ b, (Value.slice a l'.length c).ownBlock = some b → (Value.slice a0 l.length c0).ownBlock = some b ∨ w0.heap.size ≤ b)) (fun (a, c, l', n') => n') (a0, c0, l, n) (by exact ⟨rfl, rfl, trivial⟩) (by exact ⟨hv, hB, Nat.le_refl _, rfl, Keep.refl _, fun b hb => .inl (hb)⟩) ?_
  rintro ⟨a, c, l', n'⟩ w1 j ⟨h1, h2, h3, h4, h5, h6⟩
  refine c_seq ?_
  refine c_seq ?_
  refine wp_reg (by decide +kernel) ?_
  refine l_v (v_move (t := .int _ _) rfl) ?_
  refine l_v (v_geq rfl rfl) ?_
  refine l_nil ?_
  refine n_then ?_
  refine c_cond rfl rfl (fun hc => ?_) (fun hc => ?_)
  · skip
    have hz1 := h5.size
    have hll := congrArg List.length h4
    simp only [List.length_append] at hll
    have hep := wNum_pos n'
    have hge : 128 ≤ n' := by have := dtrue hc; omega
    refine wp_skip ?_
    refine n_then ?_
    refine wp_block ?_
    refine wp_reg (by decide +kernel) ?_
    refine l_v (v_move (t := .slice _ _ _) rfl) ?_
    refine l_v (v_move (t := .int _ _) rfl) ?_
    refine l_v (v_rem rfl rfl (by decide) (by first | exact tm_nn (by omega) | rfl)) ?_
    refine l_v (v_conv (ds := .int .u64) (by kernel_rfl) (by kernel_rfl) rfl (by first | exact wr_u8 (by omega) (by omega) | rfl)) ?_
    refine l_v (v_bor rfl rfl (by first | exact or_128 (by omega) (by omega) | rfl)) ?_
    refine l_to (to_slice1 (t := tU8) (et := 5) (bytes := 1) (by kernel_rfl) (by decide) (show _ = (Value.int _ _) from rfl) (rep_u8 (F := NoK) (UInt8.ofNat (128 + n' % 128)) (by rw [u8n (by omega)]; omega)) ?_)
    rintro b2 w2 rfl hs e2 z2
    have zs_e2 := e2.size
    refine l_to (to_append (et := 5) (bytes := 1) (by kernel_rfl) (show _ = (Value.slice _ _ _) from rfl) (h1.ext e2) (show _ = (Value.slice _ _ _) from rfl) (hs.view) (flat_u8.to) (by first | omega | (simp; done) | (simp; omega)) (by simp only [maxLen]; first | omega | (simp; done) | (simp; omega)) (by omega) ?_)
    rintro a3 n3 c3 w3 o3 hn3 k3 b3 i3
    have zs_k3 := k3.size
    subst hn3
    refine l_v (v_move (t := .int _ _) rfl) ?_
    refine l_v (v_quo rfl rfl (by decide) (by first | exact qu_u64 (by omega) (by omega) (by decide) | rfl)) ?_
    refine l_v (v_assign (t := .slice _ _ _) rfl) ?_
    refine l_v (v_assign (t := .int _ _) rfl) ?_
    refine l_nil ?_
    refine n_blk ?_
    refine n_then ?_
    refine ⟨(a3, c3, l' ++ [UInt8.ofNat (128 + n' % 128)], n' / 128), _, rfl, by (repeat (first | exact Off.of_over _ _ _ | refine Off.upd ?_ (by decide) _)), ⟨by first | rfl | exact congrArg (Value.int _) (by omega) | (simp; done), by first | rfl | exact congrArg (Value.int _) (by omega) | (simp; done), trivial⟩, ?_, ?_⟩
    · have hz3 := k3.size
      refine ⟨o3, by omega, by omega, ?_, (h5.step e2 (fun _ _ x => x.elim)).step k3 (fun b hb h => (h6 b h).resolve_right (by omega)), fun b hb => (b3 b hb).elim (h6 b) (fun h => .inr (by have := h5.size; omega))⟩
      rw [List.append_assoc, ← h4, wNum_ge hge]; rfl
    · dsimp only; omega
  · skip
    have hep := wNum_pos n'
    have hlt : n' < 128 := by have := dfalse hc; omega
    have hll := congrArg List.length h4
    simp only [List.length_append] at hll
    have hee : l' ++ [UInt8.ofNat n'] = l ++ wNum n := by rw [← h4, wNum_lt hlt]
    refine wp_exit ?_
    refine x_then ?_
    refine x_then ?_
    refine x_hit ?_
    refine n_then ?_
    refine c_seq ?_
    refine wp_reg (by decide +kernel) ?_
    refine l_v (v_move (t := .slice _ _ _) rfl) ?_
    refine l_v (v_move (t := .int _ _) rfl) ?_
    refine l_v (v_conv (ds := .int .u64) (by kernel_rfl) (by kernel_rfl) rfl (by first | exact wr_u8 (by omega) (by omega) | rfl)) ?_
    refine l_to (to_slice1 (t := tU8) (et := 5) (bytes := 1) (by kernel_rfl) (by decide) (show _ = (Value.int _ _) from rfl) (rep_u8 (F := NoK) (UInt8.ofNat n') (by rw [u8n (by omega)])) ?_)
    rintro b2 w2 rfl hs e2 z2
    have zs_e2 := e2.size
    refine l_to (to_append (et := 5) (bytes := 1) (by kernel_rfl) (show _ = (Value.slice _ _ _) from rfl) (h1.ext e2) (show _ = (Value.slice _ _ _) from rfl) (hs.view) (flat_u8.to) (by first | omega | (simp; done) | (simp; omega)) (by simp only [maxLen]; first | omega | (simp; done) | (simp; omega)) (by omega) ?_)
    rintro a3 n3 c3 w3 o3 hn3 k3 b3 i3
    have zs_k3 := k3.size
    subst hn3
    refine l_v (v_assign (t := .slice _ _ _) rfl) ?_
    refine l_nil ?_
    refine n_then ?_
    refine wp_ret ?_
    refine ret1 rfl (by decide) ?_
    refine ⟨a3, c3, ?_, ?_, (h5.step e2 (fun _ _ x => x.elim)).step k3 (fun b hb h => (h6 b h).resolve_right (by omega)), fun b hb => (b3 b hb).elim (h6 b) (fun h => .inr (by have := h5.size; omega)), ?_⟩
    · show Value.slice a3 _ c3 = _; rw [List.length_append, ← hee, List.length_append]
    · rw [← hee]; exact o3
    · cases a3 with
      | some q => exact ⟨q, rfl⟩
      | none => exact absurd (i3.1 rfl).2 (by simp)
end Go.Proofs.Ythnpnniiejcnbaa
