/- A part of the proof: steps and lemmas for the walks through the given program. -/
import Derived.Test.YtogafjlbpodgjaaGreatGc
import Derived.Test.YtogafjlbpodgjaaGreatProg
namespace Go.Proofs.YtogafjlbpodgjaaGreat
open Go.Vc
set_option linter.unusedVariables false
set_option maxRecDepth 100000

abbrev nU8 : Nat := 5
abbrev nRd : Nat := 116
theorem closed_c {w : World} {b : Nat} {a : Option Addr} {n c : Nat} (h : Blk w b [.slice a n c] nRd) : CallsR Tryz.prog 84 #[.pointer (some ⟨b, 0, none⟩)] w (fun r w' => r = .bool a.isNone ∧ Ext w w') := by
  refine enter 12 Tryz.func84 rfl rfl (by simp) ?_
  refine c_seq (wp_reg zd (l_v (v_assign rfl) (l_nil (n_then (c_seq (wp_reg zd (l_v (zmP rfl) (l_v (v_peql (et := 116) zk rfl rfl) ?_))))))))
  refine l_v (zmB rfl) (l_g1 rfl rfl (fun hG => zmP rfl) (l_g1 rfl rfl (fun hG => v_nilCheck (gd hG rfl)) ?_))
  refine l_g1 rfl rfl (fun hG => v_fieldAddr (off := 0) (ft := 24) zk (gd hG rfl)) ?_
  refine l_g1 rfl rfl (fun hG => v_load zk (gd hG rfl) (h.pv 0 _ rfl)) ?_
  refine l_g1 rfl rfl (fun hG => v_sleneq (et := 5) zk (gd hG rfl) rfl) ?_
  refine l_v (v_or rfl rfl) ?_
  refine l_v (zaB rfl) (l_nil (n_then (c_ret (ret1 rfl zq ?_))))
  exact ⟨rfl, Keep.refl _⟩
theorem spell_c {w : World} {B : Nat} {a0 : Option Addr} {c0 : Nat} {l : List UInt8} {n : Nat} {x : Int} (hx : x = (n : Nat)) (hv : OwV tU8 nU8 w B NoK (.slice a0 l.length c0) l) (hB : B ≤ w.heap.size) (hn : n < 18446744073709551616) (hl : l.length + 10 ≤ 140737488355328) :
    CallsR Tryz.prog 69 #[.slice a0 l.length c0, .int .u64 x] w (fun r w' => ∃ a c, r = .slice a (l ++ wNum n).length c ∧ OwV tU8 nU8 w' B NoK r (l ++ wNum n) ∧ Keep (fun b => (Value.slice a0 l.length c0).ownBlock = some b) w w' ∧ (∀ b, r.ownBlock = some b → (Value.slice a0 l.length c0).ownBlock = some b ∨ w.heap.size ≤ b) ∧ ∃ q, a = some q) := by
  subst hx
  have hlen := wNum_len10 hn
  obtain ⟨w0, rfl⟩ : ∃ x, x = w := ⟨w, rfl⟩
  refine enter 21 Tryz.func69 rfl rfl (by simp) ?_
  refine c_seq (wp_reg zd (l_v (v_assign rfl) (l_nil (n_then (c_seq (c_block (c_loop (τ := Option Addr × Nat × List UInt8 × Nat) [0, 1, 5, 6, 7, 8, 9, 10, 11, 12, 13, 14, 15] (fun (a, c, l', n') => [(0, .slice a l'.length c), (1, .int .u64 n')]) (fun (a, c, l', n') w => OwV tU8 nU8 w B NoK (.slice a l'.length c) l' ∧ B ≤ w.heap.size ∧ n' ≤ n ∧ l' ++ wNum n' = l ++ wNum n ∧ Keep (fun b => (Value.slice a0 l.length c0).ownBlock = some b) w0 w ∧ (∀ b, (Value.slice a l'.length c).ownBlock = some b → (Value.slice a0 l.length c0).ownBlock = some b ∨ w0.heap.size ≤ b)) (fun (a, c, l', n') => n') (a0, c0, l, n) (by exact ⟨rfl, rfl, trivial⟩) (by exact ⟨hv, hB, Nat.le_refl _, rfl, Keep.refl _, fun b hb => .inl (hb)⟩) ?_)))))))
  rintro ⟨a, c, l', n'⟩ w1 j ⟨h1, h2, h3, h4, h5, h6⟩
  refine c_seq (c_seq (wp_reg zd (l_v (zmI rfl) (l_v (v_geq rfl rfl) ?_))))
  refine l_nil (n_then (c_cond rfl rfl (fun hc => ?_) (fun hc => ?_)))
  · skip
    have hz1 := h5.size
    have hll := congrArg List.length h4
    simp only [List.length_append] at hll
    have hep := wNum_pos n'
    have hge : 128 ≤ n' := by have := dtrue hc; omega
    refine c_skip (n_then (c_block (wp_reg zd (l_v (zmS rfl) (l_v (zmI rfl) (l_v (v_rem rfl rfl zq (by first | exact tm_nn zo | rfl)) ?_))))))
    refine l_v (v_conv (ds := .int .u64) zk zk rfl (by first | exact wr_u8 zo zo | rfl)) ?_
    refine l_v (v_bor rfl rfl (by first | exact or_128 zo zo | rfl)) ?_
    refine l_to (to_slice1 (t := tU8) (et := 5) (bytes := 1) zk zq (zvI rfl) (rep_u8 (F := NoK) (UInt8.ofNat (128 + n' % 128)) (by rw [u8n zo]; omega)) ?_)
    rintro b2 w2 rfl hs e2 z2
    have zs_e2 := e2.size
    refine l_to (to_append (et := 5) (bytes := 1) zk (zvS rfl) (h1.ext e2) (zvS rfl) (hs.view) (flat_u8.to) (by first | omega | (simp; done) | (simp; omega)) (by simp only [maxLen]; first | omega | (simp; done) | (simp; omega)) zo ?_)
    rintro a3 n3 c3 w3 o3 hn3 k3 b3 i3
    have zs_k3 := k3.size
    subst hn3
    refine l_v (zmI rfl) (l_v (v_quo rfl rfl zq (by first | exact qu_u64 zo zo zq | rfl)) ?_)
    refine l_v (zaS rfl) (l_v (zaI rfl) (l_nil (n_blk (n_then (⟨(a3, c3, l' ++ [UInt8.ofNat (128 + n' % 128)], n' / 128), _, rfl, by (repeat (first | exact Off.of_over _ _ _ | refine Off.upd ?_ zq _ | refine Off.overs ?_ zq _)), ⟨by first | rfl | exact congrArg (Value.int _) zo | (simp; done), by first | rfl | exact congrArg (Value.int _) zo | (simp; done), trivial⟩, ?_, ?_⟩)))))
    · have hz3 := k3.size
      refine ⟨o3, by omega, by omega, ?_, (h5.step e2 (fun _ _ x => x.elim)).step k3 (fun b hb h => (h6 b h).resolve_right zo), fun b hb => (b3 b hb).elim (h6 b) (fun h => .inr (by have := h5.size; omega))⟩
      rw [List.append_assoc, ← h4, wNum_ge hge]; rfl
    · dsimp only; omega
  · skip
    have hep := wNum_pos n'
    have hlt : n' < 128 := by have := dfalse hc; omega
    have hll := congrArg List.length h4
    simp only [List.length_append] at hll
    have hee : l' ++ [UInt8.ofNat n'] = l ++ wNum n := by rw [← h4, wNum_lt hlt]
    refine c_exit (x_then (x_then (x_hit (n_then (c_seq (wp_reg zd (l_v (zmS rfl) (l_v (zmI rfl) (l_v (v_conv (ds := .int .u64) zk zk rfl (by first | exact wr_u8 zo zo | rfl)) ?_)))))))))
    refine l_to (to_slice1 (t := tU8) (et := 5) (bytes := 1) zk zq (zvI rfl) (rep_u8 (F := NoK) (UInt8.ofNat n') (by rw [u8n zo])) ?_)
    rintro b2 w2 rfl hs e2 z2
    have zs_e2 := e2.size
    refine l_to (to_append (et := 5) (bytes := 1) zk (zvS rfl) (h1.ext e2) (zvS rfl) (hs.view) (flat_u8.to) (by first | omega | (simp; done) | (simp; omega)) (by simp only [maxLen]; first | omega | (simp; done) | (simp; omega)) zo ?_)
    rintro a3 n3 c3 w3 o3 hn3 k3 b3 i3
    have zs_k3 := k3.size
    subst hn3
    refine l_v (zaS rfl) (l_nil (n_then (c_ret (ret1 rfl zq ?_))))
    refine ⟨a3, c3, ?_, ?_, (h5.step e2 (fun _ _ x => x.elim)).step k3 (fun b hb h => (h6 b h).resolve_right zo), fun b hb => (b3 b hb).elim (h6 b) (fun h => .inr (by have := h5.size; omega)), ?_⟩
    · show Value.slice a3 _ c3 = _; rw [List.length_append, ← hee, List.length_append]
    · rw [← hee]; exact o3
    · cases a3 with
      | some q => exact ⟨q, rfl⟩
      | none => exact absurd (i3.1 rfl).2 (by simp)
end Go.Proofs.YtogafjlbpodgjaaGreat

namespace Go.Proofs.YtogafjlbpodgjaaGreat
open Go.Vc
set_option linter.unusedVariables false
set_option maxRecDepth 100000

theorem Number_c {w : World} {n : Nat} (hn : n < 18446744073709551616) : CallsR Tryz.prog 59 #[.int .u64 n] w (fun r w' => OwV tU8 nU8 w' w.heap.size NoK r (wNum n) ∧ (∃ q c, r = .slice (some q) (wNum n).length c) ∧ Ext w w') := by
  refine enter 5 Tryz.func59 rfl rfl (by simp) ?_
  refine c_seq (wp_reg zd (l_v (v_assign rfl) (l_nil (n_then (c_seq (wp_reg zd (l_v (zmI rfl) (l_to (to_f2 zk (zvS rfl) (zvI rfl) (CallsR.mono (spell_c (l := []) (n := n) rfl (OwV.nil _ _ _ _ _) (Nat.le_refl _) hn (by simp)) ?_))))))))))
  rintro _ w1 ⟨a, c, rfl, o1, k1, b1, q, rfl⟩
  have zs_k1 := k1.size
  have k2 : Ext w w1 := k1.mono fun b _ h => by simp [Value.ownBlock] at h
  refine l_v (zaS rfl) (l_nil (n_then (c_ret (ret1 rfl zq ?_))))
  exact ⟨o1, ⟨q, c, rfl⟩, k2⟩

theorem Bytes_c {w : World} {v : Value} {F : Nat → Prop} {l : List UInt8} (hv : Bv w F v l) (hl : l.length ≤ 140737488355300) : CallsR Tryz.prog 25 #[v] w (fun r w' => OwV tU8 nU8 w' w.heap.size NoK r (wBytes l) ∧ (∃ q c, r = .slice (some q) (wBytes l).length c) ∧ Ext w w') := by
  obtain ⟨a, c, rfl⟩ := hv.shape
  have hw := wNum_len10 (n := l.length) zo
  refine enter 13 Tryz.func25 rfl rfl (by simp) ?_
  refine c_seq (wp_reg zd (l_v (v_assign rfl) (l_nil (n_then (c_seq (wp_reg zd (l_v (zmS rfl) (l_v (v_len (et := 5) zk rfl) ?_))))))))
  refine l_v (v_add rfl rfl (by first | exact wr_i64 zo zo | rfl)) ?_
  refine l_to (to_make (et := 5) (bytes := 1) zk (t := tU8) (z := 0) (n := 0) (m := l.length + 10) (zv := .int .u8 0) rfl rfl (.inr rfl) zo (by simp only [maxLen]; omega) (by unfold kZero; kernel_rfl) rfl rfl (fun _ _ => rfl) ?_)
  rintro b1 c1 w1 rfl o1 e1 z1
  have zs_e1 := e1.size
  refine l_v (zmS rfl) (l_v (v_len (et := 5) zk rfl) ?_)
  refine l_v (v_conv (ds := .int .i64) zk zk rfl (by first | exact wr_u64 zo zo | rfl)) ?_
  refine l_to (to_f2 zk (zvS rfl) (zvI rfl) (CallsR.mono (spell_c (l := []) (n := l.length) rfl o1 zo zo (by simp)) ?_))
  rintro _ w2 ⟨a2, c2, rfl, o2, k2, b2, q2, rfl⟩
  have zs_k2 := k2.size
  have kk : Ext w w2 := e1.step k2 fun b hb h => by simp [Value.ownBlock] at h; omega
  refine l_v (zmS rfl) (l_to (to_append (et := 5) (bytes := 1) zk (zvS rfl) o2 (zvS rfl) (hv.ext kk) (flat_u8.to) (by first | omega | (simp; done) | (simp; omega)) (by simp only [maxLen]; first | omega | (simp; done) | (simp; omega)) zo ?_))
  rintro a3 n3 c3 w3 o3 hn3 k3 b3 i3
  have zs_k3 := k3.size
  subst hn3
  have kk3 : Ext w w3 := kk.step k3 fun b hb h => by have := (o2.own_lt h).1; omega
  refine l_v (zaS rfl) (l_nil (n_then (c_ret (ret1 rfl zq ?_))))
  refine ⟨o3, ?_, kk3⟩
  cases a3 with
  | some q => exact ⟨q, c3, rfl⟩
  | none => exact absurd (i3.1 rfl).1 (by simp)
end Go.Proofs.YtogafjlbpodgjaaGreat

namespace Go.Proofs.YtogafjlbpodgjaaGreat
open Go.Vc
set_option linter.unusedVariables false
set_option maxRecDepth 100000

theorem Flag_c {w : World} {is : Bool} : CallsR Tryz.prog 62 #[.bool is] w (fun r w' => OwV tU8 nU8 w' w.heap.size NoK r (wFlag is) ∧ (∃ q c, r = .slice (some q) (wFlag is).length c) ∧ Ext w w') := by
  refine enter 12 Tryz.func62 rfl rfl (by simp) ?_
  refine c_seq (wp_reg zd (l_v (v_assign rfl) (l_nil (n_then (c_seq (wp_reg zd (l_to (to_make (et := 5) (bytes := 1) zk (t := tU8) (z := 0) (n := 1) (m := 1) (zv := .int .u8 0) rfl rfl (.inl rfl) zo (by simp only [maxLen]; omega) (by unfold kZero; kernel_rfl) rfl rfl (fun _ _ => rfl) ?_))))))))
  rintro b1 c1 w1 rfl o1 e1 z1
  have zs_e1 := e1.size
  refine l_v (zaS rfl) (l_nil (n_then (c_seq (c_seq (wp_reg zd (l_v (zmB rfl) (l_nil (n_then (c_cond rfl rfl (fun hc => ?_) (fun hc => ?_))))))))))
  · skip
    refine wp_reg zd (l_v (zmS rfl) (l_v (v_indexAddr (et := 5) (sz := 1) (k := 0) zk zk rfl rfl (by first | rfl | omega) zo) ?_))
    refine l_v (v_load zk rfl (o1.cell1 (k := 0) (xx := 0) rfl)) ?_
    refine l_v (v_add (t := 1) rfl rfl zq) ?_
    refine l_v (v_indexAddr (et := 5) (sz := 1) (k := 0) zk zk rfl rfl (by first | rfl | omega) zo) ?_
    refine l_to (to_storeO (k := 0) (off := 0) rfl (by simp [add_lit]) (by first | decide | exact (of_decide_eq_true rfl : 0 < 2)) (zvI rfl) rfl zk o1 (x0 := 0) (x1 := 1) rfl (fun cs h => by cases h; exact (rfl : [Value.int .u8 1] = [Value.int .u8 1])) ?_)
    rintro w2 o2 k2 z2
    have zs_k2 := k2.size
    refine l_nil (n_then (c_seq (wp_reg zd (l_v (zmS rfl) (l_v (zaS rfl) (l_nil (n_then (c_ret (ret1 rfl zq ?_)))))))))
    refine ⟨?_, ⟨_, _, rfl⟩, e1.step k2 (fun b hb h => by omega)⟩
    subst hc; exact o2
  · skip
    refine c_skip (n_then (c_seq (wp_reg zd (l_v (zmS rfl) (l_v (zaS rfl) (l_nil (n_then (c_ret (ret1 rfl zq ?_)))))))))
    refine ⟨?_, ⟨_, _, rfl⟩, e1⟩
    subst hc; exact o1

theorem sum_take {ls : List (List UInt8)} {k : Nat} {x : List UInt8} (h : ls[k]? = some x) : (ls.take (k + 1)).flatten = (ls.take k).flatten ++ x := by
  rw [List.take_add_one, h]; simp
theorem len_take_le (ls : List (List UInt8)) (k : Nat) : (ls.take k).flatten.length ≤ ls.flatten.length := by
  have : ls.flatten = (ls.take k).flatten ++ (ls.drop k).flatten := by rw [← List.flatten_append, List.take_append_drop]
  rw [this, List.length_append]; omega

theorem Join_c {w : World} {v : Value} {F : Nat → Prop} {ls : List (List UInt8)} (hv : SlV (tSl tU8) w F v ls) (hl : ls.flatten.length ≤ 140737488355300) : CallsR Tryz.prog 19 #[v] w (fun r w' => OwV tU8 nU8 w' w.heap.size NoK r ls.flatten ∧ (∃ q c, r = .slice (some q) ls.flatten.length c) ∧ Ext w w') := by
  obtain ⟨a, c, rfl⟩ := hv.shape
  have hmx := hv.max
  simp only [maxLen] at hmx
  obtain ⟨w0, rfl⟩ : ∃ x, x = w := ⟨w, rfl⟩
  refine enter 33 Tryz.func19 rfl rfl (by simp) ?_
  refine c_seq (wp_reg zd (l_v (v_assign rfl) (l_nil (n_then (c_seq (wp_reg zd (l_v (v_assign rfl) (l_nil (n_then ?_)))))))))
  refine c_seq (c_seq (wp_reg zd (l_v (zmS rfl) (l_v (v_len (et := 24) zk rfl) ?_))))
  refine l_v (v_move rfl) (l_nil (n_then (c_block (c_loop (τ := Nat) [3, 5, 11, 12, 13, 14, 15, 16, 17, 18, 19] (fun k => [(3, .int .i64 (ls.take k).flatten.length), (11, .int .i64 k)]) (fun k w => w = w0 ∧ k ≤ ls.length) (fun k => ls.length - k) 0 (by exact ⟨rfl, rfl, trivial⟩) (by exact ⟨rfl, Nat.zero_le _⟩) ?_))))
  rintro k w1 j ⟨rfl, h1⟩
  refine c_seq (wp_reg zd (l_v (v_lss rfl rfl) ?_))
  refine l_nil (n_then (c_seq (c_cond rfl rfl (fun hc => ?_) (fun hc => ?_))))
  · skip
    have hc := dtrue hc
    obtain ⟨x, hx⟩ : ∃ x, ls[k]? = some x := ⟨ls[k]'zo, by simp [show k < ls.length by omega]⟩
    have hs := sum_take hx
    have hs2 := len_take_le ls (k + 1)
    have hs3 := congrArg List.length hs
    rw [List.length_append] at hs3
    refine c_skip (n_then (c_seq (c_block (c_seq (wp_reg zd (l_to (to_index (et := 24) zk zk (zvS rfl) hv (zvI rfl) rfl hx ?_)))))))
    rintro q cs hF hp ⟨v1, rfl, hv1⟩
    obtain ⟨a1, c1, rfl⟩ := hv1.shape
    refine l_v (v_load zk rfl (pv_1 hp)) ?_
    refine l_v (zaS rfl) (l_nil (n_then (wp_reg zd (l_v (zmI rfl) (l_v (zmS rfl) (l_v (v_len (et := 5) zk rfl) ?_))))))
    refine l_v (v_add rfl rfl (by first | exact wr_i64 zo zo | rfl)) ?_
    refine l_v (zaI rfl) (l_nil (n_blk (n_then (wp_reg zd (l_v (v_add rfl rfl (by first | exact wr_i64 zo zo | rfl)) ?_)))))
    refine l_v (zmI rfl) (l_nil (n_then (⟨k + 1, _, rfl, by (repeat (first | exact Off.of_over _ _ _ | refine Off.upd ?_ zq _ | refine Off.overs ?_ zq _)), ⟨by first | rfl | exact congrArg (Value.int _) zo | (simp; done), by first | rfl | exact congrArg (Value.int _) zo | (simp; done), trivial⟩, ?_, ?_⟩)))
    · exact ⟨rfl, by omega⟩
    · dsimp only; omega
  · skip
    have hc := dfalse hc
    obtain rfl : k = ls.length := by omega
    have hfl : (ls.take ls.length).flatten = ls.flatten := by rw [List.take_length]
    refine c_exit (x_then (x_then (x_hit (n_then (c_seq (wp_reg zd (l_v (zmI rfl) (l_to (to_make (et := 5) (bytes := 1) zk (t := tU8) (z := 0) (n := 0) (m := (ls.take ls.length).flatten.length) (zv := .int .u8 0) rfl rfl (.inr rfl) (by rw [hfl]; omega) (by rw [hfl]; simp only [maxLen]; omega) (by unfold kZero; kernel_rfl) rfl rfl (fun _ _ => rfl) ?_)))))))))
    rintro b1 c1 w2 rfl o1 e1 z1
    have zs_e1 := e1.size
    refine l_v (zaS rfl) (l_nil (n_then (c_seq (c_seq (wp_reg zd (l_v (zmS rfl) (l_v (v_len (et := 24) zk rfl) ?_)))))))
    refine l_v (v_move rfl) (l_nil (n_then (c_block (c_loop (τ := Addr × Nat × Nat) [6, 8, 24, 25, 26, 27, 28, 29, 30, 31] (fun (a2, c2, k) => [(6, .slice (some a2) (ls.take k).flatten.length c2), (24, .int .i64 k)]) (fun (a2, c2, k) w => OwV tU8 nU8 w w1.heap.size NoK (.slice (some a2) (ls.take k).flatten.length c2) (ls.take k).flatten ∧ Ext w1 w ∧ k ≤ ls.length) (fun (a2, c2, k) => ls.length - k) (⟨w1.heap.size, 0, none⟩, c1, 0) (by exact ⟨rfl, rfl, trivial⟩) (by exact ⟨o1, e1, Nat.zero_le _⟩) ?_))))
    rintro ⟨a2, c2, k⟩ w3 j2 ⟨o2, e2, h2⟩
    refine c_seq (wp_reg zd (l_v (v_lss rfl rfl) ?_))
    refine l_nil (n_then (c_seq (c_cond rfl rfl (fun hc2 => ?_) (fun hc2 => ?_))))
    · skip
      have hc2 := dtrue hc2
      have hz2 := e2.size
      obtain ⟨x, hx⟩ : ∃ x, ls[k]? = some x := ⟨ls[k]'zo, by simp [show k < ls.length by omega]⟩
      have hs := sum_take hx
      have hs2 := len_take_le ls (k + 1)
      have hs3 := congrArg List.length hs
      rw [List.length_append] at hs3
      refine c_skip (n_then (c_seq (c_block (c_seq (wp_reg zd (l_to (to_index (et := 24) zk zk (zvS rfl) (hv.ext e2) (zvI rfl) rfl hx ?_)))))))
      rintro q cs hF hp ⟨v1, rfl, hv1⟩
      obtain ⟨a1, c1, rfl⟩ := hv1.shape
      refine l_v (v_load zk rfl (pv_1 hp)) ?_
      refine l_v (zaS rfl) (l_nil (n_then (wp_reg zd (l_v (zmS rfl) (l_v (zmS rfl) (l_to (to_append (et := 5) (bytes := 1) zk (zvS rfl) o2 (zvS rfl) hv1 (flat_u8.to) (by first | omega | (simp; done) | (simp; omega)) (by simp only [maxLen]; first | omega | (simp; done) | (simp; omega)) zo ?_)))))))
      rintro a3 n3 c3 w4 o3 hn3 k3 b3 i3
      have zs_k3 := k3.size
      subst hn3
      have e3 : Ext w1 w4 := e2.step k3 fun b hb h => by have := (o2.own_lt h).1; omega
      rw [← hs] at o3 ⊢
      obtain ⟨q3, rfl⟩ : ∃ q, a3 = some q := by
        cases a3 with
        | some q => exact ⟨q, rfl⟩
        | none => exact absurd (i3.1 rfl).1 (by simp)
      refine l_v (zaS rfl) (l_nil (n_blk (n_then (wp_reg zd (l_v (v_add rfl rfl (by first | exact wr_i64 zo zo | rfl)) ?_)))))
      refine l_v (zmI rfl) (l_nil (n_then (⟨(q3, c3, k + 1), _, rfl, by (repeat (first | exact Off.of_over _ _ _ | refine Off.upd ?_ zq _ | refine Off.overs ?_ zq _)), ⟨by first | rfl | exact congrArg (Value.int _) zo | (simp; done), by first | rfl | exact congrArg (Value.int _) zo | (simp; done), trivial⟩, ?_, ?_⟩)))
      · exact ⟨o3, e3, by omega⟩
      · dsimp only; omega
    · skip
      have hc2 := dfalse hc2
      obtain rfl : k = ls.length := by omega
      refine c_exit (x_then (x_then (x_hit (n_then (c_seq (wp_reg zd (l_v (zmS rfl) (l_v (zaS rfl) (l_nil ?_)))))))))
      refine n_then (c_ret (ret1 rfl zq ?_))
      rw [hfl] at o2
      exact ⟨by show OwV _ _ _ _ _ (Value.slice (some a2) (ls.take ls.length).flatten.length c2) _; rw [hfl]; exact o2, ⟨a2, c2, by show Value.slice (some a2) (ls.take ls.length).flatten.length c2 = _; rw [hfl]⟩, e2⟩

theorem Open_c {w : World} {v : Value} {F : Nat → Prop} {l : List UInt8} (hv : Bv w F v l) (hl : l.length ≤ 140737488355300) : CallsR Tryz.prog 34 #[v] w (fun r w' => ∃ b, r = .pointer (some ⟨b, 0, none⟩) ∧ Rd nRd w' b (fun k => w.heap.size ≤ k ∧ k < b) l ∧ w.heap.size ≤ b ∧ Ext w w' ∧ b < w'.heap.size) := by
  obtain ⟨a, c, rfl⟩ := hv.shape
  refine enter 8 Tryz.func34 rfl rfl (by simp) ?_
  refine c_seq (wp_reg zd (l_v (v_assign rfl) (l_nil (n_then (c_seq (wp_reg zd (l_to (to_slice0 (t := tU8) (et := 5) (bytes := 1) zk ?_))))))))
  rintro b1 w1 rfl o1 e1 z1
  have zs_e1 := e1.size
  refine l_v (zmS rfl) (l_to (to_append (et := 5) (bytes := 1) zk (zvS rfl) o1 (zvS rfl) (hv.ext e1) (flat_u8.to) (by first | omega | (simp; done) | (simp; omega)) (by simp only [maxLen]; first | omega | (simp; done) | (simp; omega)) zo ?_))
  rintro a2 n2 c2 w2 o2 hn2 k2 b2 i2
  have zs_k2 := k2.size
  subst hn2
  have e2 : Ext w w2 := e1.step k2 fun b hb h => by simp [Value.ownBlock] at h; omega
  obtain ⟨q2, rfl⟩ : ∃ q, a2 = some q := by
    cases a2 with
    | some q => exact ⟨q, rfl⟩
    | none => exact absurd (i2.1 rfl).1 (by simp)
  refine l_v (v_build (pl := [(0, 1)]) (z := .agg #[.slice none 0 0]) (zl := [.slice none 0 0]) zk (by unfold kZero; kernel_rfl) rfl rfl (cells := [_]) rfl) ?_
  refine l_to (to_box (zvA rfl) ?_)
  rintro b3 w3 rfl hb3 e3 z3
  have zs_e3 := e3.size
  refine l_v (zaP rfl) (l_nil (n_then (c_ret (ret1 rfl zq ?_))))
  refine ⟨_, rfl, ⟨q2, c2, hb3, (o2.view.mono fun b hb h => ?_).ext e3⟩, by omega, e2.trans e3, by omega⟩
  exact ⟨h.resolve_right (fun x => x), hb⟩

theorem End_c {w : World} {b : Nat} {F : Nat → Prop} {l : List UInt8} (hr : Rd nRd w b F l) : CallsR Tryz.prog 41 #[.pointer (some ⟨b, 0, none⟩)] w (fun r w' => r = .int .i64 (if l = [] then 0 else 4) ∧ Ext w w') := by
  obtain ⟨a, c, hb, hv⟩ := hr
  refine enter 11 Tryz.func41 rfl rfl (by simp) ?_
  refine c_seq (wp_reg zd (l_v (v_assign rfl) (l_nil (n_then (c_seq (c_seq (wp_reg zd (l_v (zmP rfl) (l_to (to_f1 zk (zvP rfl) (CallsR.mono (closed_c hb) ?_)))))))))))
  rintro _ w1 ⟨rfl, e1⟩
  have zs_e1 := e1.size
  refine l_nil (n_then (c_cond rfl rfl (fun hc => ?_) (fun hc => ?_)))
  · skip
    cases hc
  · skip
    refine c_skip (n_then (c_seq (c_seq (wp_reg zd (l_v (zmP rfl) (l_v (v_nilCheck rfl) ?_))))))
    refine l_v (v_fieldAddr (off := 0) (ft := 24) zk rfl) (l_v (v_load zk rfl ((hb.ext e1).pv 0 _ rfl)) ?_)
    refine l_v (v_len (et := 5) zk rfl) ?_
    refine l_v (v_neq rfl rfl) ?_
    refine l_nil (n_then (c_cond rfl rfl (fun hc2 => ?_) (fun hc2 => ?_)))
    · skip
      refine c_seq (wp_reg zd (l_v (v_assign rfl) (l_nil (n_then (c_ret (r_then (ret1 rfl zq ?_)))))))
      refine ⟨?_, e1⟩
      have : ¬ l = [] := by rintro rfl; simp at hc2
      rw [if_neg this]; rfl
    · skip
      refine c_skip (n_then (c_seq (wp_reg zd (l_v (v_assign rfl) (l_nil (n_then (c_ret (ret1 rfl zq ?_))))))))
      refine ⟨?_, e1⟩
      have : l = [] := by cases l with
      | nil => rfl
      | cons x l => simp at hc2; omega
      rw [if_pos this]; rfl
end Go.Proofs.YtogafjlbpodgjaaGreat

namespace Go.Proofs.YtogafjlbpodgjaaGreat
open Go.Vc
set_option linter.unusedVariables false
set_option maxRecDepth 100000

/-- what 'form' answers -/
def formV (l : List UInt8) : Value := match rdNum l with
  | some (n, r) => .tuple #[.int .u64 n, .int .i64 ((l.length - r.length : Nat) : Int)]
  | none => .tuple #[.int .u64 0, .int .i64 0]

theorem rdGo_drop {l : List UInt8} {i : Nat} {c : UInt8} (h : l[i]? = some c) : rdGo i (l.drop i) = if (i = 9 ∧ 1 < c.toNat) ∨ (0 < i ∧ c.toNat = 0) then none else if c.toNat < 128 then some (c.toNat, l.drop (i + 1)) else
    match rdGo (i + 1) (l.drop (i + 1)) with
    | some (n, r') => some (c.toNat % 128 + 128 * n, r')
    | none => none := by
  have hlt := (List.getElem?_eq_some_iff.1 h).1
  have e : l.drop i = c :: l.drop (i + 1) := by
    rw [List.drop_eq_getElem_cons hlt]
    congr 1
    exact (List.getElem?_eq_some_iff.1 h).2
  rw [e]; rfl

theorem form_c {w : World} {v : Value} {F : Nat → Prop} {l : List UInt8} (hv : Bv w F v l) : CallsR Tryz.prog 103 #[v] w (fun r w' => r = formV l ∧ Ext w w') := by
  obtain ⟨a, c, rfl⟩ := hv.shape
  have hmx := hv.max
  simp only [maxLen] at hmx
  obtain ⟨w0, rfl⟩ : ∃ x, x = w := ⟨w, rfl⟩
  refine enter 49 Tryz.func103 rfl rfl (by simp) ?_
  refine c_seq (wp_reg zd (l_v (v_assign rfl) (l_v (v_assign rfl) (l_nil (n_then (c_scope (c_seq (wp_reg zd (l_v (v_assign rfl) ?_)))))))))
  refine l_nil (n_then (c_seq (c_label (n_then (c_seq (c_seq (wp_reg zd (l_v (zmS rfl) (l_v (v_len (et := 5) zk rfl) ?_)))))))))
  refine l_v (v_move rfl) (l_nil (n_then (c_block (c_loop (τ := Nat × Nat) [2, 3, 4, 5, 6, 7, 10, 11, 12, 13, 14, 15, 16, 17, 18, 19, 20, 21, 22, 23, 24, 25, 26, 27, 28, 29, 30, 31, 32, 33, 34, 35, 36, 37, 38, 39, 40, 41, 42, 43, 44, 45, 46, 47, 48] (fun (i, n) => [(2, .int .u64 n), (4, .int .u64 ((128 ^ i : Nat) : Int)), (10, .int .i64 i)]) (fun (i, n) w => w = w0 ∧ i ≤ l.length ∧ i ≤ 9 ∧ n < 128 ^ i ∧ rdNum l = (rdGo i (l.drop i)).map (fun p => (n + 128 ^ i * p.1, p.2))) (fun (i, n) => l.length - i) (0, 0) (by exact ⟨rfl, rfl, rfl, trivial⟩) (by exact ⟨rfl, Nat.zero_le _, by omega, by simp, by simp [rdNum]⟩) ?_))))
  rintro ⟨i, n⟩ w1 j ⟨rfl, h1, h2, h3, h4⟩
  refine c_seq (wp_reg zd (l_v (v_lss rfl rfl) ?_))
  refine l_nil (n_then (c_seq (c_cond rfl rfl (fun hc => ?_) (fun hc => ?_))))
  · skip
    have hc := dtrue hc
    obtain ⟨x, hx⟩ : ∃ x, l[i]? = some x := ⟨l[i]'zo, by simp [show i < l.length by omega]⟩
    have hd := rdGo_drop hx
    have hp : 128 ^ i ≤ 128 ^ 9 := Nat.pow_le_pow_right zo h2
    have hx8 : x.toNat < 256 := x.toNat_lt
    have hm : x.toNat % 128 * 128 ^ i + 128 ^ i ≤ 128 * 128 ^ i := by rw [← Nat.succ_mul]; exact Nat.mul_le_mul_right _ zo
    refine c_skip (n_then (c_seq (c_block (c_seq (wp_reg zd (l_v (zmI rfl) (l_to (to_index (et := 5) zk zk (zvS rfl) hv (zvI rfl) rfl hx ?_))))))))
    rintro q cs hF hq hr
    refine l_v (v_load zk rfl (pv_u8 hq hr)) ?_
    refine l_v (zaI rfl) (l_v (zaI rfl) (l_nil (n_then (c_seq (wp_reg zd (l_v (zmI rfl) (l_v (v_rem rfl rfl zq (by first | exact tm_nn zo | rfl)) ?_)))))))
    refine l_v (v_conv (ds := .int .u8) zk zk rfl (by first | exact wr_u64 zo zo | rfl)) ?_
    refine l_v (zaI rfl) (l_nil (n_then (c_seq (c_block (c_seq (c_seq (wp_reg zd (l_v (zmI rfl) (l_v (v_eql rfl rfl) ?_)))))))))
    refine l_v (zmB rfl) (l_g1 rfl rfl (fun hG => zmI rfl) (l_g1 rfl rfl (fun hG => v_gtr (gd hG rfl) rfl) ?_))
    refine l_v (v_and rfl rfl) ?_
    refine l_v (zaB rfl) (l_nil (n_then (c_cond rfl rfl (fun hb => ?_) (fun hb => ?_))))
    · skip
      refine c_skip (n_then (c_cond rfl rfl (fun hb2 => ?_) (fun hb2 => ?_)))
      · skip
        refine c_exit (x_miss zq (x_then (x_miss zq (x_then (x_then (x_hit (n_then (c_seq (wp_reg zd ?_)))))))))
        refine l_v (v_assign rfl) (l_v (v_assign rfl) (l_nil (n_then (c_ret (r_scp (ret2 rfl zq zq ?_))))))
        refine ⟨?_, Keep.refl _⟩
        simp at hb
        rw [hd, if_pos (.inl zo)] at h4
        show _ = formV l
        rw [formV, h4]; rfl
      · skip
        rw [hb] at hb2; cases hb2
    · skip
      refine wp_reg zd (l_v (zmI rfl) (l_v (v_gtr rfl rfl) ?_))
      refine l_v (zmB rfl) (l_g1 rfl rfl (fun hG => zmI rfl) (l_g1 rfl rfl (fun hG => v_eql (gd hG rfl) rfl) ?_))
      refine l_v (v_and rfl rfl) ?_
      refine l_v (zaB rfl) (l_nil (n_then (c_cond rfl rfl (fun hb2 => ?_) (fun hb2 => ?_))))
      · skip
        refine c_exit (x_miss zq (x_then (x_miss zq (x_then (x_then (x_hit (n_then (c_seq (wp_reg zd ?_)))))))))
        refine l_v (v_assign rfl) (l_v (v_assign rfl) (l_nil (n_then (c_ret (r_scp (ret2 rfl zq zq ?_))))))
        refine ⟨?_, Keep.refl _⟩
        simp at hb2
        rw [hd, if_pos (.inr zo)] at h4
        show _ = formV l
        rw [formV, h4]; rfl
      · skip
        have hb : ¬ (i = 9 ∧ 1 < x.toNat) := by simp at hb; omega
        have hb2 : ¬ (0 < i ∧ x.toNat = 0) := by simp at hb2; omega
        rw [if_neg zo] at hd
        refine c_seq (wp_reg zd (l_v (zmI rfl) (l_v (v_lss rfl rfl) ?_)))
        refine l_v (zaB rfl) (l_nil (n_then (c_cond rfl rfl (fun hb3 => ?_) (fun hb3 => ?_))))
        · skip
          have hb3 : x.toNat < 128 := by simp at hb3; omega
          rw [if_pos hb3] at hd
          rw [hd] at h4
          have hlt : n + 128 ^ i * x.toNat < 18446744073709551616 := rdNum_lt h4
          have hxm : x.toNat % 128 = x.toNat := Nat.mod_eq_of_lt hb3
          refine c_seq (wp_reg zd (l_v (zmI rfl) (l_v (zmI rfl) (l_v (zmI rfl) (l_v (v_mul (t := ((x.toNat % 128 * 128 ^ i : Nat) : Int)) rfl rfl ((by rw [show ((x.toNat : Int) % 128) * ((128 ^ i : Nat) : Int) = ((x.toNat % 128 * 128 ^ i : Nat) : Int) by push_cast; rfl]; have hlt' := hlt; rw [Nat.mul_comm] at hlt'; exact wr_u64 zo (by rw [hxm]; omega)))) ?_)))))
          refine l_v (v_add (t := ((n + 128 ^ i * x.toNat : Nat) : Int)) rfl rfl ((by rw [hxm, Nat.mul_comm]; rw [show ((n : Nat) : Int) + ((128 ^ i * x.toNat : Nat) : Int) = ((n + 128 ^ i * x.toNat : Nat) : Int) by push_cast; rfl]; exact wr_u64 zo zo))) ?_
          refine l_v (zmI rfl) (l_v (v_add rfl rfl (by first | exact wr_i64 zo zo | rfl)) ?_)
          refine l_v (zaI rfl) (l_v (zaI rfl) (l_nil (n_then (c_ret (r_blk (r_then (r_blk (r_then (r_then ?_)))))))))
          refine r_blk (r_then (r_scp (ret2 rfl zq zq ?_)))
          refine ⟨?_, Keep.refl _⟩
          show _ = formV l
          rw [formV, h4]
          show Value.tuple #[Value.int .u64 _, Value.int .i64 _] = Value.tuple #[_, _]
          have hdl : (l.drop (i + 1)).length = l.length - (i + 1) := List.length_drop
          rw [hdl, show l.length - (l.length - (i + 1)) = i + 1 by omega]
          rfl
        · skip
          have hb3 : ¬ x.toNat < 128 := by simp at hb3; omega
          have hi8 : i ≤ 8 := by omega
          have hp8 : 128 ^ i ≤ 128 ^ 8 := Nat.pow_le_pow_right zo hi8
          rw [if_neg hb3] at hd
          refine c_skip (n_blk (n_then (c_seq (wp_reg zd (l_v (zmI rfl) (l_v (zmI rfl) (l_v (zmI rfl) (l_v (v_mul (t := ((x.toNat % 128 * 128 ^ i : Nat) : Int)) rfl rfl ((by rw [show ((x.toNat : Int) % 128) * ((128 ^ i : Nat) : Int) = ((x.toNat % 128 * 128 ^ i : Nat) : Int) by push_cast; rfl]; exact wr_u64 zo zo))) ?_))))))))
          refine l_v (v_add rfl rfl (by first | exact wr_u64 zo zo | rfl)) ?_
          refine l_v (zaI rfl) (l_nil (n_then (wp_reg zd (l_v (zmI rfl) (l_v (v_mul rfl rfl (by first | exact wr_u64 zo zo | rfl)) ?_)))))
          refine l_v (zaI rfl) (l_nil (n_blk (n_then (wp_reg zd (l_v (v_add rfl rfl (by first | exact wr_i64 zo zo | rfl)) ?_)))))
          refine l_v (zmI rfl) (l_nil (n_then (⟨(i + 1, n + x.toNat % 128 * 128 ^ i), _, rfl, by (repeat (first | exact Off.of_over _ _ _ | refine Off.upd ?_ zq _ | refine Off.overs ?_ zq _)), ⟨by first | rfl | exact congrArg (Value.int _) zo | (simp; done) | (exact congrArg (Value.int _) (by rw [Nat.pow_succ]; omega)), by first | rfl | exact congrArg (Value.int _) zo | (simp; done) | (exact congrArg (Value.int _) (by rw [Nat.pow_succ]; omega)), by first | rfl | exact congrArg (Value.int _) zo | (simp; done) | (exact congrArg (Value.int _) (by rw [Nat.pow_succ]; omega)), trivial⟩, ?_, ?_⟩)))
          · refine ⟨rfl, by omega, by omega, by rw [Nat.pow_succ]; omega, ?_⟩
            rw [h4, hd]
            cases rdGo (i + 1) (l.drop (i + 1)) with
            | none => rfl
            | some p =>
              simp only [Option.map_some]
              congr 2
              rw [Nat.pow_succ, Nat.mul_add, Nat.mul_comm (128 ^ i) (x.toNat % 128), Nat.mul_assoc, Nat.add_assoc]
          · dsimp only; omega
  · skip
    refine c_exit (x_then (x_then (x_hit (n_then (c_seq (wp_reg zd (l_v (v_assign rfl) (l_v (v_assign rfl) (l_nil ?_)))))))))
    refine n_then (c_ret (r_scp (ret2 rfl zq zq ?_)))
    refine ⟨?_, Keep.refl _⟩
    have hc := dfalse hc
    have he : l.drop i = [] := List.drop_eq_nil_of_le zo
    rw [he] at h4
    show _ = formV l
    rw [formV, h4]; rfl
end Go.Proofs.YtogafjlbpodgjaaGreat

namespace Go.Proofs.YtogafjlbpodgjaaGreat
open Go.Vc
set_option linter.unusedVariables false
set_option maxRecDepth 100000

/-- a reading's answer: the value and what is left, or an error -/
def numV (l : List UInt8) : Value := match rdNum l with
  | some (n, _) => .tuple #[.int .u64 n, .int .i64 0]
  | none => .tuple #[.int .u64 0, .int .i64 4]
def rest (l : List UInt8) : List UInt8 := match rdNum l with
  | some (_, r) => r
  | none => l

theorem rNumber_c {w : World} {b : Nat} {F : Nat → Prop} {l : List UInt8} (hr : Rd nRd w b F l) (hF : ¬ F b) : CallsR Tryz.prog 78 #[.pointer (some ⟨b, 0, none⟩)] w (fun r w' => r = numV l ∧ Rd nRd w' b F (rest l) ∧ Keep (fun k => k = b) w w') := by
  obtain ⟨a, c, hb, hv⟩ := hr
  rcases hd : rdNum l with _ | ⟨n, r'⟩
  · skip
    refine enter 28 Tryz.func78 rfl rfl (by simp) ?_
    refine c_seq (wp_reg zd (l_v (v_assign rfl) (l_v (v_assign rfl) (l_nil (n_then (c_seq (c_seq (wp_reg zd (l_v (zmP rfl) ?_)))))))))
    refine l_to (to_f1 zk (zvP rfl) (CallsR.mono (closed_c hb) ?_))
    rintro _ w1 ⟨rfl, e1⟩
    have zs_e1 := e1.size
    refine l_nil (n_then (c_cond rfl rfl (fun hc => ?_) (fun hc => ?_)))
    · skip
      cases hc
    · skip
      refine c_skip (n_then (c_seq (wp_reg zd (l_v (zmP rfl) (l_v (v_nilCheck rfl) ?_)))))
      refine l_v (v_fieldAddr (off := 0) (ft := 24) zk rfl) (l_v (v_load zk rfl ((hb.ext e1).pv 0 _ rfl)) ?_)
      refine l_to (to_f1 zk (zvS rfl) (CallsR.mono (form_c (hv.ext e1)) ?_))
      rintro r w2 ⟨hr2, e2⟩
      have zs_e2 := e2.size
      have e3 := e1.trans e2
      rw [formV, hd] at hr2
      subst hr2
      refine l_v (zmT rfl) (l_v (v_extract (t := .int _ _) rfl rfl) (l_v (v_extract (t := .int _ _) rfl rfl) (l_v (zaI rfl) (l_v (zaI rfl) (l_nil (n_then (c_seq (c_seq (wp_reg zd ?_)))))))))
      refine l_v (zmI rfl) (l_v (v_eql rfl rfl) ?_)
      refine l_nil (n_then (c_cond rfl rfl (fun hc2 => ?_) (fun hc2 => ?_)))
      · skip
        refine c_seq (wp_reg zd (l_v (v_assign rfl) (l_v (v_assign rfl) (l_nil (n_then (c_ret (r_then (ret2 rfl zq zq ?_))))))))
        refine ⟨?_, ?_, e3.keep⟩
        · show _ = numV l
          rw [numV, hd]; rfl
        · rw [rest, hd]
          exact ⟨a, c, hb.ext e3, hv.ext e3⟩
      · skip
        simp at hc2
  · obtain ⟨k, hk1, hk2, hk3⟩ := rdGo_suffix l 0 hd
    have hk4 : l.length - r'.length = k := by rw [hk3, List.length_drop]; omega
    refine enter 28 Tryz.func78 rfl rfl (by simp) ?_
    refine c_seq (wp_reg zd (l_v (v_assign rfl) (l_v (v_assign rfl) (l_nil (n_then (c_seq (c_seq (wp_reg zd (l_v (zmP rfl) ?_)))))))))
    refine l_to (to_f1 zk (zvP rfl) (CallsR.mono (closed_c hb) ?_))
    rintro _ w1 ⟨rfl, e1⟩
    have zs_e1 := e1.size
    refine l_nil (n_then (c_cond rfl rfl (fun hc => ?_) (fun hc => ?_)))
    · skip
      cases hc
    · skip
      refine c_skip (n_then (c_seq (wp_reg zd (l_v (zmP rfl) (l_v (v_nilCheck rfl) ?_)))))
      refine l_v (v_fieldAddr (off := 0) (ft := 24) zk rfl) (l_v (v_load zk rfl ((hb.ext e1).pv 0 _ rfl)) ?_)
      refine l_to (to_f1 zk (zvS rfl) (CallsR.mono (form_c (hv.ext e1)) ?_))
      rintro r w2 ⟨hr2, e2⟩
      have zs_e2 := e2.size
      have e3 := e1.trans e2
      rw [formV, hd] at hr2
      simp only [hk4] at hr2
      subst hr2
      refine l_v (zmT rfl) (l_v (v_extract (t := .int _ _) rfl rfl) (l_v (v_extract (t := .int _ _) rfl rfl) (l_v (zaI rfl) (l_v (zaI rfl) (l_nil (n_then (c_seq (c_seq (wp_reg zd ?_)))))))))
      refine l_v (zmI rfl) (l_v (v_eql rfl rfl) ?_)
      refine l_nil (n_then (c_cond rfl rfl (fun hc2 => ?_) (fun hc2 => ?_)))
      · skip
        simp at hc2; omega
      · skip
        refine c_skip (n_then (c_seq (wp_reg zd (l_v (zmP rfl) (l_v (zmP rfl) (l_v (v_nilCheck rfl) ?_))))))
        refine l_v (v_fieldAddr (off := 0) (ft := 24) zk rfl) (l_v (v_load zk rfl ((hb.ext e3).pv 0 _ rfl)) ?_)
        refine l_v (zmI rfl) (l_to (to_slice (et := 5) (l := k) (h := l.length) zk zk (zvS rfl) (hv.ext e3) ⟨_, by exact rfl⟩ rfl (by first | omega | (simp; done) | (simp; omega)) (by first | omega | (simp; done) | (simp; omega)) ?_))
        rintro a2 n2 c2 h2 rfl hn2
        rw [List.take_length, ← hk3] at h2
        refine l_v (v_nilCheck rfl) ?_
        refine l_v (v_fieldAddr (off := 0) (ft := 24) zk rfl) (l_to (to_store rfl rfl (zvS rfl) rfl zk (hb.ext e3) (by simp) ?_))
        rintro w3 h3 k3 z3
        have zs_k3 := k3.size
        refine l_nil (n_then (c_seq (wp_reg zd (l_v (zmI rfl) (l_v (zaI rfl) (l_v (v_assign rfl) (l_nil (n_then (c_ret ?_)))))))))
        refine ret2 rfl zq zq ?_
        refine ⟨?_, ?_, e3.keep.trans k3⟩
        · show _ = numV l
          rw [numV, hd]; rfl
        · obtain ⟨q2, rfl⟩ := hn2 a _ _ rfl
          have hrl : l.length - k = r'.length := by rw [hk3, List.length_drop]
          rw [hrl] at h2 h3
          rw [rest, hd]
          exact ⟨q2, c2, h3, h2.keep k3 fun b' _ hb' he => hF (by subst he; exact hb')⟩

def flagV (l : List UInt8) : Value := match rdFlag l with
  | some (f, _) => .tuple #[.bool f, .int .i64 0]
  | none => .tuple #[.bool false, .int .i64 4]
def restF (l : List UInt8) : List UInt8 := match rdFlag l with
  | some (_, r) => r
  | none => l

theorem head_at {l : List UInt8} (h : (decide ((l.length : Int) = 0) == false) = true) : l[0]? = some (l.headD 0) := by
  cases l with
  | nil => simp at h
  | cons x l => rfl

theorem rFlag_c {w : World} {b : Nat} {F : Nat → Prop} {l : List UInt8} (hr : Rd nRd w b F l) (hF : ¬ F b) : CallsR Tryz.prog 104 #[.pointer (some ⟨b, 0, none⟩)] w (fun r w' => r = flagV l ∧ Rd nRd w' b F (restF l) ∧ Keep (fun k => k = b) w w') := by
  obtain ⟨a, c, hb, hv⟩ := hr
  refine enter 38 Tryz.func104 rfl rfl (by simp) ?_
  refine c_seq (wp_reg zd (l_v (v_assign rfl) (l_v (v_assign rfl) (l_nil (n_then (c_seq (c_seq (wp_reg zd (l_v (zmP rfl) ?_)))))))))
  refine l_to (to_f1 zk (zvP rfl) (CallsR.mono (closed_c hb) ?_))
  rintro _ w1 ⟨rfl, e1⟩
  have zs_e1 := e1.size
  refine l_nil (n_then (c_cond rfl rfl (fun hc => ?_) (fun hc => ?_)))
  · skip
    cases hc
  · skip
    refine c_skip (n_then (c_seq (c_seq (wp_reg zd (l_v (zmP rfl) (l_v (v_nilCheck rfl) ?_))))))
    refine l_v (v_fieldAddr (off := 0) (ft := 24) zk rfl) (l_v (v_load zk rfl ((hb.ext e1).pv 0 _ rfl)) ?_)
    refine l_v (v_len (et := 5) zk rfl) ?_
    refine l_v (v_eql rfl rfl) ?_
    refine l_v (zmB rfl) (l_g1 rfl rfl (fun hG => zmP rfl) (l_g1 rfl rfl (fun hG => v_nilCheck (gd hG rfl)) ?_))
    refine l_g1 rfl rfl (fun hG => v_fieldAddr (off := 0) (ft := 24) zk (gd hG rfl)) ?_
    refine l_g1 rfl rfl (fun hG => v_load zk (gd hG rfl) ((hb.ext e1).pv 0 _ rfl)) ?_
    refine l_g1 rfl rfl (fun hG => v_indexAddr (et := 5) (sz := 1) (k := 0) zk zk (gd hG rfl) rfl (by first | rfl | omega) ((List.getElem?_eq_some_iff.1 (head_at hG)).1)) ?_
    refine l_g1 rfl rfl (fun hG => v_load zk (gd hG rfl) ((hv.ext e1).at8 (k := 0) (x := l.headD 0) (head_at hG))) ?_
    refine l_g1 rfl rfl (fun hG => v_gtr (gd hG rfl) rfl) ?_
    refine l_v (v_or rfl rfl) ?_
    refine l_nil (n_then (c_cond rfl rfl (fun hc2 => ?_) (fun hc2 => ?_)))
    · skip
      refine c_seq (wp_reg zd (l_v (v_assign rfl) (l_v (v_assign rfl) (l_nil (n_then (c_ret (r_then (ret2 rfl zq zq ?_))))))))
      have h1 : rdFlag l = none := by
        cases l with
        | nil => rfl
        | cons x l => have : 1 < x.toNat := by simp at hc2; omega
                      simp [rdFlag, this]
      refine ⟨?_, ?_, e1.keep⟩
      · show _ = flagV l
        rw [flagV, h1]; rfl
      · rw [restF, h1]; exact ⟨a, c, hb.ext e1, hv.ext e1⟩
    · skip
      obtain ⟨x, l', rfl⟩ : ∃ x l', l = x :: l' := by cases l with
      | nil => simp at hc2
      | cons x l => exact ⟨x, l, rfl⟩
      have h1 : ¬ 1 < x.toNat := by simp at hc2; omega
      refine c_skip (n_then (c_seq (wp_reg zd (l_v (zmP rfl) (l_v (v_nilCheck rfl) ?_)))))
      refine l_v (v_fieldAddr (off := 0) (ft := 24) zk rfl) (l_v (v_load zk rfl ((hb.ext e1).pv 0 _ rfl)) ?_)
      refine l_v (v_indexAddr (et := 5) (sz := 1) (k := 0) zk zk rfl rfl (by first | rfl | omega) (by simp)) ?_
      refine l_v (v_load zk rfl ((hv.ext e1).at8 (k := 0) (x := x) rfl)) ?_
      refine l_v (v_gtr rfl rfl) ?_
      refine l_v (zaB rfl) (l_nil (n_then (c_seq (wp_reg zd (l_v (zmP rfl) (l_v (zmP rfl) (l_v (v_nilCheck rfl) ?_)))))))
      refine l_v (v_fieldAddr (off := 0) (ft := 24) zk rfl) (l_v (v_load zk rfl ((hb.ext e1).pv 0 _ rfl)) ?_)
      refine l_to (to_slice (et := 5) (l := 1) (h := (x :: l').length) zk zk (zvS rfl) (hv.ext e1) ⟨_, by exact rfl⟩ rfl (by first | omega | (simp; done) | (simp; omega)) (by first | omega | (simp; done) | (simp; omega)) ?_)
      rintro a2 n2 c2 h2 rfl hn2
      rw [List.take_length] at h2
      refine l_v (v_nilCheck rfl) ?_
      refine l_v (v_fieldAddr (off := 0) (ft := 24) zk rfl) (l_to (to_store rfl rfl (zvS rfl) rfl zk (hb.ext e1) (by simp) ?_))
      rintro w3 h3 k3 z3
      have zs_k3 := k3.size
      refine l_nil (n_then (c_seq (wp_reg zd (l_v (zmB rfl) (l_v (zaB rfl) (l_v (v_assign rfl) (l_nil (n_then (c_ret ?_)))))))))
      refine ret2 rfl zq zq ?_
      obtain ⟨q2, rfl⟩ := hn2 a _ _ rfl
      refine ⟨?_, ?_, e1.keep.trans k3⟩
      · have e0 : decide ((0 : Int) < (x.toNat : Int)) = decide (0 < x.toNat) := decide_eq_decide.2 zo
        simp only [flagV, rdFlag, h1, if_false]
        rw [← e0]; rfl
      · simp only [restF, rdFlag, h1, if_false]
        exact ⟨q2, c2, by simpa using h3, (by simpa using h2.keep k3 fun b' _ hb' he => hF (by subst he; exact hb'))⟩
end Go.Proofs.YtogafjlbpodgjaaGreat

namespace Go.Proofs.YtogafjlbpodgjaaGreat
open Go.Vc
set_option linter.unusedVariables false
set_option maxRecDepth 100000

/-- what a reading hands back -/
def ReadV {α : Type} (t : Ty α) (et eR : TypeId) (w1 w2 : World) (c : Nat) (F : Nat → Prop) : Except Int (List α × List UInt8) → Value → Prop
  | .ok (x, l2), r => ∃ a4 c4, r = .tuple #[.slice a4 x.length c4, .int .i64 0] ∧ OwV t et w2 w1.heap.size (fun k => w1.heap.size ≤ k) (.slice a4 x.length c4) x ∧ Rd eR w2 c F l2
  | .error e, r => e ≠ 0 ∧ ∃ a n c, r = .tuple #[.slice a n c, .int .i64 e]
def TryV {α : Type} (t : Ty α) (et eR : TypeId) (w w' : World) (b : Nat) (F : Nat → Prop) (l : List UInt8) : Except Int (List α × List UInt8) → Value → Prop
  | .ok (x, l2), r => ∃ a4 c4, r = .tuple #[.slice a4 x.length c4, .int .i64 0] ∧ OwV t et w' w.heap.size (fun k => w.heap.size ≤ k) (.slice a4 x.length c4) x ∧ Rd eR w' b F l2
  | .error e, r => e ≠ 0 ∧ r = .tuple #[.slice none 0 0, .int .i64 e] ∧ Rd eR w' b F l
/-- reading with a number ahead -/
def tryRd {β : Type} (ρ : Nat → List UInt8 → Except Int (β × List UInt8)) (most : Nat) (l : List UInt8) : Except Int (β × List UInt8) := match rdNum l with
  | none => .error 4
  | some (n, l') => if n ≤ most then ρ n l' else .error 3

theorem tryB_c {w : World} {b : Nat} {F : Nat → Prop} {l : List UInt8} {most : Int} {fr : Nat} {cap : Array Value} (hr : Rd nRd w b F l) (hF : ∀ k, F k → k < b) (hm : 0 ≤ most) (hm2 : most ≤ 9223372036854775807) (hb : kBody Tryz.prog fr = true)
    (ρ : Nat → List UInt8 → Except Int (List UInt8 × List UInt8))
    (hread : ∀ (w1 : World) (c : Nat) (l1 : List UInt8) (n : Nat), Ext w w1 → w.heap.size ≤ c → Rd nRd w1 c F l1 → l1.length ≤ l.length → (n : Int) ≤ most → CallsR Tryz.prog fr (#[.pointer (some ⟨c, 0, none⟩), .int .i64 n] ++ cap) w1 (fun r w2 => ReadV tU8 nU8 nRd w1 w2 c F (ρ n l1) r ∧ Keep (fun k => k = c) w1 w2)) :
    CallsR Tryz.prog 107 #[.pointer (some ⟨b, 0, none⟩), .int .i64 most, .func (.func fr) #[] cap] w (fun r w' => TryV tU8 nU8 nRd w w' b F l (tryRd ρ most.toNat l) r ∧ Keep (fun k => k = b) w w') := by
  have hnF : ¬ F b := fun h => absurd (hF b h) (Nat.lt_irrefl b)
  obtain ⟨a, c, hb0, hv⟩ := hr
  have hblt := hb0.lt
  rcases hd : rdNum l with _ | ⟨n, l'⟩
  · obtain ⟨er, her⟩ : ∃ er : Int, er = 4 := ⟨4, rfl⟩
    have htr : tryRd ρ most.toNat l = .error er := by rw [tryRd, hd, her]
    refine enter 56 Tryz.func107 rfl rfl (by simp) ?_
    refine c_seq (wp_reg zd (l_v (v_assign rfl) (l_v (v_assign rfl) (l_nil (n_then (c_seq (wp_reg zd (l_v (v_assign rfl) (l_nil ?_)))))))))
    refine n_then (c_seq (c_seq (wp_reg zd (l_v (zmP rfl) (l_to (to_f1 zk (zvP rfl) (CallsR.mono (closed_c hb0) ?_)))))))
    rintro _ w1 ⟨rfl, e1⟩
    have zs_e1 := e1.size
    refine l_nil (n_then (c_cond rfl rfl (fun hc => ?_) (fun hc => ?_)))
    · skip
      cases hc
    · skip
      refine c_skip (n_then (c_seq (c_seq (wp_reg zd (l_v (zmI rfl) (l_v (v_lss rfl rfl) ?_))))))
      refine l_nil (n_then (c_cond rfl rfl (fun hc2 => ?_) (fun hc2 => ?_)))
      · skip
        have := dtrue hc2; omega
      · skip
        refine c_skip (n_then (c_seq (wp_reg zd (l_v (zmP rfl) (l_v (v_nilCheck rfl) ?_)))))
        refine l_v (v_fieldAddr (off := 0) (ft := 24) zk rfl) (l_v (v_load zk rfl ((hb0.ext e1).pv 0 _ rfl)) ?_)
        refine l_v (v_build (pl := [(0, 1)]) (z := .agg #[.slice none 0 0]) (zl := [.slice none 0 0]) zk (by unfold kZero; kernel_rfl) rfl rfl (cells := [_]) rfl) ?_
        refine l_to (to_box (zvA rfl) ?_)
        rintro b2 w2 rfl hb2 e2 z2
        have zs_e2 := e2.size
        have e12 := e1.trans e2
        refine l_v (zaP rfl) (l_nil (n_then (c_seq (wp_reg zd (l_v (zmP rfl) (l_to (to_f1 zk (zvP rfl) (CallsR.mono (rNumber_c (b := w1.heap.size) (l := l) (F := F) ⟨a, c, hb2, hv.ext e12⟩ (fun h => by have := hF _ h; omega)) ?_))))))))
        rintro r w3 ⟨hr3, h3, k3⟩
        have zs_k3 := k3.size
        rw [numV, hd, ← her] at hr3
        subst hr3
        have e3 : Ext w w3 := e12.step k3 fun i hi h => by omega
        refine l_v (zmT rfl) (l_v (v_extract (t := .int _ _) rfl rfl) (l_v (v_extract (t := .int _ _) rfl rfl) (l_v (zaI rfl) (l_v (zaI rfl) (l_nil (n_then (c_seq (c_seq (wp_reg zd ?_)))))))))
        refine l_v (zmI rfl) (l_v (v_eql rfl rfl) ?_)
        refine l_v (zmB rfl) (l_g1 rfl rfl (fun hG => zmI rfl) (l_g1 rfl rfl (fun hG => zmI rfl) (l_g1 rfl rfl (fun hG => v_conv (ds := .int .i64) zk zk (gd hG rfl) (by first | exact wr_u64 zo zo | rfl)) ?_)))
        refine l_g1 rfl rfl (fun hG => v_gtr (gd hG rfl) (gd hG rfl)) ?_
        refine l_v (v_and rfl rfl) ?_
        refine l_nil (n_then (c_cond rfl rfl (fun hc3 => ?_) (fun hc3 => ?_)))
        · skip
          simp at hc3; omega
        · skip
          refine c_skip (n_then (c_seq (c_seq (wp_reg zd (l_v (zmI rfl) (l_v (v_eql rfl rfl) ?_))))))
          refine l_nil (n_then (c_cond rfl rfl (fun hc4 => ?_) (fun hc4 => ?_)))
          · skip
            have := dtrue hc4; omega
          · skip
            refine c_skip (n_then (c_seq (c_seq (wp_reg zd (l_v (zmI rfl) (l_v (v_neq rfl rfl) ?_))))))
            refine l_nil (n_then (c_cond rfl rfl (fun hc5 => ?_) (fun hc5 => ?_)))
            · skip
              refine c_seq (wp_reg zd (l_v (zmS rfl) (l_v (zmI rfl) (l_v (zaS rfl) (l_v (zaI rfl) (l_nil (n_then (c_ret (r_then ?_)))))))))
              refine ret2 rfl zq zq ?_
              refine ⟨?_, e3.keep⟩
              rw [htr]
              exact ⟨by omega, rfl, ⟨a, c, hb0.ext e3, hv.ext e3⟩⟩
            · skip
              simp at hc5; omega
  · have hlt := rdNum_lt hd
    have hll : l'.length ≤ l.length := by obtain ⟨k, _, _, h⟩ := rdGo_suffix l 0 hd; rw [h, List.length_drop]; omega
    obtain ⟨z, hz⟩ : ∃ z : Int, z = 0 := ⟨0, rfl⟩
    by_cases hnm : (n : Int) ≤ most
    · have htr : tryRd ρ most.toNat l = ρ n l' := by rw [tryRd, hd]; simp only []; rw [if_pos zo]
      cases hρ : ρ n l' with
      | error er =>
        refine enter 56 Tryz.func107 rfl rfl (by simp) ?_
        refine c_seq (wp_reg zd (l_v (v_assign rfl) (l_v (v_assign rfl) (l_nil (n_then (c_seq (wp_reg zd (l_v (v_assign rfl) (l_nil ?_)))))))))
        refine n_then (c_seq (c_seq (wp_reg zd (l_v (zmP rfl) (l_to (to_f1 zk (zvP rfl) (CallsR.mono (closed_c hb0) ?_)))))))
        rintro _ w1 ⟨rfl, e1⟩
        have zs_e1 := e1.size
        refine l_nil (n_then (c_cond rfl rfl (fun hc => ?_) (fun hc => ?_)))
        · skip
          cases hc
        · skip
          refine c_skip (n_then (c_seq (c_seq (wp_reg zd (l_v (zmI rfl) (l_v (v_lss rfl rfl) ?_))))))
          refine l_nil (n_then (c_cond rfl rfl (fun hc2 => ?_) (fun hc2 => ?_)))
          · skip
            have := dtrue hc2; omega
          · skip
            refine c_skip (n_then (c_seq (wp_reg zd (l_v (zmP rfl) (l_v (v_nilCheck rfl) ?_)))))
            refine l_v (v_fieldAddr (off := 0) (ft := 24) zk rfl) (l_v (v_load zk rfl ((hb0.ext e1).pv 0 _ rfl)) ?_)
            refine l_v (v_build (pl := [(0, 1)]) (z := .agg #[.slice none 0 0]) (zl := [.slice none 0 0]) zk (by unfold kZero; kernel_rfl) rfl rfl (cells := [_]) rfl) ?_
            refine l_to (to_box (zvA rfl) ?_)
            rintro b2 w2 rfl hb2 e2 z2
            have zs_e2 := e2.size
            have e12 := e1.trans e2
            refine l_v (zaP rfl) (l_nil (n_then (c_seq (wp_reg zd (l_v (zmP rfl) (l_to (to_f1 zk (zvP rfl) (CallsR.mono (rNumber_c (b := w1.heap.size) (l := l) (F := F) ⟨a, c, hb2, hv.ext e12⟩ (fun h => by have := hF _ h; omega)) ?_))))))))
            rintro r w3 ⟨hr3, h3, k3⟩
            have zs_k3 := k3.size
            rw [numV, hd] at hr3
            simp only [] at hr3
            rw [← hz] at hr3
            subst hr3
            have e3 : Ext w w3 := e12.step k3 fun i hi h => by omega
            have hrest : rest l = l' := by rw [rest, hd]
            rw [hrest] at h3
            refine l_v (zmT rfl) (l_v (v_extract (t := .int _ _) rfl rfl) (l_v (v_extract (t := .int _ _) rfl rfl) (l_v (zaI rfl) (l_v (zaI rfl) (l_nil (n_then (c_seq (c_seq (wp_reg zd ?_)))))))))
            refine l_v (zmI rfl) (l_v (v_eql rfl rfl) ?_)
            refine l_v (zmB rfl) (l_g1 rfl rfl (fun hG => zmI rfl) (l_g1 rfl rfl (fun hG => zmI rfl) (l_g1 rfl rfl (fun hG => v_conv (ds := .int .i64) zk zk (gd hG rfl) (by first | exact wr_u64 zo zo | rfl)) ?_)))
            refine l_g1 rfl rfl (fun hG => v_gtr (gd hG rfl) (gd hG rfl)) ?_
            refine l_v (v_and rfl rfl) ?_
            refine l_nil (n_then (c_cond rfl rfl (fun hc3 => ?_) (fun hc3 => ?_)))
            · skip
              simp at hc3; omega
            · skip
              refine c_skip (n_then (c_seq (c_seq (wp_reg zd (l_v (zmI rfl) (l_v (v_eql rfl rfl) ?_))))))
              refine l_nil (n_then (c_cond rfl rfl (fun hc4 => ?_) (fun hc4 => ?_)))
              · skip
                refine wp_reg zd (l_v (zmF rfl) (l_v (zmP rfl) (l_v (zmI rfl) (l_v (v_conv (ds := .int .u64) zk zk rfl (by first | exact wr_i64 zo zo | rfl)) ?_))))
                refine l_to (to_call2 hb rfl (zvP rfl) (zvI rfl) (CallsR.mono (hread w3 _ l' n e3 zo h3 hll hnm) ?_))
                rintro r4 w4 ⟨hr4, k4⟩
                have zs_k4 := k4.size
                rw [hρ] at hr4
                obtain ⟨her, va, vn, vc, hr4⟩ := hr4
                subst hr4
                have e4 : Ext w w4 := e3.step k4 fun i hi h => by omega
                refine l_v (zmT rfl) (l_v (v_extract (t := .slice _ _ _) rfl rfl) (l_v (v_extract (t := .int _ _) rfl rfl) (l_v (zaS rfl) (l_v (zaI rfl) (l_nil (n_then (c_seq (c_seq (wp_reg zd ?_)))))))))
                refine l_v (zmI rfl) (l_v (v_neq rfl rfl) ?_)
                refine l_nil (n_then (c_cond rfl rfl (fun hc5 => ?_) (fun hc5 => ?_)))
                · skip
                  refine c_seq (wp_reg zd (l_v (zmS rfl) (l_v (zmI rfl) (l_v (zaS rfl) (l_v (zaI rfl) (l_nil (n_then (c_ret (r_then ?_)))))))))
                  refine ret2 rfl zq zq ?_
                  refine ⟨?_, e4.keep⟩
                  rw [htr, hρ]
                  exact ⟨her, rfl, ⟨a, c, hb0.ext e4, hv.ext e4⟩⟩
                · skip
                  simp at hc5; omega
              · skip
                have := dfalse hc4; omega
      | ok xl =>
        obtain ⟨x, l2⟩ := xl
        refine enter 56 Tryz.func107 rfl rfl (by simp) ?_
        refine c_seq (wp_reg zd (l_v (v_assign rfl) (l_v (v_assign rfl) (l_nil (n_then (c_seq (wp_reg zd (l_v (v_assign rfl) (l_nil ?_)))))))))
        refine n_then (c_seq (c_seq (wp_reg zd (l_v (zmP rfl) (l_to (to_f1 zk (zvP rfl) (CallsR.mono (closed_c hb0) ?_)))))))
        rintro _ w1 ⟨rfl, e1⟩
        have zs_e1 := e1.size
        refine l_nil (n_then (c_cond rfl rfl (fun hc => ?_) (fun hc => ?_)))
        · skip
          cases hc
        · skip
          refine c_skip (n_then (c_seq (c_seq (wp_reg zd (l_v (zmI rfl) (l_v (v_lss rfl rfl) ?_))))))
          refine l_nil (n_then (c_cond rfl rfl (fun hc2 => ?_) (fun hc2 => ?_)))
          · skip
            have := dtrue hc2; omega
          · skip
            refine c_skip (n_then (c_seq (wp_reg zd (l_v (zmP rfl) (l_v (v_nilCheck rfl) ?_)))))
            refine l_v (v_fieldAddr (off := 0) (ft := 24) zk rfl) (l_v (v_load zk rfl ((hb0.ext e1).pv 0 _ rfl)) ?_)
            refine l_v (v_build (pl := [(0, 1)]) (z := .agg #[.slice none 0 0]) (zl := [.slice none 0 0]) zk (by unfold kZero; kernel_rfl) rfl rfl (cells := [_]) rfl) ?_
            refine l_to (to_box (zvA rfl) ?_)
            rintro b2 w2 rfl hb2 e2 z2
            have zs_e2 := e2.size
            have e12 := e1.trans e2
            refine l_v (zaP rfl) (l_nil (n_then (c_seq (wp_reg zd (l_v (zmP rfl) (l_to (to_f1 zk (zvP rfl) (CallsR.mono (rNumber_c (b := w1.heap.size) (l := l) (F := F) ⟨a, c, hb2, hv.ext e12⟩ (fun h => by have := hF _ h; omega)) ?_))))))))
            rintro r w3 ⟨hr3, h3, k3⟩
            have zs_k3 := k3.size
            rw [numV, hd] at hr3
            simp only [] at hr3
            rw [← hz] at hr3
            subst hr3
            have e3 : Ext w w3 := e12.step k3 fun i hi h => by omega
            have hrest : rest l = l' := by rw [rest, hd]
            rw [hrest] at h3
            refine l_v (zmT rfl) (l_v (v_extract (t := .int _ _) rfl rfl) (l_v (v_extract (t := .int _ _) rfl rfl) (l_v (zaI rfl) (l_v (zaI rfl) (l_nil (n_then (c_seq (c_seq (wp_reg zd ?_)))))))))
            refine l_v (zmI rfl) (l_v (v_eql rfl rfl) ?_)
            refine l_v (zmB rfl) (l_g1 rfl rfl (fun hG => zmI rfl) (l_g1 rfl rfl (fun hG => zmI rfl) (l_g1 rfl rfl (fun hG => v_conv (ds := .int .i64) zk zk (gd hG rfl) (by first | exact wr_u64 zo zo | rfl)) ?_)))
            refine l_g1 rfl rfl (fun hG => v_gtr (gd hG rfl) (gd hG rfl)) ?_
            refine l_v (v_and rfl rfl) ?_
            refine l_nil (n_then (c_cond rfl rfl (fun hc3 => ?_) (fun hc3 => ?_)))
            · skip
              simp at hc3; omega
            · skip
              refine c_skip (n_then (c_seq (c_seq (wp_reg zd (l_v (zmI rfl) (l_v (v_eql rfl rfl) ?_))))))
              refine l_nil (n_then (c_cond rfl rfl (fun hc4 => ?_) (fun hc4 => ?_)))
              · skip
                refine wp_reg zd (l_v (zmF rfl) (l_v (zmP rfl) (l_v (zmI rfl) (l_v (v_conv (ds := .int .u64) zk zk rfl (by first | exact wr_i64 zo zo | rfl)) ?_))))
                refine l_to (to_call2 hb rfl (zvP rfl) (zvI rfl) (CallsR.mono (hread w3 _ l' n e3 zo h3 hll hnm) ?_))
                rintro r4 w4 ⟨hr4, k4⟩
                have zs_k4 := k4.size
                rw [hρ] at hr4
                obtain ⟨a4, c4, hr4, hx4, a5, c5, hb5, hv5⟩ := hr4
                subst hr4
                have e4 : Ext w w4 := e3.step k4 fun i hi h => by omega
                refine l_v (zmT rfl) (l_v (v_extract (t := .slice _ _ _) rfl rfl) (l_v (v_extract (t := .int _ _) rfl rfl) (l_v (zaS rfl) (l_v (zaI rfl) (l_nil (n_then (c_seq (c_seq (wp_reg zd ?_)))))))))
                refine l_v (zmI rfl) (l_v (v_neq rfl rfl) ?_)
                refine l_nil (n_then (c_cond rfl rfl (fun hc5 => ?_) (fun hc5 => ?_)))
                · skip
                  simp at hc5
                · skip
                  refine c_skip (n_then (c_seq (wp_reg zd (l_v (zmP rfl) (l_v (zmP rfl) (l_v (v_nilCheck rfl) ?_))))))
                  refine l_v (v_loadA zk rfl hb5.pv rfl) ?_
                  refine l_v (v_nilCheck rfl) ?_
                  refine l_to (to_storeA (n := 1) rfl rfl (zvA rfl) zk rfl (by first | (simp [slice_one]; done) | (simp only [List.forall_mem_cons, List.cons_append, List.nil_append]; repeat' (first | exact rfl | apply And.intro | (intro u hu; cases hu; done)))) (hb0.ext e4) dj5 ?_)
                  rintro w5 h5 k5 z5
                  have zs_k5 := k5.size
                  refine l_nil (n_then (c_seq (wp_reg zd (l_v (zmS rfl) (l_v (zaS rfl) (l_v (v_assign rfl) (l_nil (n_then (c_ret ?_)))))))))
                  refine ret2 rfl zq zq ?_
                  refine ⟨?_, e4.keep.trans k5⟩
                  rw [htr, hρ]
                  refine ⟨_, _, rfl, (hx4.base zo).mono (F' := fun k => w.heap.size ≤ k) (fun i _ hi => by omega) |>.keep k5 (fun i hi h => ?_) (fun i _ hi _ h => by omega), a5, c5, h5, hv5.keep k5 fun i _ hi h => hnF (by subst h; exact hi)⟩
                  have := (hx4.own_lt hi).1
                  omega
              · skip
                have := dfalse hc4; omega
    · have htr : tryRd ρ most.toNat l = .error 3 := by rw [tryRd, hd]; simp only []; rw [if_neg zo]
      refine enter 56 Tryz.func107 rfl rfl (by simp) ?_
      refine c_seq (wp_reg zd (l_v (v_assign rfl) (l_v (v_assign rfl) (l_nil (n_then (c_seq (wp_reg zd (l_v (v_assign rfl) (l_nil ?_)))))))))
      refine n_then (c_seq (c_seq (wp_reg zd (l_v (zmP rfl) (l_to (to_f1 zk (zvP rfl) (CallsR.mono (closed_c hb0) ?_)))))))
      rintro _ w1 ⟨rfl, e1⟩
      have zs_e1 := e1.size
      refine l_nil (n_then (c_cond rfl rfl (fun hc => ?_) (fun hc => ?_)))
      · skip
        cases hc
      · skip
        refine c_skip (n_then (c_seq (c_seq (wp_reg zd (l_v (zmI rfl) (l_v (v_lss rfl rfl) ?_))))))
        refine l_nil (n_then (c_cond rfl rfl (fun hc2 => ?_) (fun hc2 => ?_)))
        · skip
          have := dtrue hc2; omega
        · skip
          refine c_skip (n_then (c_seq (wp_reg zd (l_v (zmP rfl) (l_v (v_nilCheck rfl) ?_)))))
          refine l_v (v_fieldAddr (off := 0) (ft := 24) zk rfl) (l_v (v_load zk rfl ((hb0.ext e1).pv 0 _ rfl)) ?_)
          refine l_v (v_build (pl := [(0, 1)]) (z := .agg #[.slice none 0 0]) (zl := [.slice none 0 0]) zk (by unfold kZero; kernel_rfl) rfl rfl (cells := [_]) rfl) ?_
          refine l_to (to_box (zvA rfl) ?_)
          rintro b2 w2 rfl hb2 e2 z2
          have zs_e2 := e2.size
          have e12 := e1.trans e2
          refine l_v (zaP rfl) (l_nil (n_then (c_seq (wp_reg zd (l_v (zmP rfl) (l_to (to_f1 zk (zvP rfl) (CallsR.mono (rNumber_c (b := w1.heap.size) (l := l) (F := F) ⟨a, c, hb2, hv.ext e12⟩ (fun h => by have := hF _ h; omega)) ?_))))))))
          rintro r w3 ⟨hr3, h3, k3⟩
          have zs_k3 := k3.size
          rw [numV, hd] at hr3
          simp only [] at hr3
          rw [← hz] at hr3
          subst hr3
          have e3 : Ext w w3 := e12.step k3 fun i hi h => by omega
          refine l_v (zmT rfl) (l_v (v_extract (t := .int _ _) rfl rfl) (l_v (v_extract (t := .int _ _) rfl rfl) (l_v (zaI rfl) (l_v (zaI rfl) (l_nil (n_then (c_seq (c_seq (wp_reg zd ?_)))))))))
          refine l_v (zmI rfl) (l_v (v_eql rfl rfl) ?_)
          refine l_v (zmB rfl) (l_g1 rfl rfl (fun hG => zmI rfl) (l_g1 rfl rfl (fun hG => zmI rfl) (l_g1 rfl rfl (fun hG => v_conv (ds := .int .i64) zk zk (gd hG rfl) (by first | exact wr_u64 zo zo | rfl)) ?_)))
          refine l_g1 rfl rfl (fun hG => v_gtr (gd hG rfl) (gd hG rfl)) ?_
          refine l_v (v_and rfl rfl) ?_
          refine l_nil (n_then (c_cond rfl rfl (fun hc3 => ?_) (fun hc3 => ?_)))
          · skip
            refine wp_reg zd (l_v (v_assign rfl) (l_nil (n_then (c_seq (c_seq (wp_reg zd (l_v (zmI rfl) (l_v (v_eql rfl rfl) ?_))))))))
            refine l_nil (n_then (c_cond rfl rfl (fun hc4 => ?_) (fun hc4 => ?_)))
            · skip
              have := dtrue hc4; omega
            · skip
              refine c_skip (n_then (c_seq (c_seq (wp_reg zd (l_v (zmI rfl) (l_v (v_neq rfl rfl) ?_))))))
              refine l_nil (n_then (c_cond rfl rfl (fun hc5 => ?_) (fun hc5 => ?_)))
              · skip
                refine c_seq (wp_reg zd (l_v (zmS rfl) (l_v (zmI rfl) (l_v (zaS rfl) (l_v (zaI rfl) (l_nil (n_then (c_ret (r_then ?_)))))))))
                refine ret2 rfl zq zq ?_
                refine ⟨?_, e3.keep⟩
                rw [htr]
                exact ⟨by omega, rfl, ⟨a, c, hb0.ext e3, hv.ext e3⟩⟩
              · skip
                simp at hc5
          · skip
            simp at hc3; omega

end Go.Proofs.YtogafjlbpodgjaaGreat

namespace Go.Proofs.YtogafjlbpodgjaaGreat
open Go.Vc
set_option linter.unusedVariables false
set_option maxRecDepth 100000

def rdSome (n : Nat) (l : List UInt8) : Except Int (List UInt8 × List UInt8) := if n ≤ l.length then .ok (l.take n, l.drop n) else .error 4
def rdBytes (most : Nat) (l : List UInt8) : Except Int (List UInt8 × List UInt8) := tryRd rdSome most l

theorem some_c {w : World} {b : Nat} {F : Nat → Prop} {l : List UInt8} {n : Nat} (hr : Rd nRd w b F l) (hF : ¬ F b) (hl : l.length ≤ 140737488355300) : CallsR Tryz.prog 108 #[.pointer (some ⟨b, 0, none⟩), .int .i64 n] w (fun r w' => ReadV tU8 nU8 nRd w w' b F (rdSome n l) r ∧ Keep (fun k => k = b) w w') := by
  obtain ⟨a, c, hb, hv⟩ := hr
  have hblt := hb.lt
  by_cases hn : n ≤ l.length
  · have hρ : rdSome n l = .ok (l.take n, l.drop n) := by rw [rdSome, if_pos hn]
    have htl : (l.take n).length = n := List.length_take_of_le hn
    refine enter 32 Tryz.func108 rfl rfl (by simp) ?_
    refine c_seq (wp_reg zd (l_v (v_assign rfl) (l_v (v_assign rfl) (l_nil (n_then (c_seq (c_seq (wp_reg zd (l_v (zmI rfl) ?_)))))))))
    refine l_v (zmP rfl) (l_v (v_nilCheck rfl) ?_)
    refine l_v (v_fieldAddr (off := 0) (ft := 24) zk rfl) (l_v (v_load zk rfl (hb.pv 0 _ rfl)) ?_)
    refine l_v (v_len (et := 5) zk rfl) ?_
    refine l_v (v_gtr rfl rfl) ?_
    refine l_nil (n_then (c_cond rfl rfl (fun hc => ?_) (fun hc => ?_)))
    · skip
      have := dtrue hc; omega
    · skip
      refine c_skip (n_then (c_seq (wp_reg zd (l_to (to_slice0 (t := tU8) (et := 5) (bytes := 1) zk ?_)))))
      rintro b1 w1 rfl o1 e1 z1
      have zs_e1 := e1.size
      refine l_v (zmP rfl) (l_v (v_nilCheck rfl) ?_)
      refine l_v (v_fieldAddr (off := 0) (ft := 24) zk rfl) (l_v (v_load zk rfl ((hb.ext e1).pv 0 _ rfl)) ?_)
      refine l_v (zmI rfl) (l_to (to_slice (et := 5) (l := 0) (h := n) zk zk (zvS rfl) (hv.ext e1) rfl ⟨_, by exact rfl⟩ (by first | omega | (simp; done) | (simp; omega)) (by first | omega | (simp; done) | (simp; omega)) ?_))
      rintro a2 n2 c2 h2 rfl hn2
      refine l_to (to_append (et := 5) (bytes := 1) zk (zvS rfl) o1 (zvS rfl) h2 (flat_u8.to) (by first | omega | (simp; done) | (simp; omega)) (by simp only [maxLen]; first | omega | (simp; done) | (simp; omega)) zo ?_)
      rintro a3 n3 c3 w3 o3 hn3 k3 b3 i3
      have zs_k3 := k3.size
      subst hn3
      have e3 : Ext w w3 := e1.step k3 fun i hi h => by simp [Value.ownBlock] at h; omega
      have hl3 : ([] ++ (l.take n).drop 0) = l.take n := by simp
      rw [hl3] at o3 ⊢
      refine l_v (zaS rfl) (l_nil (n_then (c_seq (wp_reg zd (l_v (zmP rfl) (l_v (zmP rfl) (l_v (v_nilCheck rfl) ?_)))))))
      refine l_v (v_fieldAddr (off := 0) (ft := 24) zk rfl) (l_v (v_load zk rfl ((hb.ext e3).pv 0 _ rfl)) ?_)
      refine l_v (zmI rfl) (l_to (to_slice (et := 5) (l := n) (h := l.length) zk zk (zvS rfl) (hv.ext e3) ⟨_, by exact rfl⟩ rfl (by first | omega | (simp; done) | (simp; omega)) (by first | omega | (simp; done) | (simp; omega)) ?_))
      rintro a4 n4 c4 h4 rfl hn4
      refine l_v (v_nilCheck rfl) ?_
      refine l_v (v_fieldAddr (off := 0) (ft := 24) zk rfl) (l_to (to_store rfl rfl (zvS rfl) rfl zk (hb.ext e3) (by simp) ?_))
      rintro w5 h5 k5 z5
      have zs_k5 := k5.size
      refine l_nil (n_then (c_seq (wp_reg zd (l_v (zmS rfl) (l_v (zaS rfl) (l_v (v_assign rfl) (l_nil (n_then (c_ret ?_)))))))))
      refine ret2 rfl zq zq ?_
      refine ⟨?_, e3.keep.trans k5⟩
      obtain ⟨q4, rfl⟩ := hn4 a _ _ rfl
      rw [hρ]
      have hdl : l.length - n = (l.drop n).length := by rw [List.length_drop]
      rw [List.take_length] at h4
      rw [hdl] at h4 h5
      refine ⟨_, _, rfl, (o3.mono (F' := fun k => w.heap.size ≤ k) fun i _ hi => hi.elim).keep k5 (fun i hi h => ?_) (fun i _ hi _ h => by omega), q4, c4, h5, h4.keep k5 fun i _ hi h => hF (by subst h; exact hi)⟩
      have := (o3.own_lt hi).1
      omega
  · have hρ : rdSome n l = .error 4 := by rw [rdSome, if_neg hn]
    refine enter 32 Tryz.func108 rfl rfl (by simp) ?_
    refine c_seq (wp_reg zd (l_v (v_assign rfl) (l_v (v_assign rfl) (l_nil (n_then (c_seq (c_seq (wp_reg zd (l_v (zmI rfl) ?_)))))))))
    refine l_v (zmP rfl) (l_v (v_nilCheck rfl) ?_)
    refine l_v (v_fieldAddr (off := 0) (ft := 24) zk rfl) (l_v (v_load zk rfl (hb.pv 0 _ rfl)) ?_)
    refine l_v (v_len (et := 5) zk rfl) ?_
    refine l_v (v_gtr rfl rfl) ?_
    refine l_nil (n_then (c_cond rfl rfl (fun hc => ?_) (fun hc => ?_)))
    · skip
      refine c_seq (wp_reg zd (l_v (v_assign rfl) (l_v (v_assign rfl) (l_nil (n_then (c_ret (r_then (ret2 rfl zq zq ?_))))))))
      refine ⟨?_, Keep.refl _⟩
      rw [hρ]
      exact ⟨by omega, _, _, _, rfl⟩
    · skip
      have := dfalse hc; omega

theorem Bytes2_c {w : World} {b : Nat} {F : Nat → Prop} {l : List UInt8} {most : Int} (hr : Rd nRd w b F l) (hF : ∀ k, F k → k < b) (hm : 0 ≤ most) (hm2 : most ≤ 9223372036854775807) (hl : l.length ≤ 140737488355300) :
    CallsR Tryz.prog 82 #[.pointer (some ⟨b, 0, none⟩), .int .i64 most] w (fun r w' => TryV tU8 nU8 nRd w w' b F l (rdBytes most.toNat l) r ∧ Keep (fun k => k = b) w w') := by
  have hb := hr
  obtain ⟨a0, c0, hb0, _⟩ := hb
  have hblt := hb0.lt
  cases hρ : rdBytes most.toNat l with
  | error er =>
    refine enter 11 Tryz.func82 rfl rfl (by simp) ?_
    refine c_seq (wp_reg zd (l_v (v_assign rfl) (l_v (v_assign rfl) (l_nil (n_then (c_seq (wp_reg zd (l_v (zmP rfl) (l_v (zmI rfl) ?_)))))))))
    refine l_to (to_f3 zk (zvP rfl) (zvI rfl) rfl (CallsR.mono (tryB_c hr hF hm hm2 zk rdSome (fun w1 c l1 n e1 hc1 hr1 hl1 hn1 => by simpa using some_c hr1 (fun h => by have := hF _ h; omega) zo)) ?_))
    rintro r w1 ⟨h1, k1⟩
    have zs_k1 := k1.size
    rw [show tryRd rdSome most.toNat l = .error er from hρ] at h1
    obtain ⟨her, rfl, h2⟩ := h1
    refine l_v (v_extract (t := .slice _ _ _) rfl rfl) (l_v (v_extract (t := .int _ _) rfl rfl) (l_v (zaS rfl) (l_v (zaI rfl) (l_nil (n_then (c_ret (ret2 rfl zq zq ?_)))))))
    exact ⟨⟨her, rfl, h2⟩, k1⟩
  | ok xl =>
    obtain ⟨x, l2⟩ := xl
    refine enter 11 Tryz.func82 rfl rfl (by simp) ?_
    refine c_seq (wp_reg zd (l_v (v_assign rfl) (l_v (v_assign rfl) (l_nil (n_then (c_seq (wp_reg zd (l_v (zmP rfl) (l_v (zmI rfl) ?_)))))))))
    refine l_to (to_f3 zk (zvP rfl) (zvI rfl) rfl (CallsR.mono (tryB_c hr hF hm hm2 zk rdSome (fun w1 c l1 n e1 hc1 hr1 hl1 hn1 => by simpa using some_c hr1 (fun h => by have := hF _ h; omega) zo)) ?_))
    rintro r w1 ⟨h1, k1⟩
    have zs_k1 := k1.size
    rw [show tryRd rdSome most.toNat l = .ok (x, l2) from hρ] at h1
    obtain ⟨a4, c4, rfl, h2⟩ := h1
    refine l_v (v_extract (t := .slice _ _ _) rfl rfl) (l_v (v_extract (t := .int _ _) rfl rfl) (l_v (zaS rfl) (l_v (zaI rfl) (l_nil (n_then (c_ret (ret2 rfl zq zq ?_)))))))
    exact ⟨⟨_, _, rfl, h2⟩, k1⟩

theorem digits_c {w : World} {n : Nat} (hn : n < 18446744073709551616) : CallsR Tryz.prog 102 #[.int .u64 n] w (fun r w' => r = .int .i64 (wNum n).length ∧ Ext w w') := by
  have hl := wNum_len10 hn
  obtain ⟨w0, rfl⟩ : ∃ x, x = w := ⟨w, rfl⟩
  refine enter 12 Tryz.func102 rfl rfl (by simp) ?_
  refine c_seq (wp_reg zd (l_v (v_assign rfl) (l_nil (n_then (c_seq (wp_reg zd (l_v (v_assign rfl) (l_nil (n_then ?_)))))))))
  refine c_seq (c_block (c_loop (τ := Nat × Nat) [0, 3, 4, 5, 6, 7, 8, 9, 10] (fun (n', m) => [(0, .int .u64 n'), (3, .int .i64 m)]) (fun (n', m) w => w = w0 ∧ n' < 18446744073709551616 ∧ m + (wNum n').length = 1 + (wNum n).length) (fun (n', m) => n') (n, 1) (by exact ⟨rfl, rfl, trivial⟩) (by exact ⟨rfl, hn, rfl⟩) ?_))
  rintro ⟨n', m⟩ w1 j ⟨rfl, h1, h2⟩
  refine c_seq (c_seq (wp_reg zd (l_v (zmI rfl) (l_v (v_quo rfl rfl zq (by first | exact qu_u64 zo zo zq | rfl)) ?_))))
  refine l_v (v_gtr rfl rfl) ?_
  refine l_nil (n_then (c_cond rfl rfl (fun hc => ?_) (fun hc => ?_)))
  · skip
    have hge : 128 ≤ n' := by have := dtrue hc; omega
    have hw := wNum_ge hge
    rw [hw] at h2
    simp only [List.length_cons] at h2
    refine c_skip (n_then (c_block (c_seq (wp_reg zd (l_v (zmI rfl) (l_v (v_quo rfl rfl zq (by first | exact qu_u64 zo zo zq | rfl)) ?_))))))
    refine l_v (zaI rfl) (l_nil (n_then (wp_reg zd (l_v (zmI rfl) (l_v (v_add rfl rfl (by first | exact wr_i64 zo zo | rfl)) ?_)))))
    refine l_v (zaI rfl) (l_nil (n_blk (n_then (⟨(n' / 128, m + 1), _, rfl, by (repeat (first | exact Off.of_over _ _ _ | refine Off.upd ?_ zq _ | refine Off.overs ?_ zq _)), ⟨by first | rfl | exact congrArg (Value.int _) zo | (simp; done), by first | rfl | exact congrArg (Value.int _) zo | (simp; done), trivial⟩, ?_, ?_⟩))))
    · exact ⟨rfl, by omega, by omega⟩
    · dsimp only; omega
  · skip
    refine c_exit (x_then (x_then (x_hit (n_then (c_seq (wp_reg zd (l_v (zmI rfl) (l_v (zaI rfl) (l_nil ?_)))))))))
    refine n_then (c_ret (ret1 rfl zq ?_))
    refine ⟨?_, Keep.refl _⟩
    have hlt : n' < 128 := by have := dfalse hc; omega
    rw [wNum_lt hlt] at h2
    exact congrArg (Value.int _) (by simp at h2; omega)

theorem refNumber_c {w : World} {n : Nat} {x : Int} (hx : x = (n : Nat)) (hn : n < 18446744073709551616) : CallsR Tryz.prog 75 #[.int .u64 x] w (fun r w' => OwV tU8 nU8 w' w.heap.size NoK r (wNum n) ∧ (∃ q c, r = .slice (some q) (wNum n).length c) ∧ Ext w w') := by
  subst hx
  have hl := wNum_len10 hn
  have hp := wNum_pos n
  obtain ⟨w0, rfl⟩ : ∃ x, x = w := ⟨w, rfl⟩
  refine enter 36 Tryz.func75 rfl rfl (by simp) ?_
  refine c_seq (wp_reg zd (l_v (v_assign rfl) (l_nil (n_then (c_seq (wp_reg zd (l_v (zmI rfl) (l_to (to_f1 zk (zvI rfl) (CallsR.mono (digits_c hn) ?_))))))))))
  rintro _ w1 ⟨rfl, e1⟩
  have zs_e1 := e1.size
  refine l_to (to_make (et := 5) (bytes := 1) zk (t := tU8) (z := 0) (n := (wNum n).length) (m := (wNum n).length) (zv := .int .u8 0) rfl rfl (.inl rfl) zo (by simp only [maxLen]; omega) (by unfold kZero; kernel_rfl) rfl rfl (fun _ _ => rfl) ?_)
  rintro b2 c2 w2 rfl o2 e2 z2
  have zs_e2 := e2.size
  refine l_v (zaS rfl) (l_nil (n_then (c_seq (c_seq (wp_reg zd (l_v (v_assign rfl) (l_nil (n_then (c_block ?_)))))))))
  refine c_loop (τ := Nat × Nat × List UInt8) [0, 4, 8, 9, 10, 11, 12, 13, 14, 15, 16, 17, 18, 19, 20, 21, 22, 23, 24, 25, 26, 27, 28, 29, 30, 31, 32, 33, 34] (fun (n', i, xs) => [(0, .int .u64 n'), (4, .int .i64 i)]) (fun (n', i, xs) w => OwV tU8 nU8 w w1.heap.size NoK (.slice (some ⟨w1.heap.size, 0, none⟩) (wNum n).length c2) xs ∧ Ext w1 w ∧ n' < 18446744073709551616 ∧ i ≤ (wNum n).length ∧ xs.length = (wNum n).length ∧ xs.take i = (wNum n).take i ∧ (i < (wNum n).length → (wNum n).drop i = wNum n')) (fun (n', i, xs) => (wNum n).length - i) (n, 0, List.replicate (wNum n).length 0) (by exact ⟨rfl, rfl, trivial⟩) (by exact ⟨o2, e2, hn, Nat.zero_le _, by simp, by simp, by simp⟩) ?_
  rintro ⟨n', i, xs⟩ w3 j ⟨o3, e3, h1, h2, h3, h4, h5⟩
  refine c_seq (c_seq (wp_reg zd (l_v (zmI rfl) (l_v (zmS rfl) (l_v (v_len (et := 5) zk rfl) ?_)))))
  refine l_v (v_lss rfl rfl) ?_
  refine l_nil (n_then (c_cond rfl rfl (fun hc => ?_) (fun hc => ?_)))
  · skip
    have hc := dtrue hc
    have hz3 := e3.size
    have h6 := h5 zo
    have hlen := congrArg List.length h6
    rw [List.length_drop] at hlen
    obtain ⟨x, hx⟩ : ∃ x, xs[i]? = some x := ⟨xs[i]'zo, by simp [show i < xs.length by omega]⟩
    refine c_skip (n_then (c_seq (c_block (c_seq (wp_reg zd (l_v (zmS rfl) (l_v (zmI rfl) (l_v (zmI rfl) (l_v (v_rem rfl rfl zq (by first | exact tm_nn zo | rfl)) ?_)))))))))
    refine l_v (v_conv (ds := .int .u64) zk zk rfl (by first | exact wr_u8 zo zo | rfl)) ?_
    refine l_v (v_indexAddr (et := 5) (sz := 1) (k := i) zk zk rfl rfl (by first | rfl | omega) zo) ?_
    refine l_to (to_storeO (k := i) (off := 0) rfl (by simp [add_lit, tU8]) (by first | decide | exact (of_decide_eq_true rfl : 0 < 2)) (zvI rfl) rfl zk o3 (x1 := UInt8.ofNat (n' % 128)) hx (fun cs h => by cases h; exact congrArg (fun y => [Value.int .u8 y]) (by rw [u8n zo]; omega)) ?_)
    rintro w4 o4 k4 z4
    have zs_k4 := k4.size
    have e4 : Ext w1 w4 := e3.step k4 (fun b hb h => by omega)
    have hx4 : (xs.set i (UInt8.ofNat (n' % 128)))[i]? = some (UInt8.ofNat (n' % 128)) := by rw [List.getElem?_set_self zo]
    refine l_nil (n_then (c_seq (c_seq (wp_reg zd (l_v (zmI rfl) (l_v (zmS rfl) (l_v (v_len (et := 5) zk rfl) ?_)))))))
    refine l_v (v_sub rfl rfl (by first | exact wr_i64 zo zo | rfl)) ?_
    refine l_v (v_lss rfl rfl) ?_
    refine l_nil (n_then (c_cond rfl rfl (fun hd => ?_) (fun hd => ?_)))
    · skip
      have hd := dtrue hd
      have hge : 128 ≤ n' := by
        rcases Nat.lt_or_ge n' 128 with h | h
        · rw [wNum_lt h] at hlen; simp at hlen; omega
        · exact h
      have hw := wNum_ge hge
      have hmod : (UInt8.ofNat (n' % 128)).toNat = n' % 128 := u8n zo
      refine wp_reg zd (l_v (zmS rfl) (l_v (zmI rfl) (l_v (zmS rfl) (l_v (zmI rfl) (l_v (v_indexAddr (et := 5) (sz := 1) (k := i) zk zk rfl rfl (by first | rfl | omega) zo) ?_)))))
      refine l_v (v_load zk rfl (o4.cell1 hx4)) ?_
      refine l_v (v_add rfl rfl (by first | exact wr_u8 zo zo | rfl)) ?_
      refine l_v (v_indexAddr (et := 5) (sz := 1) (k := i) zk zk rfl rfl (by first | rfl | omega) zo) ?_
      refine l_to (to_storeO (k := i) (off := 0) rfl (by simp [add_lit, tU8]) (by first | decide | exact (of_decide_eq_true rfl : 0 < 2)) (zvI rfl) rfl zk o4 (x1 := UInt8.ofNat (128 + n' % 128)) hx4 (fun cs h => by cases h; exact congrArg (fun y => [Value.int .u8 y]) (by rw [u8n (m := 128 + n' % 128) zo]; omega)) ?_)
      rintro w5 o5 k5 z5
      have zs_k5 := k5.size
      have e5 : Ext w1 w5 := e4.step k5 (fun b hb h => by omega)
      refine l_nil (n_then (wp_reg zd (l_v (zmI rfl) (l_v (v_quo rfl rfl zq (by first | exact qu_u64 zo zo zq | rfl)) ?_))))
      refine l_v (zaI rfl) (l_nil (n_blk (n_then (wp_reg zd (l_v (zmI rfl) (l_v (v_add rfl rfl (by first | exact wr_i64 zo zo | rfl)) ?_))))))
      refine l_v (zaI rfl) (l_nil (n_then (⟨(n' / 128, i + 1, (xs.set i (UInt8.ofNat (n' % 128))).set i (UInt8.ofNat (128 + n' % 128))), _, rfl, by (repeat (first | exact Off.of_over _ _ _ | refine Off.upd ?_ zq _ | refine Off.overs ?_ zq _)), ⟨by first | rfl | exact congrArg (Value.int _) zo | (simp; done), by first | rfl | exact congrArg (Value.int _) zo | (simp; done), trivial⟩, ?_, ?_⟩)))
      · refine ⟨o5, e5, by omega, by omega, by simp [h3], ?_, fun h => ?_⟩
        · rw [List.set_set, List.take_add_one, List.take_add_one, List.take_set_of_le zo, h4, List.getElem?_set_self zo]
          congr 1
          have : (wNum n)[i]? = some (UInt8.ofNat (128 + n' % 128)) := by
            have h7 := List.getElem?_drop (xs := wNum n) (i := i) (j := 0)
            rw [h6, hw] at h7
            simpa using h7.symm
          rw [this]
        · have h7 := List.drop_drop (i := 1) (j := i) (l := wNum n)
          rw [h6, hw] at h7
          rw [← h7]; rfl
      · dsimp only; omega
    · skip
      have hd := dfalse hd
      have hlt : n' < 128 := by
        rcases Nat.lt_or_ge n' 128 with h | h
        · exact h
        · rw [wNum_ge h] at hlen; have := wNum_pos (n' / 128); simp at hlen; omega
      refine c_skip (n_then (wp_reg zd (l_v (zmI rfl) (l_v (v_quo rfl rfl zq (by first | exact qu_u64 zo zo zq | rfl)) ?_))))
      refine l_v (zaI rfl) (l_nil (n_blk (n_then (wp_reg zd (l_v (zmI rfl) (l_v (v_add rfl rfl (by first | exact wr_i64 zo zo | rfl)) ?_))))))
      refine l_v (zaI rfl) (l_nil (n_then (⟨(n' / 128, i + 1, xs.set i (UInt8.ofNat (n' % 128))), _, rfl, by (repeat (first | exact Off.of_over _ _ _ | refine Off.upd ?_ zq _ | refine Off.overs ?_ zq _)), ⟨by first | rfl | exact congrArg (Value.int _) zo | (simp; done), by first | rfl | exact congrArg (Value.int _) zo | (simp; done), trivial⟩, ?_, ?_⟩)))
      · refine ⟨o4, e4, by omega, by omega, by simp [h3], ?_, fun h => by omega⟩
        rw [List.take_add_one, List.take_add_one, List.take_set_of_le zo, h4, List.getElem?_set_self zo]
        congr 1
        have : (wNum n)[i]? = some (UInt8.ofNat n') := by
          have h7 := List.getElem?_drop (xs := wNum n) (i := i) (j := 0)
          rw [h6, wNum_lt hlt] at h7
          simpa using h7.symm
        rw [this, Nat.mod_eq_of_lt hlt]
      · dsimp only; omega
  · skip
    refine c_exit (x_then (x_then (x_hit (n_then (c_seq (wp_reg zd (l_v (zmS rfl) (l_v (zaS rfl) (l_nil ?_)))))))))
    refine n_then (c_ret (ret1 rfl zq ?_))
    have hc := dfalse hc
    have hi : i = (wNum n).length := by omega
    have hxs : xs = wNum n := by
      rw [hi, ← h3, List.take_length] at h4
      rw [h4, h3, List.take_length]
    rw [hxs] at o3
    exact ⟨o3.base zo, ⟨_, _, rfl⟩, e1.trans e3⟩

end Go.Proofs.YtogafjlbpodgjaaGreat
