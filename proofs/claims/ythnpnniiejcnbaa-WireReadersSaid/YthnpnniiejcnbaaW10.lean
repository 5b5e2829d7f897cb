/- A part of the proof: steps and lemmas for the walks through the given program. -/
import Derived.Test.YthnpnniiejcnbaaW9
namespace Go.Proofs.Ythnpnniiejcnbaa
open Go.Vc
set_option linter.unusedVariables false
set_option maxRecDepth 100000

theorem refBytes_c {w : World} {v : Value} {F : Nat → Prop} {l : List UInt8} (hv : Bv w F v l) (hl : l.length ≤ 140737488355300) : CallsR Try.prog 24 #[v] w (fun r w' => OwV tU8 nU8 w' w.heap.size NoK r (wBytes l) ∧ (∃ q c, r = .slice (some q) (wBytes l).length c) ∧ Ext w w') := by
  obtain ⟨a, c, rfl⟩ := hv.shape
  have hw := wNum_len10 (n := l.length) (by omega)
  refine enter 9 Try.func24 rfl rfl (by simp) ?_
  refine c_seq ?_
  refine wp_reg (by decide +kernel) ?_
  refine l_v (v_assign rfl) ?_
  refine l_nil ?_
  refine n_then ?_
  refine c_seq ?_
  refine wp_reg (by decide +kernel) ?_
  refine l_v (v_move (t := .slice _ _ _) rfl) ?_
  refine l_v (v_len (et := 5) (by kernel_rfl) rfl) ?_
  refine l_v (v_conv (ds := .int .i64) (by kernel_rfl) (by kernel_rfl) rfl (by first | exact wr_u64 (by omega) (by omega) | rfl)) ?_
  refine l_to (to_f1 (by kernel_rfl) (show _ = (Value.int _ _) from rfl) (CallsR.mono (refNumber_c (n := l.length) rfl (by omega)) ?_))
  rintro _ w1 ⟨o1, ⟨q1, c1, rfl⟩, e1⟩
  have zs_e1 := e1.size
  refine l_v (v_move (t := .slice _ _ _) rfl) ?_
  refine l_to (to_append (et := 5) (bytes := 1) (by kernel_rfl) (show _ = (Value.slice _ _ _) from rfl) o1 (show _ = (Value.slice _ _ _) from rfl) (hv.ext e1) (flat_u8.to) (by first | omega | (simp; done) | (simp; omega)) (by simp only [maxLen]; first | omega | (simp; done) | (simp; omega)) (by omega) ?_)
  rintro a3 n3 c3 w3 o3 hn3 k3 b3 i3
  have zs_k3 := k3.size
  subst hn3
  have kk3 : Ext w w3 := e1.step k3 fun b hb h => by have := (o1.own_lt h).1; omega
  refine l_v (v_assign (t := .slice _ _ _) rfl) ?_
  refine l_nil ?_
  refine n_then ?_
  refine wp_ret ?_
  refine ret1 rfl (by decide) ?_
  refine ⟨o3, ?_, kk3⟩
  cases a3 with
  | some q => exact ⟨q, c3, rfl⟩
  | none => exact absurd (i3.1 rfl).1 (by simp)

theorem refFlag_c {w : World} {is : Bool} : CallsR Try.prog 26 #[.bool is] w (fun r w' => OwV tU8 nU8 w' w.heap.size NoK r (wFlag is) ∧ (∃ q c, r = .slice (some q) (wFlag is).length c) ∧ Ext w w') := by
  refine enter 9 Try.func26 rfl rfl (by simp) ?_
  refine c_seq ?_
  refine wp_reg (by decide +kernel) ?_
  refine l_v (v_assign rfl) ?_
  refine l_nil ?_
  refine n_then ?_
  refine c_seq ?_
  refine wp_reg (by decide +kernel) ?_
  refine l_to (to_slice1 (t := tU8) (et := 5) (bytes := 1) (by kernel_rfl) (by decide) (show _ = (Value.int _ _) from rfl) ((show tU8.rep _ NoK [.int .u8 0] 0 from rfl)) ?_)
  rintro b1 w1 rfl o1 e1 z1
  have zs_e1 := e1.size
  refine l_v (v_assign (t := .slice _ _ _) rfl) ?_
  refine l_nil ?_
  refine n_then ?_
  refine c_seq ?_
  refine c_seq ?_
  refine wp_reg (by decide +kernel) ?_
  refine l_v (v_move (t := .bool _) rfl) ?_
  refine l_nil ?_
  refine n_then ?_
  refine c_cond rfl rfl (fun hc => ?_) (fun hc => ?_)
  · skip
    refine wp_reg (by decide +kernel) ?_
    refine l_v (v_move (t := .slice _ _ _) rfl) ?_
    refine l_v (v_indexAddr (et := 5) (sz := 1) (k := 0) (by kernel_rfl) (by kernel_rfl) rfl rfl rfl (by omega)) ?_
    refine l_to (to_storeO (k := 0) (off := 0) rfl (by simp [add_lit]) (by decide) (show _ = (Value.int _ _) from rfl) rfl (by kernel_rfl) o1 (x0 := 0) (x1 := 1) rfl (fun cs h => by cases h; exact (rfl : [Value.int .u8 1] = [Value.int .u8 1])) ?_)
    rintro w2 o2 k2 z2
    have zs_k2 := k2.size
    refine l_nil ?_
    refine n_then ?_
    refine c_seq ?_
    refine wp_reg (by decide +kernel) ?_
    refine l_v (v_move (t := .slice _ _ _) rfl) ?_
    refine l_v (v_assign (t := .slice _ _ _) rfl) ?_
    refine l_nil ?_
    refine n_then ?_
    refine wp_ret ?_
    refine ret1 rfl (by decide) ?_
    refine ⟨?_, ⟨_, _, rfl⟩, e1.step k2 (fun b hb h => by omega)⟩
    subst hc; exact o2
  · skip
    refine wp_skip ?_
    refine n_then ?_
    refine c_seq ?_
    refine wp_reg (by decide +kernel) ?_
    refine l_v (v_move (t := .slice _ _ _) rfl) ?_
    refine l_v (v_assign (t := .slice _ _ _) rfl) ?_
    refine l_nil ?_
    refine n_then ?_
    refine wp_ret ?_
    refine ret1 rfl (by decide) ?_
    refine ⟨?_, ⟨_, _, rfl⟩, e1⟩
    subst hc; exact o1

theorem SlV_get {α : Type} {t : Ty α} {w : World} {F : Nat → Prop} {a : Option Addr} {n c k : Nat} {xs : List (List α)} {x : List α} (h : SlV (tSl t) w F (.slice a n c) xs) (hk : xs[k]? = some x) :
    ∃ q v, a = some q ∧ F q.block ∧ Pv w (q.add (k * 1)) [v] ∧ SlV t w F v x := by
  obtain ⟨a', c', he, h1, h2, h3, h4⟩ := h
  cases he
  obtain ⟨q, cs, ha, hF, hp, v, rfl, hv⟩ := h4 k x hk
  exact ⟨q, v, ha, hF, hp, hv⟩
theorem OwV_at0 {α : Type} {t : Ty α} {e : TypeId} {w : World} {B : Nat} {F : Nat → Prop} {q : Addr} {n c : Nat} {xs : List α} (h : OwV t e w B F (.slice (some q) n c) xs) : ∃ b, q = ⟨b, 0, none⟩ ∧ B ≤ b ∧ b < w.heap.size := by
  obtain ⟨cells, h1, _⟩ := h
  rcases h1.2 with ⟨h0, _⟩ | ⟨g, cap, cur, h0, hB, hg, _⟩
  · cases h0
  · cases h0
    exact ⟨g, rfl, hB, (Array.getElem?_eq_some_iff.1 hg).1⟩
theorem u8_inc (x : UInt8) : IntKind.u8.wrap ((x.toNat : Int) + 1) = ((x + 1).toNat : Int) := by
  rw [wr_u8m, UInt8.toNat_add]
  have : (1 : UInt8).toNat = 1 := rfl
  rw [this]; omega

theorem WireRows_c {w : World} {v : Value} {F : Nat → Prop} {ls : List (List UInt8)} {is : Bool} (hv : SlV (tSl tU8) w F v ls) (hF : ∀ b, F b → b < w.heap.size) : CallsR Try.prog 5 #[v, .bool is] w (fun r w' => r = .bool true ∧ Ext w w') := by
  obtain ⟨a, c, rfl⟩ := hv.shape
  have hmx := hv.max
  simp only [maxLen] at hmx
  obtain ⟨w0, rfl⟩ : ∃ x, x = w := ⟨w, rfl⟩
  refine enter 119 Try.func5 rfl rfl (by simp) ?_
  refine c_seq ?_
  refine wp_reg (by decide +kernel) ?_
  refine l_v (v_assign rfl) ?_
  refine l_nil ?_
  refine n_then ?_
  refine c_seq ?_
  refine wp_reg (by decide +kernel) ?_
  refine l_v (v_assign rfl) ?_
  refine l_nil ?_
  refine n_then ?_
  refine c_seq ?_
  refine c_seq ?_
  refine wp_reg (by decide +kernel) ?_
  refine l_v (v_assign rfl) ?_
  refine l_nil ?_
  refine n_then ?_
  refine wp_block ?_
  refine c_loop (τ := Option Addr × Nat × Nat) [4, 5, 6, 12, 13, 14, 15, 16, 17, 18, 19, 20, 21, 22, 23, 24, 25, 26, 27, 28, 29, 30, 31, 32, 33, 34, 35, 36, 37, 38, 39] (fun (a1, c1, k) => [(5, .slice a1 (ls.take k).flatten.length c1), (6, .int .i64 k)]) (fun (a1, c1, k) w => OwV tU8 nU8 w w0.heap.size NoK (.slice a1 (ls.take k).flatten.length c1) (ls.take k).flatten ∧ Ext w0 w ∧ k ≤ ls.length ∧ (ls.take k).flatten.length ≤ 18000) (fun (a1, c1, k) => ls.length - k) (none, 0, 0) (by exact ⟨rfl, rfl, trivial⟩) (by exact ⟨OwV.nil _ _ _ _ _, Keep.refl _, Nat.zero_le _, by simp⟩) ?_
  rintro ⟨a1, c1, k⟩ w1 j ⟨o1, e1, h1, h1b⟩
  refine c_seq ?_
  refine c_seq ?_
  refine wp_reg (by decide +kernel) ?_
  refine l_v (v_move (t := .int _ _) rfl) ?_
  refine l_v (v_move (t := .slice _ _ _) rfl) ?_
  refine l_v (v_len (et := 22) (by kernel_rfl) rfl) ?_
  refine l_v (v_lss rfl rfl) ?_
  refine l_nil ?_
  refine n_then ?_
  refine c_cond rfl rfl (fun hc => ?_) (fun hc => ?_)
  · skip
    have hc := dtrue hc
    obtain ⟨x, hx⟩ : ∃ x, ls[k]? = some x := ⟨ls[k]'(by omega), by simp [show k < ls.length by omega]⟩
    have hs := sum_take hx
    have hs3 := congrArg List.length hs
    rw [List.length_append] at hs3
    have zs_e1 := e1.size
    refine wp_skip ?_
    refine n_then ?_
    refine c_seq ?_
    refine wp_block ?_
    refine c_seq ?_
    refine c_seq ?_
    refine wp_reg (by decide +kernel) ?_
    refine l_v (v_move (t := .slice _ _ _) rfl) ?_
    refine l_v (v_move (t := .int _ _) rfl) ?_
    refine l_to (to_index (et := 22) (by kernel_rfl) (by kernel_rfl) (show _ = (Value.slice _ _ _) from rfl) (hv.ext e1) (show _ = (Value.int _ _) from rfl) rfl hx ?_)
    rintro q cs hF1 hp ⟨v1, rfl, hv1⟩
    obtain ⟨a2, c2, rfl⟩ := hv1.shape
    refine l_v (v_load (by kernel_rfl) rfl (pv_1 hp)) ?_
    refine l_v (v_len (et := 5) (by kernel_rfl) rfl) ?_
    refine l_v (v_gtr rfl rfl) ?_
    refine l_v (v_move (t := .bool _) rfl) ?_
    refine l_g1 rfl rfl (fun hG => v_move (t := .slice _ _ _) rfl) ?_
    refine l_g1 rfl rfl (fun hG => v_len (et := 5) (by kernel_rfl) (gd hG rfl)) ?_
    refine l_g1 rfl rfl (fun hG => v_gtr (gd hG rfl) rfl) ?_
    refine l_v (v_or rfl rfl) ?_
    refine l_v (v_move (t := .bool _) rfl) ?_
    refine l_g1 rfl rfl (fun hG => v_move (t := .int _ _) rfl) ?_
    refine l_g1 rfl rfl (fun hG => v_gtr (gd hG rfl) rfl) ?_
    refine l_v (v_or rfl rfl) ?_
    refine l_nil ?_
    refine n_then ?_
    refine c_cond rfl rfl (fun hd => ?_) (fun hd => ?_)
    · skip
      refine c_seq ?_
      refine wp_reg (by decide +kernel) ?_
      refine l_to (to_f0 (by kernel_rfl) (CallsR.mono (known_c) ?_))
      rintro _ w2 ⟨rfl, e2⟩
      have zs_e2 := e2.size
      refine l_v (v_assign (t := .bool _) rfl) ?_
      refine l_nil ?_
      refine n_then ?_
      refine wp_ret ?_
      refine r_then ?_
      refine r_blk ?_
      refine r_then ?_
      refine r_then ?_
      refine r_blk ?_
      refine r_then ?_
      refine ret1 rfl (by decide) ?_
      exact ⟨rfl, e1.trans e2⟩
    · skip
      simp only [Bool.or_eq_false_iff, decide_eq_false_iff_not] at hd
      refine wp_skip ?_
      refine n_then ?_
      refine wp_reg (by decide +kernel) ?_
      refine l_v (v_move (t := .slice _ _ _) rfl) ?_
      refine l_v (v_move (t := .slice _ _ _) rfl) ?_
      refine l_v (v_move (t := .int _ _) rfl) ?_
      refine l_to (to_index (et := 22) (by kernel_rfl) (by kernel_rfl) (show _ = (Value.slice _ _ _) from rfl) (hv.ext e1) (show _ = (Value.int _ _) from rfl) rfl hx ?_)
      rintro q cs hF1 hp ⟨v1, rfl, hv1⟩
      obtain ⟨a2, c2, rfl⟩ := hv1.shape
      refine l_v (v_load (by kernel_rfl) rfl (pv_1 hp)) ?_
      refine l_to (to_append (et := 5) (bytes := 1) (by kernel_rfl) (show _ = (Value.slice _ _ _) from rfl) o1 (show _ = (Value.slice _ _ _) from rfl) hv1 (flat_u8.to) (by first | omega | (simp; done) | (simp; omega)) (by simp only [maxLen]; first | omega | (simp; done) | (simp; omega)) (by omega) ?_)
      rintro a3 n3 c3 w4 o3 hn3 k3 b3 i3
      have zs_k3 := k3.size
      subst hn3
      have e3 : Ext w0 w4 := e1.step k3 fun b hb h => by have := (o1.own_lt h).1; omega
      rw [← hs] at o3 ⊢
      refine l_v (v_assign (t := .slice _ _ _) rfl) ?_
      refine l_nil ?_
      refine n_blk ?_
      refine n_then ?_
      refine wp_reg (by decide +kernel) ?_
      refine l_v (v_move (t := .int _ _) rfl) ?_
      refine l_v (v_add rfl rfl (by first | exact wr_i64 (by omega) (by omega) | rfl)) ?_
      refine l_v (v_assign (t := .int _ _) rfl) ?_
      refine l_nil ?_
      refine n_then ?_
      refine ⟨(a3, c3, k + 1), _, rfl, by (repeat (first | exact Off.of_over _ _ _ | refine Off.upd ?_ (by decide) _)), ⟨by first | rfl | exact congrArg (Value.int _) (by omega) | (simp; done), by first | rfl | exact congrArg (Value.int _) (by omega) | (simp; done), trivial⟩, ?_, ?_⟩
      · exact ⟨o3, e3, by omega, by omega⟩
      · dsimp only; omega
  · skip
    have hc := dfalse hc
    obtain rfl : k = ls.length := by omega
    have hfl0 : (ls.take ls.length).flatten = ls.flatten := by rw [List.take_length]
    rw [hfl0] at h1b
    have o1 : OwV tU8 nU8 w1 w0.heap.size NoK (.slice a1 (ls.take ls.length).flatten.length c1) ls.flatten := by
      have := o1; rw [hfl0] at this; rw [hfl0]; exact this
    have zs_e1 := e1.size
    refine wp_exit ?_
    refine x_then ?_
    refine x_then ?_
    refine x_hit ?_
    refine n_then ?_
    refine c_seq ?_
    refine wp_reg (by decide +kernel) ?_
    refine l_v (v_move (t := .slice _ _ _) rfl) ?_
    refine l_to (to_f1 (by kernel_rfl) (show _ = (Value.slice _ _ _) from rfl) (CallsR.mono (Join_c (hv.ext e1) (by omega)) ?_))
    rintro _ w2 ⟨o2, ⟨q2, c2, rfl⟩, e2⟩
    have zs_e2 := e2.size
    refine l_v (v_assign (t := .slice _ _ _) rfl) ?_
    refine l_nil ?_
    refine n_then ?_
    refine c_seq ?_
    refine wp_reg (by decide +kernel) ?_
    refine l_v (v_move (t := .slice _ _ _) rfl) ?_
    refine l_to (to_f1 (by kernel_rfl) (show _ = (Value.slice _ _ _) from rfl) (CallsR.mono (Bytes_c (o1.ext e2).view (by omega)) ?_))
    rintro _ w3 ⟨o3, ⟨q3, c3, rfl⟩, e3⟩
    have zs_e3 := e3.size
    refine l_v (v_assign (t := .slice _ _ _) rfl) ?_
    refine l_nil ?_
    refine n_then ?_
    refine c_seq ?_
    refine c_seq ?_
    refine wp_regd (NoK) (by kernel_rfl) (by decide +kernel) (by decide +kernel) ?_
    refine rt_v (fun vals w hR hd => v_move (t := .slice _ _ _) rfl) ?_
    refine rt_v (fun vals w hR hd => v_b2s (et := 5) (by kernel_rfl) (by kernel_rfl) (by kernel_rfl) (hd 0 rfl) ((o2.ext (e3.trans hR)).view)) ?_
    refine rt_v (fun vals w hR hd => v_move (t := .slice _ _ _) rfl) ?_
    refine rt_v (fun vals w hR hd => v_b2s (et := 5) (by kernel_rfl) (by kernel_rfl) (by kernel_rfl) (hd 2 rfl) ((o1.ext ((e2.trans e3).trans hR)).view)) ?_
    refine rt_v (fun vals w hR hd => OpVat.as (b := false) (v_sne (hd 1 rfl) (hd 3 rfl)) (by first | rfl | (simp; done) | (simp; omega))) ?_
    refine rt_v (fun vals w hR hd => v_move (t := .bool _) (hd 4 rfl)) ?_
    refine rt_hv rfl (fun vals w hd => hd 5 rfl) (fun vals w hR hd => v_move (t := .slice _ _ _) rfl) ?_
    refine rt_hv rfl (fun vals w hd => hd 5 rfl) (fun vals w hR hd => v_b2s (et := 5) (by kernel_rfl) (by kernel_rfl) (by kernel_rfl) (hd 6 rfl) ((o3.ext hR).view)) ?_
    refine rt_hv rfl (fun vals w hd => hd 5 rfl) (fun vals w hR hd => v_move (t := .slice _ _ _) rfl) ?_
    refine rt_hto (fun v w => Bv w AllB v (wBytes ls.flatten)) (fun v w w' h k => h.ext k) rfl (fun vals w hd => hd 5 rfl) (fun vals w hR hd => to_f1 (by kernel_rfl) (show _ = (Value.slice _ _ _) from (hd 8 rfl)) (CallsR.mono (refBytes_c (o1.ext ((e2.trans e3).trans hR)).view (by omega)) fun v w' h => ⟨h.2.2, h.1.view.allB⟩)) ?_
    refine rt_hv rfl (fun vals w hd => hd 5 rfl) (fun vals w hR hd => v_b2s (et := 5) (by kernel_rfl) (by kernel_rfl) (by kernel_rfl) rfl (hd 9 rfl)) ?_
    refine rt_hv rfl (fun vals w hd => hd 5 rfl) (fun vals w hR hd => OpVat.as (b := false) (v_sne (hd 7 rfl) (hd 10 rfl)) (by first | rfl | (simp; done) | (simp; omega))) ?_
    refine rt_v (fun vals w hR hd => v_orT (hd 5 rfl) (hd 11 rfl)) ?_
    refine rt_v (fun vals w hR hd => v_move (t := .bool _) (hd 12 rfl)) ?_
    refine rt_hv rfl (fun vals w hd => hd 13 rfl) (fun vals w hR hd => v_move (t := .bool _) rfl) ?_
    refine rt_hto (fun v w => Bv w AllB v (wFlag is)) (fun v w w' h k => h.ext k) rfl (fun vals w hd => hd 13 rfl) (fun vals w hR hd => to_f1 (by kernel_rfl) (show _ = (Value.bool _) from (hd 14 rfl)) (CallsR.mono Flag_c fun v w' h => ⟨h.2.2, h.1.view.allB⟩)) ?_
    refine rt_hv rfl (fun vals w hd => hd 13 rfl) (fun vals w hR hd => v_b2s (et := 5) (by kernel_rfl) (by kernel_rfl) (by kernel_rfl) rfl (hd 15 rfl)) ?_
    refine rt_hv rfl (fun vals w hd => hd 13 rfl) (fun vals w hR hd => v_move (t := .bool _) rfl) ?_
    refine rt_hto (fun v w => Bv w AllB v (wFlag is)) (fun v w w' h k => h.ext k) rfl (fun vals w hd => hd 13 rfl) (fun vals w hR hd => to_f1 (by kernel_rfl) (show _ = (Value.bool _) from (hd 17 rfl)) (CallsR.mono refFlag_c fun v w' h => ⟨h.2.2, h.1.view.allB⟩)) ?_
    refine rt_hv rfl (fun vals w hd => hd 13 rfl) (fun vals w hR hd => v_b2s (et := 5) (by kernel_rfl) (by kernel_rfl) (by kernel_rfl) rfl (hd 18 rfl)) ?_
    refine rt_hv rfl (fun vals w hd => hd 13 rfl) (fun vals w hR hd => OpVat.as (b := false) (v_sne (hd 16 rfl) (hd 19 rfl)) (by first | rfl | (simp; done) | (simp; omega))) ?_
    refine rt_v (fun vals w hR hd => v_orT (hd 13 rfl) (hd 20 rfl)) ?_
    refine rt_nil (fun w4 e4 => ?_)
    rintro _ rfl _ rfl _ rfl _ rfl _ rfl _ rfl _ rfl _ rfl _ rfl v9 h9 _ rfl _ rfl _ rfl _ rfl _ rfl v15 h15 _ rfl _ rfl v18 h18 _ rfl _ rfl _ rfl
    have zs_e4 := e4.size
    refine fin_nil ?_
    refine n_then ?_
    refine c_cond rfl rfl (fun hc2 => ?_) (fun hc2 => ?_)
    · skip
      cases hc2
    · skip
      obtain ⟨b2, rfl, hB2, hb2⟩ := OwV_at0 o2
      refine wp_skip ?_
      refine n_then ?_
      refine c_seq ?_
      refine c_seq ?_
      refine wp_reg (by decide +kernel) ?_
      refine l_v (v_assign rfl) ?_
      refine l_nil ?_
      refine n_then ?_
      refine wp_block ?_
      refine c_loop (τ := List UInt8 × Nat) [9, 66, 67, 68, 69, 70, 71, 72, 73, 74, 75, 76, 77, 78, 79] (fun (xs, i) => [(9, .int .i64 i)]) (fun (xs, i) w => OwV tU8 nU8 w w1.heap.size NoK (.slice (some ⟨b2, 0, none⟩) ls.flatten.length c2) xs ∧ Keep (fun b => b = b2) w4 w ∧ xs.length = ls.flatten.length ∧ i ≤ ls.flatten.length) (fun (xs, i) => ls.flatten.length - i) (ls.flatten, 0) (by exact ⟨rfl, trivial⟩) (by exact ⟨o2.ext (e3.trans e4), Keep.refl _, rfl, Nat.zero_le _⟩) ?_
      rintro ⟨xs, i⟩ w5 j2 ⟨o5, k5, h5, h5b⟩
      refine c_seq ?_
      refine c_seq ?_
      refine wp_reg (by decide +kernel) ?_
      refine l_v (v_move (t := .int _ _) rfl) ?_
      refine l_v (v_move (t := .slice _ _ _) rfl) ?_
      refine l_v (v_len (et := 5) (by kernel_rfl) rfl) ?_
      refine l_v (v_lss rfl rfl) ?_
      refine l_nil ?_
      refine n_then ?_
      refine c_cond rfl rfl (fun hc3 => ?_) (fun hc3 => ?_)
      · skip
        have hc3 := dtrue hc3
        obtain ⟨x, hx⟩ : ∃ x, xs[i]? = some x := ⟨xs[i]'(by omega), by simp [show i < xs.length by omega]⟩
        refine wp_skip ?_
        refine n_then ?_
        refine c_seq ?_
        refine wp_block ?_
        refine wp_reg (by decide +kernel) ?_
        refine l_v (v_move (t := .slice _ _ _) rfl) ?_
        refine l_v (v_move (t := .int _ _) rfl) ?_
        refine l_v (v_move (t := .slice _ _ _) rfl) ?_
        refine l_v (v_move (t := .int _ _) rfl) ?_
        refine l_v (v_indexAddr (et := 5) (sz := 1) (k := i) (by kernel_rfl) (by kernel_rfl) rfl rfl rfl (by omega)) ?_
        refine l_v (v_load (by kernel_rfl) rfl (o5.cell1 hx)) ?_
        refine l_v (v_add (t := ((x + 1).toNat : Int)) rfl rfl (u8_inc x)) ?_
        refine l_v (v_indexAddr (et := 5) (sz := 1) (k := i) (by kernel_rfl) (by kernel_rfl) rfl rfl rfl (by omega)) ?_
        refine l_to (to_storeO (k := i) (off := 0) rfl (by simp [add_lit, tU8]) (by decide) (show _ = (Value.int _ _) from rfl) rfl (by kernel_rfl) o5 (x1 := x + 1) hx (fun cs h => by cases h; exact (rfl : [Value.int .u8 ((x + 1).toNat : Int)] = _)) ?_)
        rintro w6 o6 k6 z6
        have zs_k6 := k6.size
        refine l_nil ?_
        refine n_blk ?_
        refine n_then ?_
        refine wp_reg (by decide +kernel) ?_
        refine l_v (v_move (t := .int _ _) rfl) ?_
        refine l_v (v_add rfl rfl (by first | exact wr_i64 (by omega) (by omega) | rfl)) ?_
        refine l_v (v_assign (t := .int _ _) rfl) ?_
        refine l_nil ?_
        refine n_then ?_
        refine ⟨(xs.set i (x + 1), i + 1), _, rfl, by (repeat (first | exact Off.of_over _ _ _ | refine Off.upd ?_ (by decide) _)), ⟨by first | rfl | exact congrArg (Value.int _) (by omega) | (simp; done), trivial⟩, ?_, ?_⟩
        · exact ⟨o6, k5.trans k6, by simp [h5], by omega⟩
        · dsimp only; omega
      · skip
        have e24 : Ext w2 w4 := e3.trans e4
        have e04 := (e1.trans e2).trans e24
        have e05 : Ext w0 w5 := e04.step k5 fun b hb h => by omega
        have hv5 := hv.ext e05
        have o1' := ((o1.ext (e2.trans e24)).keep k5 (fun b hb h => by have := (o1.own_lt hb).2; omega) (fun b _ h => h.elim)).view.allB
        have o3' := ((o3.ext e4).keep k5 (fun b hb h => by have := (o3.own_lt hb).1; omega) (fun b _ h => h.elim)).view.allB
        have hfl : ∀ i, (ls.take i).flatten.length ≤ ls.flatten.length := len_take_le ls
        refine wp_exit ?_
        refine x_then ?_
        refine x_then ?_
        refine x_hit ?_
        refine n_then ?_
        refine c_seq ?_
        refine c_seq ?_
        refine wp_reg (by decide +kernel) ?_
        refine l_v (v_assign rfl) ?_
        refine l_v (v_assign rfl) ?_
        refine l_nil ?_
        refine n_then ?_
        refine wp_block ?_
        refine c_loop (τ := Nat) [4, 10, 11, 80, 81, 82, 83, 84, 85, 86, 87, 88, 89, 90, 91, 92, 93, 94, 95, 96, 97, 98, 99, 100, 101, 102, 103, 104, 105, 106, 107, 108, 109] (fun k => [(10, .int .i64 k), (11, .int .i64 (ls.take k).flatten.length)]) (fun k w => Ext w5 w ∧ k ≤ ls.length) (fun k => ls.length - k) 0 (by exact ⟨rfl, rfl, trivial⟩) (by exact ⟨Keep.refl _, Nat.zero_le _⟩) ?_
        rintro k w6 j3 ⟨e6, h6⟩
        refine c_seq ?_
        refine c_seq ?_
        refine wp_reg (by decide +kernel) ?_
        refine l_v (v_move (t := .int _ _) rfl) ?_
        refine l_v (v_move (t := .slice _ _ _) rfl) ?_
        refine l_v (v_len (et := 22) (by kernel_rfl) rfl) ?_
        refine l_v (v_lss rfl rfl) ?_
        refine l_nil ?_
        refine n_then ?_
        refine c_cond rfl rfl (fun hc4 => ?_) (fun hc4 => ?_)
        · skip
          have hc4 := dtrue hc4
          obtain ⟨x, hx⟩ : ∃ x, ls[k]? = some x := ⟨ls[k]'(by omega), by simp [show k < ls.length by omega]⟩
          have hs := sum_take hx
          have hs3 := congrArg List.length hs
          rw [List.length_append] at hs3
          have hfk := hfl (k + 1)
          obtain ⟨q, v1, rfl, hF1, hp, hv1⟩ := SlV_get (hv5.ext e6) hx
          obtain ⟨a1, c1, rfl⟩ := hv1.shape
          have hxe : (ls.flatten.take ((ls.take k).flatten.length + x.length)).drop (ls.take k).flatten.length = x := by
            have h7 : ls.flatten = (ls.take k).flatten ++ (x ++ (ls.drop (k + 1)).flatten) := by
              rw [← List.append_assoc, ← hs, ← List.flatten_append, List.take_append_drop]
            rw [h7, ← List.append_assoc, List.take_left' (by simp), List.drop_left' rfl]
          refine wp_skip ?_
          refine n_then ?_
          refine c_seq ?_
          refine wp_block ?_
          refine c_seq ?_
          refine c_seq ?_
          refine wp_regd (NoK) (by kernel_rfl) (by decide +kernel) (by decide +kernel) ?_
          refine rt_v (fun vals w hR hd => v_move (t := .slice _ _ _) rfl) ?_
          refine rt_v (fun vals w hR hd => v_move (t := .int _ _) rfl) ?_
          refine rt_v (fun vals w hR hd => v_indexAddr (et := 22) (sz := 1) (k := k) (by kernel_rfl) (by kernel_rfl) (hd 0 rfl) (hd 1 rfl) rfl (by omega)) ?_
          refine rt_v (fun vals w hR hd => v_load (by kernel_rfl) (hd 2 rfl) (pv_1 (hp.ext hR))) ?_
          refine rt_v (fun vals w hR hd => v_b2s (et := 5) (by kernel_rfl) (by kernel_rfl) (by kernel_rfl) (hd 3 rfl) (hv1.ext hR)) ?_
          refine rt_v (fun vals w hR hd => v_move (t := .slice _ _ _) rfl) ?_
          refine rt_v (fun vals w hR hd => v_move (t := .int _ _) rfl) ?_
          refine rt_v (fun vals w hR hd => v_move (t := .int _ _) rfl) ?_
          refine rt_v (fun vals w hR hd => v_move (t := .slice _ _ _) rfl) ?_
          refine rt_v (fun vals w hR hd => v_move (t := .int _ _) rfl) ?_
          refine rt_v (fun vals w hR hd => v_indexAddr (et := 22) (sz := 1) (k := k) (by kernel_rfl) (by kernel_rfl) (hd 8 rfl) (hd 9 rfl) rfl (by omega)) ?_
          refine rt_v (fun vals w hR hd => v_load (by kernel_rfl) (hd 10 rfl) (pv_1 (hp.ext hR))) ?_
          refine rt_v (fun vals w hR hd => v_len (et := 5) (by kernel_rfl) (hd 11 rfl)) ?_
          refine rt_v (fun vals w hR hd => v_add (hd 7 rfl) (hd 12 rfl) (by first | exact wr_i64 (by omega) (by omega) | rfl)) ?_
          refine rt_to (fun v w => Bv w AllB v x) (fun v w w' h k => h.ext k) (fun vals w hR hd => to_slice (et := nU8) (l := (ls.take k).flatten.length) (h := (ls.take k).flatten.length + x.length) (by kernel_rfl) (by kernel_rfl) (show _ = (Value.slice _ _ _) from (hd 5 rfl)) (o1'.ext (e6.trans hR)) ⟨_, by exact (hd 6 rfl)⟩ ⟨_, by exact (hd 13 rfl)⟩ (by omega) (by omega) (fun a n c h _ _ => ⟨Keep.refl _, by rw [hxe] at h; exact h.allB⟩)) ?_
          refine rt_v (fun vals w hR hd => v_b2s (et := 5) (by kernel_rfl) (by kernel_rfl) (by kernel_rfl) rfl (hd 14 rfl)) ?_
          refine rt_v (fun vals w hR hd => v_sne (hd 4 rfl) (hd 15 rfl)) ?_
          refine rt_nil (fun w7 e7 => ?_)
          rintro _ rfl _ rfl _ rfl _ rfl _ rfl _ rfl _ rfl _ rfl _ rfl _ rfl _ rfl _ rfl _ rfl _ rfl v14 h14 _ rfl _ rfl
          have zs_e7 := e7.size
          refine fin_nil ?_
          refine n_then ?_
          refine c_cond rfl rfl (fun hc5 => ?_) (fun hc5 => ?_)
          · skip
            simp at hc5
          · skip
            refine wp_skip ?_
            refine n_then ?_
            refine wp_reg (by decide +kernel) ?_
            refine l_v (v_move (t := .int _ _) rfl) ?_
            refine l_v (v_move (t := .slice _ _ _) rfl) ?_
            refine l_v (v_move (t := .int _ _) rfl) ?_
            refine l_to (to_index (et := 22) (by kernel_rfl) (by kernel_rfl) (show _ = (Value.slice _ _ _) from rfl) ((hv5.ext e6).ext e7) (show _ = (Value.int _ _) from rfl) rfl hx ?_)
            rintro q cs hF1 hp ⟨v1, rfl, hv1⟩
            obtain ⟨a1, c1, rfl⟩ := hv1.shape
            refine l_v (v_load (by kernel_rfl) rfl (pv_1 hp)) ?_
            refine l_v (v_len (et := 5) (by kernel_rfl) rfl) ?_
            refine l_v (v_add rfl rfl (by first | exact wr_i64 (by omega) (by omega) | rfl)) ?_
            refine l_v (v_assign (t := .int _ _) rfl) ?_
            refine l_nil ?_
            refine n_blk ?_
            refine n_then ?_
            refine wp_reg (by decide +kernel) ?_
            refine l_v (v_move (t := .int _ _) rfl) ?_
            refine l_v (v_add rfl rfl (by first | exact wr_i64 (by omega) (by omega) | rfl)) ?_
            refine l_v (v_assign (t := .int _ _) rfl) ?_
            refine l_nil ?_
            refine n_then ?_
            refine ⟨k + 1, _, rfl, by (repeat (first | exact Off.of_over _ _ _ | refine Off.upd ?_ (by decide) _)), ⟨by first | rfl | exact congrArg (Value.int _) (by omega) | (simp; done) | (exact congrArg (Value.int _) (by omega)), by first | rfl | exact congrArg (Value.int _) (by omega) | (simp; done) | (exact congrArg (Value.int _) (by omega)), trivial⟩, ?_, ?_⟩
            · exact ⟨e6.trans e7, by omega⟩
            · dsimp only; omega
        · skip
          have e06 := e05.trans e6
          refine wp_exit ?_
          refine x_then ?_
          refine x_then ?_
          refine x_hit ?_
          refine n_then ?_
          refine c_seq ?_
          refine wp_regd (NoK) (by kernel_rfl) (by decide +kernel) (by decide +kernel) ?_
          refine rt_v (fun vals w hR hd => v_move (t := .slice _ _ _) rfl) ?_
          refine rt_to (fun v w => Bv w AllB v (wBytes ls.flatten)) (fun v w w' h k => h.ext k) (fun vals w hR hd => to_f1 (by kernel_rfl) (show _ = (Value.slice _ _ _) from (hd 0 rfl)) (CallsR.mono (Bytes_c (o1'.ext (e6.trans hR)) (by omega)) fun v w' h => ⟨h.2.2, h.1.view.allB⟩)) ?_
          refine rt_v (fun vals w hR hd => v_b2s (et := 5) (by kernel_rfl) (by kernel_rfl) (by kernel_rfl) rfl (hd 1 rfl)) ?_
          refine rt_v (fun vals w hR hd => v_move (t := .slice _ _ _) rfl) ?_
          refine rt_v (fun vals w hR hd => v_b2s (et := 5) (by kernel_rfl) (by kernel_rfl) (by kernel_rfl) (hd 3 rfl) (o3'.ext (e6.trans hR))) ?_
          refine rt_v (fun vals w hR hd => OpVat.as (b := true) (v_seq (hd 2 rfl) (hd 4 rfl)) (by first | rfl | (simp; done) | (simp; omega))) ?_
          refine rt_v (fun vals w hR hd => v_move (t := .bool _) (hd 5 rfl)) ?_
          refine rt_hto (fun v w => v = (.bool true)) (fun v w w' h k => h) rfl (fun vals w hd => hd 6 rfl) (fun vals w hR hd => to_f0 (by kernel_rfl) (CallsR.mono known_c fun v w' h => ⟨h.2, h.1⟩)) ?_
          refine rt_v (fun vals w hR hd => v_andT (hd 6 rfl) (hd 7 rfl)) ?_
          refine rt_v (fun vals w hR hd => v_assign (t := .bool _) (hd 8 rfl)) ?_
          refine rt_nil (fun w7 e7 => ?_)
          rintro _ rfl v1 h1 _ rfl _ rfl _ rfl _ rfl _ rfl _ rfl _ rfl _ rfl
          have zs_e7 := e7.size
          refine fin_nil ?_
          refine n_then ?_
          refine wp_ret ?_
          refine ret1 rfl (by decide) ?_
          exact ⟨rfl, e06.trans e7⟩
end Go.Proofs.Ythnpnniiejcnbaa
