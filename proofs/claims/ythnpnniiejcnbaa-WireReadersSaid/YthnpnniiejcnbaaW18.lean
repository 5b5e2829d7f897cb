/- A part of the proof: steps and lemmas for the walks through the given program. -/
import Derived.Test.YthnpnniiejcnbaaW17
namespace Go.Proofs.Ythnpnniiejcnbaa
open Go.Vc
set_option linter.unusedVariables false
set_option linter.unusedSimpArgs false
set_option maxRecDepth 100000

theorem rdU_sU {x : Int} (h : InU x) (r : List UInt8) : rdU (sU x ++ r) = .ok (x, r) := by
  have e1 : (x.toNat : Int) = x := by have := h.1; omega
  rw [rdU, sU, rdNum_wNum (by have := h.1; have := h.2; omega)]
  simp only [e1]
theorem rdU_in : ∀ l x r, rdU l = .ok (x, r) → InU x := by
  intro l x r h
  rw [rdU] at h
  rcases hd : rdNum l with _ | ⟨n, l'⟩
  · rw [hd] at h; cases h
  · rw [hd] at h; cases h
    have := rdNum_lt hd
    constructor <;> omega
theorem rdU_err : ∀ l e, rdU l = .error e → e = 4 := by
  intro l e h
  rw [rdU] at h
  rcases hd : rdNum l with _ | ⟨n, l'⟩
  · rw [hd] at h; cases h; rfl
  · rw [hd] at h; cases h
theorem rdBytes_back {x r : List UInt8} (hl : x.length < 18446744073709551616) : rdBytes x.length (wBytes x ++ r) = .ok (x, r) := by
  rw [rdBytes, tryRd, wBytes, List.append_assoc, rdNum_wNum hl]
  simp only [Nat.le_refl, if_true]
  rw [rdSome, if_pos (by simp)]
  simp
theorem rdBytes_cut {x : List UInt8} {j most : Nat} (hl : x.length < 18446744073709551616) (hm : x.length ≤ most) (hj : j < (wBytes x).length) : rdBytes most ((wBytes x).take j) = .error 4 := by
  rcases Nat.lt_or_ge j (wNum x.length).length with hlt | hge
  · have h1 : (wBytes x).take j = (wNum x.length).take j := by rw [wBytes, List.take_append_of_le_length (by omega)]
    rw [rdBytes, tryRd, h1, rdNum_cut hl hlt]
  · have h1 : (wBytes x).take j = wNum x.length ++ x.take (j - (wNum x.length).length) := by
      rw [wBytes, List.take_append, List.take_of_length_le hge]
    rw [rdBytes, tryRd, h1, rdNum_wNum hl]
    simp only []
    rw [if_pos hm, rdSome, if_neg]
    rw [wBytes, List.length_append] at hj
    simp only [List.length_take]; omega
theorem tryU_back {xs : List Int} {r : List UInt8} (h : ∀ x ∈ xs, InU x) (hl : xs.length < 18446744073709551616) : tryRd (rdList rdU) xs.length (wList sU xs ++ r) = .ok (xs, r) := by
  rw [tryRd, wList, List.append_assoc, rdNum_wNum hl]
  simp only [Nat.le_refl, if_true]
  exact rdList_back (ρ := rdU) (sp := sU) xs r (fun x hx => rdU_sU (h x hx))

theorem bkTh_back {t : Th} (ok : ThOk t) (r : List UInt8) : bkTh t (wTh t ++ r) = (true, r) := by
  obtain ⟨k, n, s, f, bs, ls⟩ := t
  obtain ⟨hn, hs, hb, hl, hu⟩ := ok
  simp only [] at hn hs hb hl hu
  have hz := zig_lt hs.1 hs.2
  unfold bkTh wTh
  simp only []
  by_cases h1 : k = 1
  · have hr := rdNum_wNum (n := n.toNat) (by have := hn.1; have := hn.2; omega) r
    simp only [if_pos h1]
    have h2 : rest (wNum n.toNat ++ r) = r := by rw [rest, hr]
    rw [h2, hr]; simp
  · simp only [if_neg h1]
    by_cases h2 : k = 2
    · have hr := rdNum_wNum hz r
      simp only [if_pos h2]
      have h2 : rest (wNum (zig s) ++ r) = r := by rw [rest, hr]
      rw [h2, hr]; simp
    · simp only [if_neg h2]
      by_cases h3 : k = 3
      · simp only [if_pos h3]
        have hr : rdFlag (wFlag f ++ r) = some (f, r) := by cases f <;> rfl
        have h2 : restF (wFlag f ++ r) = r := by rw [restF, hr]
        rw [h2, hr]; simp
      · simp only [if_neg h3]
        by_cases h4 : k = 4
        · simp only [if_pos h4]
          rw [rdBytes_back (by omega)]; simp
        · simp only [if_neg h4]
          by_cases h5 : k = 5
          · simp only [if_pos h5]
            rw [tryU_back hu (by omega)]; simp
          · simp only [if_neg h5]; simp
theorem bkTh_cut {t : Th} (ok : ThOk t) (hne : wTh t ≠ []) : (bkTh t (wTh t).dropLast).1 = false := by
  obtain ⟨k, n, s, f, bs, ls⟩ := t
  obtain ⟨hn, hs, hb, hl, hu⟩ := ok
  simp only [] at hn hs hb hl hu
  have hz := zig_lt hs.1 hs.2
  have hlen : 0 < (wTh (k, n, s, f, bs, ls)).length := List.length_pos_iff.2 hne
  rw [List.dropLast_eq_take]
  unfold bkTh
  unfold wTh at *
  simp only [] at *
  by_cases h1 : k = 1
  · simp only [if_pos h1] at *
    rw [rdNum_cut (by have := hn.1; have := hn.2; omega) (by omega)]; simp
  · simp only [if_neg h1] at *
    by_cases h2 : k = 2
    · simp only [if_pos h2] at *
      rw [rdNum_cut hz (by omega)]; simp
    · simp only [if_neg h2] at *
      by_cases h3 : k = 3
      · simp only [if_pos h3] at *
        have : (wFlag f).take ((wFlag f).length - 1) = [] := rfl
        rw [this]; simp [rdFlag]
      · simp only [if_neg h3] at *
        by_cases h4 : k = 4
        · simp only [if_pos h4] at *
          rw [rdBytes_cut (by omega) (Nat.le_refl _) (by omega)]
        · simp only [if_neg h4] at *
          by_cases h5 : k = 5
          · simp only [if_pos h5] at *
            have hw : 0 < (wList sU ls).length := by rw [wList, List.length_append]; have := wNum_pos ls.length; omega
            rw [tryList_cut (p := InU) (sp := sU) (fun x hx => rdU_sU hx) rdU_form rdU_in rdU_err hu (by omega) (Nat.le_refl _) (by omega)]
          · simp only [if_neg h5] at *; exact absurd rfl hne
def rowT (ts : List Th) : List UInt8 := (ts.map wTh).flatten
theorem bkAll_back : ∀ (ts : List Th), (∀ t ∈ ts, ThOk t) → ∀ r, bkAll ts (rowT ts ++ r) = true ∧ bkRest ts (rowT ts ++ r) = r
  | [], _, r => by simp [bkAll, bkRest, rowT]
  | t :: ts, h, r => by
    have h1 := bkTh_back (h t List.mem_cons_self) (rowT ts ++ r)
    have h2 := bkAll_back ts (fun x hx => h x (List.mem_cons_of_mem _ hx)) r
    have h3 : rowT (t :: ts) ++ r = wTh t ++ (rowT ts ++ r) := by simp [rowT]
    rw [h3]
    simp only [bkAll, bkRest, h1]
    exact ⟨by rw [h2.1]; rfl, h2.2⟩
theorem bkAll_cut : ∀ (ts : List Th), (∀ t ∈ ts, ThOk t) → rowT ts ≠ [] → bkAll ts (rowT ts).dropLast = false
  | [], _, h => absurd rfl h
  | t :: ts, h, hne => by
    have h3 : rowT (t :: ts) = wTh t ++ rowT ts := by simp [rowT]
    rw [h3] at hne ⊢
    by_cases h4 : rowT ts = []
    · rw [h4, List.append_nil] at hne ⊢
      simp only [bkAll, bkTh_cut (h t List.mem_cons_self) hne]; rfl
    · have h1 := bkTh_back (h t List.mem_cons_self) (rowT ts).dropLast
      rw [List.dropLast_append_of_ne_nil h4]
      simp only [bkAll, h1]
      rw [bkAll_cut ts (fun x hx => h x (List.mem_cons_of_mem _ hx)) h4]; rfl
theorem wTh_len {t : Th} (ok : ThOk t) : (wTh t).length ≤ 30010 := by
  obtain ⟨k, n, s, f, bs, ls⟩ := t
  obtain ⟨hn, hs, hb, hl, hu⟩ := ok
  simp only [] at hn hs hb hl hu
  have h1 := wNum_len10 (n := n.toNat) (by have := hn.1; have := hn.2; omega)
  have h2 := wNum_len10 (zig_lt hs.1 hs.2)
  have h3 := wNum_len10 (n := bs.length) (by omega)
  have h4 := wNum_len10 (n := ls.length) (by omega)
  have h5 := flat_le (k := 10) (sp := sU) ls (fun x hx => sU_len (hu x hx))
  have h6 : (wFlag f).length = 1 := rfl
  unfold wTh
  simp only []
  split
  · omega
  · split
    · omega
    · split
      · omega
      · split
        · rw [wBytes, List.length_append]; omega
        · split
          · rw [wList, List.length_append]; omega
          · simp
theorem rowT_succ {ts : List Th} {k : Nat} {t : Th} (h : ts[k]? = some t) : rowT (ts.take (k + 1)) = rowT (ts.take k) ++ wTh t := by
  rw [rowT, rowT, List.take_add_one, h]; simp

theorem WireKeeps_c {w : World} {v : Value} {F : Nat → Prop} {ts : List Th} (hv : SlV tTh w F v ts) (hF : ∀ b, F b → b < w.heap.size) : CallsR Try.prog 10 #[v] w (fun r w' => r = .bool true ∧ Ext w w') := by
  obtain ⟨a, c, rfl⟩ := hv.shape
  have hmx := hv.max
  simp only [maxLen] at hmx
  obtain ⟨w0, rfl⟩ : ∃ x, x = w := ⟨w, rfl⟩
  refine enter 75 Try.func10 rfl rfl (by simp) ?_
  refine c_seq ?_
  refine wp_reg (by decide +kernel) ?_
  refine l_v (v_assign rfl) ?_
  refine l_nil ?_
  refine n_then ?_
  refine c_seq ?_
  refine c_seq ?_
  refine wp_reg (by decide +kernel) ?_
  refine l_to (to_f0 (by kernel_rfl) (CallsR.mono (known_c) ?_))
  rintro _ w1 ⟨rfl, e1⟩
  have zs_e1 := e1.size
  refine l_v (v_not rfl) ?_
  refine l_nil ?_
  refine n_then ?_
  refine c_cond rfl rfl (fun hc => ?_) (fun hc => ?_)
  · skip
    cases hc
  · skip
    refine wp_skip ?_
    refine n_then ?_
    refine c_seq ?_
    refine wp_reg (by decide +kernel) ?_
    refine l_v (v_assign rfl) ?_
    refine l_nil ?_
    refine n_then ?_
    refine c_seq ?_
    refine c_seq ?_
    refine wp_reg (by decide +kernel) ?_
    refine l_v (v_assign rfl) ?_
    refine l_nil ?_
    refine n_then ?_
    refine wp_block ?_
    refine c_loop (τ := Option Addr × Nat × Nat) [2, 3, 4, 9, 10, 11, 12, 13, 14, 15, 16, 17, 18, 19, 20, 21, 22, 23, 24, 25, 26, 27, 28, 29, 30, 31, 32, 33, 34, 35, 36, 37, 38, 39, 40, 41] (fun (a1, c1, k) => [(3, .slice a1 (rowT (ts.take k)).length c1), (4, .int .i64 k)]) (fun (a1, c1, k) w => OwV tU8 nU8 w w1.heap.size NoK (.slice a1 (rowT (ts.take k)).length c1) (rowT (ts.take k)) ∧ Ext w1 w ∧ k ≤ ts.length ∧ k ≤ 61 ∧ (rowT (ts.take k)).length ≤ k * 30010 ∧ (∀ t ∈ ts.take k, ThOk t)) (fun (a1, c1, k) => ts.length - k) (none, 0, 0) (by exact ⟨rfl, rfl, trivial⟩) (by exact ⟨OwV.nil _ _ _ _ _, Keep.refl _, Nat.zero_le _, Nat.zero_le _, by simp [rowT], by simp⟩) ?_
    rintro ⟨a1, c1, k⟩ w2 j ⟨o2, e2, h2, h2b, h2c, h2d⟩
    refine c_seq ?_
    refine c_seq ?_
    refine wp_reg (by decide +kernel) ?_
    refine l_v (v_move (t := .int _ _) rfl) ?_
    refine l_v (v_move (t := .slice _ _ _) rfl) ?_
    refine l_v (v_len (et := 81) (by kernel_rfl) rfl) ?_
    refine l_v (v_lss rfl rfl) ?_
    refine l_nil ?_
    refine n_then ?_
    refine c_cond rfl rfl (fun hd => ?_) (fun hd => ?_)
    · skip
      have hd := dtrue hd
      obtain ⟨t, ht⟩ : ∃ t, ts[k]? = some t := ⟨ts[k]'(by omega), by simp [show k < ts.length by omega]⟩
      have zs_e2 := e2.size
      obtain ⟨q, cs, rfl, hFq, hp, hrep⟩ := SlV_at (hv.ext (e1.trans e2)) ht
      obtain ⟨v4, v5, rfl, h4, h5, hn, hs⟩ := th_cells hrep
      have hu5 := u_in h5
      obtain ⟨a4, c4, rfl⟩ := h4.shape
      obtain ⟨a5, c5, rfl⟩ := h5.shape
      refine wp_skip ?_
      refine n_then ?_
      refine c_seq ?_
      refine wp_block ?_
      refine c_seq ?_
      refine c_seq ?_
      refine wp_reg (by decide +kernel) ?_
      refine l_v (v_move (t := .int _ _) rfl) ?_
      refine l_v (v_gtr rfl rfl) ?_
      refine l_v (v_move (t := .bool _) rfl) ?_
      refine l_g1 rfl rfl (fun hG => v_move (t := .slice _ _ _) rfl) ?_
      refine l_g1 rfl rfl (fun hG => v_move (t := .int _ _) rfl) ?_
      refine l_g1 rfl rfl (fun hG => v_indexAddr (et := 81) (sz := 6) (k := k) (by kernel_rfl) (by kernel_rfl) (gd hG rfl) (gd hG rfl) rfl (by omega)) ?_
      refine l_g1 rfl rfl (fun hG => v_fieldAddr (off := 4) (ft := 22) (by kernel_rfl) (gd hG rfl)) ?_
      refine l_g1 rfl rfl (fun hG => v_load (by kernel_rfl) (gd hG rfl) (hp 4 _ rfl)) ?_
      refine l_g1 rfl rfl (fun hG => v_len (et := 5) (by kernel_rfl) (gd hG rfl)) ?_
      refine l_g1 rfl rfl (fun hG => v_gtr (gd hG rfl) rfl) ?_
      refine l_v (v_or rfl rfl) ?_
      refine l_v (v_move (t := .bool _) rfl) ?_
      refine l_g1 rfl rfl (fun hG => v_move (t := .slice _ _ _) rfl) ?_
      refine l_g1 rfl rfl (fun hG => v_move (t := .int _ _) rfl) ?_
      refine l_g1 rfl rfl (fun hG => v_indexAddr (et := 81) (sz := 6) (k := k) (by kernel_rfl) (by kernel_rfl) (gd hG rfl) (gd hG rfl) rfl (by omega)) ?_
      refine l_g1 rfl rfl (fun hG => v_fieldAddr (off := 5) (ft := 63) (by kernel_rfl) (gd hG rfl)) ?_
      refine l_g1 rfl rfl (fun hG => v_load (by kernel_rfl) (gd hG rfl) (hp 5 _ rfl)) ?_
      refine l_g1 rfl rfl (fun hG => v_len (et := 29) (by kernel_rfl) (gd hG rfl)) ?_
      refine l_g1 rfl rfl (fun hG => v_gtr (gd hG rfl) rfl) ?_
      refine l_v (v_or rfl rfl) ?_
      refine l_nil ?_
      refine n_then ?_
      refine c_cond rfl rfl (fun hd2 => ?_) (fun hd2 => ?_)
      · skip
        refine c_seq ?_
        refine wp_reg (by decide +kernel) ?_
        refine l_v (v_assign rfl) ?_
        refine l_nil ?_
        refine n_then ?_
        refine wp_ret ?_
        refine r_then ?_
        refine r_blk ?_
        refine r_then ?_
        refine r_then ?_
        refine r_blk ?_
        refine r_then ?_
        refine ret1 rfl (by decide) ?_
        exact ⟨rfl, e1.trans e2⟩
      · skip
        simp at hd2
        have hok : ThOk t := ⟨hn, hs, by omega, by omega, hu5⟩
        have hwl := wTh_len hok
        have hsu := rowT_succ ht
        refine wp_skip ?_
        refine n_then ?_
        refine wp_reg (by decide +kernel) ?_
        refine l_v (v_move (t := .slice _ _ _) rfl) ?_
        refine l_v (v_move (t := .slice _ _ _) rfl) ?_
        refine l_v (v_move (t := .int _ _) rfl) ?_
        refine l_v (v_indexAddr (et := 81) (sz := 6) (k := k) (by kernel_rfl) (by kernel_rfl) rfl rfl rfl (by omega)) ?_
        refine l_v (v_loadA (n := 6) (by kernel_rfl) rfl hp (rfl)) ?_
        refine l_to (to_f1 (by kernel_rfl) (show _ = (Value.agg _) from rfl) (CallsR.mono (written_c hrep (by omega) (by omega)) ?_))
        rintro _ w3 ⟨⟨B3, hB3, o3⟩, e3⟩
        have zs_e3 := e3.size
        obtain ⟨a3, c3, rfl⟩ := o3.shape
        refine l_to (to_append (et := 5) (bytes := 1) (by kernel_rfl) (show _ = (Value.slice _ _ _) from rfl) (o2.ext e3) (show _ = (Value.slice _ _ _) from rfl) o3.view (flat_u8.to) (by first | omega | (simp; done) | (simp; omega)) (by simp only [maxLen]; first | omega | (simp; done) | (simp; omega)) (by omega) ?_)
        rintro a6 n6 c6 w6 o6 hn6 k6 b6 i6
        have zs_k6 := k6.size
        subst hn6
        have e6 : Ext w1 w6 := (e2.trans e3).step k6 fun b hb h => by have := (o2.own_lt h).1; omega
        rw [← hsu] at o6 ⊢
        refine l_v (v_assign (t := .slice _ _ _) rfl) ?_
        refine l_nil ?_
        refine n_blk ?_
        refine n_then ?_
        refine wp_reg (by decide +kernel) ?_
        refine l_v (v_move (t := .int _ _) rfl) ?_
        refine l_v (v_add rfl rfl (by first | exact wr_i64 (by omega) (by omega) | rfl)) ?_
        refine l_v (v_assign (t := .int _ _) rfl) ?_
        refine l_nil ?_
        refine n_then ?_
        refine ⟨(a6, c6, k + 1), _, rfl, by (repeat (first | exact Off.of_over _ _ _ | refine Off.upd ?_ (by decide) _)), ⟨by first | rfl | exact congrArg (Value.int _) (by omega) | (simp; done), by first | rfl | exact congrArg (Value.int _) (by omega) | (simp; done), trivial⟩, ?_, ?_⟩
        · refine ⟨o6, e6, by omega, by omega, ?_, ?_⟩
          · rw [hsu, List.length_append]; omega
          · intro x hx; rw [List.take_add_one, ht] at hx; simp at hx; rcases hx with hx | rfl; exact h2d x hx; exact hok
        · dsimp only; omega
    · skip
      have hd := dfalse hd
      obtain rfl : k = ts.length := by omega
      have htl : ts.take ts.length = ts := List.take_length
      rw [htl] at h2d h2c
      have o2 : OwV tU8 nU8 w2 w1.heap.size NoK (.slice a1 (rowT (ts.take ts.length)).length c1) (rowT ts) := by have := o2; rw [htl] at this; rw [htl]; exact this
      have hlt : (rowT (ts.take ts.length)).length = (rowT ts).length := by rw [htl]
      have zs_e2 := e2.size
      obtain ⟨hall, hrest⟩ := bkAll_back ts h2d []
      rw [List.append_nil] at hall hrest
      refine wp_exit ?_
      refine x_then ?_
      refine x_then ?_
      refine x_hit ?_
      refine n_then ?_
      refine c_seq ?_
      refine wp_reg (by decide +kernel) ?_
      refine l_v (v_move (t := .slice _ _ _) rfl) ?_
      refine l_to (to_f1 (by kernel_rfl) (show _ = (Value.slice _ _ _) from rfl) (CallsR.mono (Open_c o2.view (by omega)) ?_))
      rintro _ w3 ⟨b3, rfl, r3, hb3, e3, z3⟩
      have zs_e3 := e3.size
      have e03 := (e1.trans e2).trans e3
      refine l_v (v_assign (t := .pointer _) rfl) ?_
      refine l_nil ?_
      refine n_then ?_
      refine c_seq ?_
      refine c_seq ?_
      refine wp_reg (by decide +kernel) ?_
      refine l_v (v_move (t := .pointer _) rfl) ?_
      refine l_v (OpVat.as (b := false) (v_peql (et := 71) (by kernel_rfl) rfl rfl) (by first | rfl | (simp; done) | (simp; omega))) ?_
      refine l_v (v_move (t := .bool _) rfl) ?_
      refine l_gt rfl rfl (OpTo.of_v (v_move (t := .pointer _) rfl) ?_)
      refine l_gt rfl rfl (OpTo.of_v (v_move (t := .slice _ _ _) rfl) ?_)
      refine l_gt rfl rfl (to_f2 (by kernel_rfl) (show _ = (Value.pointer _) from rfl) (show _ = (Value.slice _ _ _) from rfl) (CallsR.mono (keeps_c r3 (fun k hk => hk.2) (by omega) (hv.ext e03) (fun k hk => by have := hF k hk; omega) (fun t ht => ⟨(h2d t ht).b, (h2d t ht).l⟩)) ?_))
      rintro r w4 ⟨hr4, r4, k4⟩
      have zs_k4 := k4.size
      rw [hall] at hr4
      subst hr4
      have r4 := r4 hall
      rw [hrest] at r4
      have e04 : Ext w0 w4 := e03.step k4 fun i hi h => by omega
      refine l_gt rfl rfl (OpTo.of_v (v_not rfl) ?_)
      refine l_v (v_orT rfl rfl) ?_
      refine l_v (v_move (t := .bool _) rfl) ?_
      refine l_gt rfl rfl (OpTo.of_v (v_move (t := .pointer _) rfl) ?_)
      refine l_gt rfl rfl (to_f1 (by kernel_rfl) (show _ = (Value.pointer _) from rfl) (CallsR.mono (End_c r4) ?_))
      rintro _ w5 ⟨rfl, e5⟩
      have zs_e5 := e5.size
      refine l_gt rfl rfl (to_f1 (by kernel_rfl) (show _ = (Value.int _ _) from rfl) (CallsR.mono (num_c) ?_))
      rintro _ w6 ⟨rfl, e6⟩
      have zs_e6 := e6.size
      refine l_gt rfl rfl (OpTo.of_v (OpVat.as (b := false) (v_neq rfl rfl) (by first | rfl | (simp; done) | (simp; omega))) ?_)
      refine l_v (v_orT rfl rfl) ?_
      refine l_nil ?_
      refine n_then ?_
      refine c_cond rfl rfl (fun hc2 => ?_) (fun hc2 => ?_)
      · skip
        cases hc2
      · skip
        have e06 := (e04.trans e5).trans e6
        refine wp_skip ?_
        refine n_then ?_
        refine c_seq ?_
        refine c_seq ?_
        refine wp_reg (by decide +kernel) ?_
        refine l_v (v_move (t := .slice _ _ _) rfl) ?_
        refine l_v (v_len (et := 5) (by kernel_rfl) rfl) ?_
        refine l_v (v_eql rfl rfl) ?_
        refine l_nil ?_
        refine n_then ?_
        refine c_cond rfl rfl (fun hc3 => ?_) (fun hc3 => ?_)
        · skip
          refine c_seq ?_
          refine wp_reg (by decide +kernel) ?_
          refine l_v (v_assign rfl) ?_
          refine l_nil ?_
          refine n_then ?_
          refine wp_ret ?_
          refine r_then ?_
          refine ret1 rfl (by decide) ?_
          exact ⟨rfl, e06⟩
        · skip
          have hlen : 0 < (rowT ts).length := by have := dfalse hc3; omega
          have e26 : Ext w2 w6 := ((e3.step k4 fun i hi h => by omega).trans e5).trans e6
          refine wp_skip ?_
          refine n_then ?_
          refine c_seq ?_
          refine wp_reg (by decide +kernel) ?_
          refine l_v (v_move (t := .slice _ _ _) rfl) ?_
          refine l_v (v_move (t := .slice _ _ _) rfl) ?_
          refine l_v (v_len (et := 5) (by kernel_rfl) rfl) ?_
          refine l_v (v_sub rfl rfl (by first | exact wr_i64 (by omega) (by omega) | rfl)) ?_
          refine l_to (to_slice (et := 5) (l := 0) (h := (rowT ts).length - 1) (by kernel_rfl) (by kernel_rfl) (show _ = (Value.slice _ _ _) from rfl) (o2.ext e26).view rfl ⟨.i64, (rfl).trans (congrArg (Value.int _) (by omega))⟩ (by first | omega | (simp; done) | (simp; omega)) (by first | omega | (simp; done) | (simp; omega)) ?_)
          rintro a7 n7 c7 h7 hn7 hs7
          rw [List.drop_zero, ← List.dropLast_eq_take] at h7
          have hcut := bkAll_cut ts h2d (fun h => by rw [h] at hlen; simp at hlen)
          refine l_to (to_f1 (by kernel_rfl) (show _ = (Value.slice _ _ _) from rfl) (CallsR.mono (Open_c h7 (by simp; omega)) ?_))
          rintro _ w8 ⟨b8, rfl, r8, hb8, e8, z8⟩
          have zs_e8 := e8.size
          have e08 := e06.trans e8
          refine l_v (v_assign (t := .pointer _) rfl) ?_
          refine l_nil ?_
          refine n_then ?_
          refine c_seq ?_
          refine wp_reg (by decide +kernel) ?_
          refine l_v (v_move (t := .pointer _) rfl) ?_
          refine l_v (OpVat.as (b := true) (v_pneq (et := 71) (by kernel_rfl) rfl rfl) (by first | rfl | (simp; done) | (simp; omega))) ?_
          refine l_v (v_move (t := .bool _) rfl) ?_
          refine l_gt rfl rfl (OpTo.of_v (v_move (t := .pointer _) rfl) ?_)
          refine l_gt rfl rfl (OpTo.of_v (v_move (t := .slice _ _ _) rfl) ?_)
          refine l_gt rfl rfl (to_f2 (by kernel_rfl) (show _ = (Value.pointer _) from rfl) (show _ = (Value.slice _ _ _) from rfl) (CallsR.mono (keeps_c r8 (fun k hk => hk.2) (by simp; omega) (hv.ext e08) (fun k hk => by have := hF k hk; have := e06.size; omega) (fun t ht => ⟨(h2d t ht).b, (h2d t ht).l⟩)) ?_))
          rintro r w9 ⟨hr9, r9, k9⟩
          have zs_k9 := k9.size
          rw [hcut] at hr9
          subst hr9
          have e09 : Ext w0 w9 := e08.step k9 fun i hi h => by have := e06.size; omega
          refine l_gt rfl rfl (OpTo.of_v (v_not rfl) ?_)
          refine l_v (v_andT rfl rfl) ?_
          refine l_v (v_assign (t := .bool _) rfl) ?_
          refine l_nil ?_
          refine n_then ?_
          refine wp_ret ?_
          refine ret1 rfl (by decide) ?_
          exact ⟨rfl, e09⟩
end Go.Proofs.Ythnpnniiejcnbaa
