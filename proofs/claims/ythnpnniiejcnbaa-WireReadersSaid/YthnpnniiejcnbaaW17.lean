/- A part of the proof: steps and lemmas for the walks through the given program. -/
import Derived.Test.YthnpnniiejcnbaaW16
import Derived.Test.YthnpnniiejcnbaaVc17
namespace Go.Proofs.Ythnpnniiejcnbaa
open Go.Vc
set_option linter.unusedVariables false
set_option linter.unusedSimpArgs false
set_option maxRecDepth 100000

theorem flagV_any (l : List UInt8) : ∃ (f : Bool) (e : Int), flagV l = .tuple #[.bool f, .int .i64 e] ∧ ((e = 0 ∧ rdFlag l = some (f, restF l)) ∨ (e = 4 ∧ restF l = l ∧ rdFlag l = none)) := by
  rcases hd : rdFlag l with _ | ⟨f, r⟩
  · exact ⟨false, 4, by rw [flagV, hd], .inr ⟨rfl, by rw [restF, hd], rfl⟩⟩
  · have hr : restF l = r := by rw [restF, hd]
    exact ⟨f, 0, by rw [flagV, hd], .inl ⟨rfl, by rw [hr]⟩⟩

theorem sgnV_any2 (l : List UInt8) : ∃ (n e : Int), sgnV l = .tuple #[.int .i64 n, .int .i64 e] ∧ ((e = 0 ∧ ∃ m, rdNum l = some (m, rest l) ∧ n = unzig m) ∨ (e = 4 ∧ n = 0 ∧ rest l = l ∧ rdNum l = none)) := by
  rcases hd : rdNum l with _ | ⟨n, r⟩
  · exact ⟨0, 4, by rw [sgnV, hd], .inr ⟨rfl, rfl, by rw [rest, hd], rfl⟩⟩
  · have hr : rest l = r := by rw [rest, hd]
    exact ⟨unzig n, 0, by rw [sgnV, hd], .inl ⟨rfl, n, by rw [hr], rfl⟩⟩
theorem unzig_eq {m : Nat} {s : Int} : unzig m = s ↔ m = zig s := by
  constructor
  · intro h; rw [← h, zig_unzig]
  · intro h; rw [h, unzig_zig]

theorem back_c {w : World} {b : Nat} {F G : Nat → Prop} {l : List UInt8} {cs : List Value} {t : Th} (hr : Rd nRd w b F l) (hF : ∀ k, F k → k < b) (hll : l.length ≤ 5000000) (ht : tTh.rep w G cs t) (hG : ∀ k, G k → k ≠ b) (hb : t.2.2.2.2.1.length ≤ 3000) (hl : t.2.2.2.2.2.length ≤ 3000) :
    CallsR Try.prog 61 #[.pointer (some ⟨b, 0, none⟩), .agg cs.toArray] w (fun r w' => r = .bool (bkTh t l).1 ∧ Rd nRd w' b F (bkTh t l).2 ∧ Keep (fun k => k = b) w w') := by
  obtain ⟨v4, v5, rfl, h4, h5, hn, hs⟩ := th_cells ht
  obtain ⟨k, n, s, f, bs, ls⟩ := t
  simp only [] at *
  obtain ⟨n, rfl⟩ := Int.eq_ofNat_of_zero_le hn.1
  have hnF : ¬ F b := fun h => absurd (hF b h) (Nat.lt_irrefl b)
  have hblt : b < w.heap.size := by obtain ⟨_, _, h, _⟩ := hr; exact h.lt
  refine enter 105 Try.func61 rfl rfl (by simp) ?_
  refine c_seq ?_
  refine wp_reg (by decide +kernel) ?_
  refine l_to (to_box (show _ = (Value.agg _) from rfl) ?_)
  rintro b1 w1 rfl hb1 e1 z1
  have zs_e1 := e1.size
  refine l_v (v_assign rfl) ?_
  refine l_nil ?_
  refine n_then ?_
  refine c_seq ?_
  refine c_seq ?_
  refine wp_reg (by decide +kernel) ?_
  refine l_v (v_fieldAddr (off := 0) (ft := 3) (by kernel_rfl) rfl) ?_
  refine l_v (v_load (by kernel_rfl) rfl (hb1.cell rfl)) ?_
  refine l_nil ?_
  refine n_then ?_
  refine wp_block ?_
  refine c_seq ?_
  refine wp_reg (by decide +kernel) ?_
  refine l_v (v_eql rfl rfl) ?_
  refine l_v (v_assign (t := .bool _) rfl) ?_
  refine l_nil ?_
  refine n_then ?_
  refine c_cond rfl rfl (fun hc => ?_) (fun hc => ?_)
  · skip
    have hk : k = 1 := by simpa using hc
    refine c_seq ?_
    refine wp_reg (by decide +kernel) ?_
    refine l_v (v_move (t := .pointer _) rfl) ?_
    refine l_to (to_f1 (by kernel_rfl) (show _ = (Value.pointer _) from rfl) (CallsR.mono (rNumber_c (hr.ext e1) hnF) ?_))
    rintro r w2 ⟨hr2, r2, k2⟩
    have zs_k2 := k2.size
    obtain ⟨m, me, hm, hml, hmx⟩ := numV_any l
    rw [hm] at hr2
    subst hr2
    refine l_v (v_move (t := .tuple _) rfl) ?_
    refine l_v (v_extract (t := .int _ _) rfl rfl) ?_
    refine l_v (v_extract (t := .int _ _) rfl rfl) ?_
    refine l_v (v_assign (t := .int _ _) rfl) ?_
    refine l_v (v_assign (t := .int _ _) rfl) ?_
    refine l_nil ?_
    refine n_then ?_
    refine c_seq ?_
    refine wp_reg (by decide +kernel) ?_
    refine l_v (v_move (t := .int _ _) rfl) ?_
    refine l_v (v_fieldAddr (off := 1) (ft := 29) (by kernel_rfl) rfl) ?_
    refine l_v (v_load (by kernel_rfl) rfl ((hb1.keep k2 (by omega)).cell rfl)) ?_
    refine l_v (v_eql rfl rfl) ?_
    refine l_v (v_move (t := .bool _) rfl) ?_
    refine l_g1 rfl rfl (fun hG => v_move (t := .int _ _) rfl) ?_
    refine l_g1f rfl rfl (fun hG => to_f1 (by kernel_rfl) (gd hG rfl) (num_c)) ?_
    rintro w3 e3
    have zs_e3 := e3.size
    refine l_g1 rfl rfl (fun hG => v_eql (gd hG rfl) rfl) ?_
    refine l_v (v_and rfl rfl) ?_
    refine l_v (v_assign (t := .bool _) rfl) ?_
    refine l_nil ?_
    refine n_then ?_
    refine wp_ret ?_
    refine r_blk ?_
    refine r_then ?_
    refine ret1 rfl (by decide) ?_
    refine ⟨?_, ?_, ((e1.mono fun _ _ h => h.elim).trans k2).trans (e3.mono fun _ _ h => h.elim)⟩
    · rw [bkTh, if_pos hk]
      refine congrArg Value.bool ?_
      rcases hmx with ⟨he, _, hd⟩ | ⟨he, _, _, hd⟩
      · rw [hd, he, Bool.eq_iff_iff]; simp
        omega
      · rw [hd, he]; simp
    · rw [bkTh, if_pos hk]; exact r2.ext e3
  · skip
    have hk1 : ¬ k = 1 := by simpa using hc
    refine c_seq ?_
    refine wp_reg (by decide +kernel) ?_
    refine l_v (v_eql rfl rfl) ?_
    refine l_v (v_assign (t := .bool _) rfl) ?_
    refine l_nil ?_
    refine n_then ?_
    refine c_cond rfl rfl (fun hc2 => ?_) (fun hc2 => ?_)
    · skip
      have hk : k = 2 := by simpa using hc2
      refine c_seq ?_
      refine wp_reg (by decide +kernel) ?_
      refine l_v (v_move (t := .pointer _) rfl) ?_
      refine l_to (to_f1 (by kernel_rfl) (show _ = (Value.pointer _) from rfl) (CallsR.mono (rSigned_c (hr.ext e1) hnF) ?_))
      rintro r w2 ⟨hr2, r2, k2⟩
      have zs_k2 := k2.size
      obtain ⟨m, me, hm, hmx⟩ := sgnV_any2 l
      rw [hm] at hr2
      subst hr2
      refine l_v (v_move (t := .tuple _) rfl) ?_
      refine l_v (v_extract (t := .int _ _) rfl rfl) ?_
      refine l_v (v_extract (t := .int _ _) rfl rfl) ?_
      refine l_v (v_assign (t := .int _ _) rfl) ?_
      refine l_v (v_assign (t := .int _ _) rfl) ?_
      refine l_nil ?_
      refine n_then ?_
      refine c_seq ?_
      refine wp_reg (by decide +kernel) ?_
      refine l_v (v_move (t := .int _ _) rfl) ?_
      refine l_v (v_fieldAddr (off := 2) (ft := 2) (by kernel_rfl) rfl) ?_
      refine l_v (v_load (by kernel_rfl) rfl ((hb1.keep k2 (by omega)).cell rfl)) ?_
      refine l_v (v_eql rfl rfl) ?_
      refine l_v (v_move (t := .bool _) rfl) ?_
      refine l_g1 rfl rfl (fun hG => v_move (t := .int _ _) rfl) ?_
      refine l_g1f rfl rfl (fun hG => to_f1 (by kernel_rfl) (gd hG rfl) (num_c)) ?_
      rintro w3 e3
      have zs_e3 := e3.size
      refine l_g1 rfl rfl (fun hG => v_eql (gd hG rfl) rfl) ?_
      refine l_v (v_and rfl rfl) ?_
      refine l_v (v_assign (t := .bool _) rfl) ?_
      refine l_nil ?_
      refine n_then ?_
      refine wp_ret ?_
      refine r_blk ?_
      refine r_then ?_
      refine ret1 rfl (by decide) ?_
      refine ⟨?_, ?_, ((e1.mono fun _ _ h => h.elim).trans k2).trans (e3.mono fun _ _ h => h.elim)⟩
      · rw [bkTh, if_neg hk1, if_pos hk]
        refine congrArg Value.bool ?_
        rcases hmx with ⟨he, m', hd, hm'⟩ | ⟨he, _, _, hd⟩
        · rw [hd, he, hm', Bool.eq_iff_iff]; simp [unzig_eq]
        · rw [hd, he]; simp
      · rw [bkTh, if_neg hk1, if_pos hk]; exact r2.ext e3
    · skip
      have hk2 : ¬ k = 2 := by simpa using hc2
      refine c_seq ?_
      refine wp_reg (by decide +kernel) ?_
      refine l_v (v_eql rfl rfl) ?_
      refine l_v (v_assign (t := .bool _) rfl) ?_
      refine l_nil ?_
      refine n_then ?_
      refine c_cond rfl rfl (fun hc3 => ?_) (fun hc3 => ?_)
      · skip
        have hk : k = 3 := by simpa using hc3
        refine c_seq ?_
        refine wp_reg (by decide +kernel) ?_
        refine l_v (v_move (t := .pointer _) rfl) ?_
        refine l_to (to_f1 (by kernel_rfl) (show _ = (Value.pointer _) from rfl) (CallsR.mono (rFlag_c (hr.ext e1) hnF) ?_))
        rintro r w2 ⟨hr2, r2, k2⟩
        have zs_k2 := k2.size
        obtain ⟨m, me, hm, hmx⟩ := flagV_any l
        rw [hm] at hr2
        subst hr2
        refine l_v (v_move (t := .tuple _) rfl) ?_
        refine l_v (v_extract (t := .bool _) rfl rfl) ?_
        refine l_v (v_extract (t := .int _ _) rfl rfl) ?_
        refine l_v (v_assign (t := .bool _) rfl) ?_
        refine l_v (v_assign (t := .int _ _) rfl) ?_
        refine l_nil ?_
        refine n_then ?_
        refine c_seq ?_
        refine wp_reg (by decide +kernel) ?_
        refine l_v (v_move (t := .bool _) rfl) ?_
        refine l_v (v_fieldAddr (off := 3) (ft := 4) (by kernel_rfl) rfl) ?_
        refine l_v (v_load (by kernel_rfl) rfl ((hb1.keep k2 (by omega)).cell rfl)) ?_
        refine l_v (v_beql (by kernel_rfl) rfl rfl) ?_
        refine l_v (v_move (t := .bool _) rfl) ?_
        refine l_g1 rfl rfl (fun hG => v_move (t := .int _ _) rfl) ?_
        refine l_g1f rfl rfl (fun hG => to_f1 (by kernel_rfl) (gd hG rfl) (num_c)) ?_
        rintro w3 e3
        have zs_e3 := e3.size
        refine l_g1 rfl rfl (fun hG => v_eql (gd hG rfl) rfl) ?_
        refine l_v (v_and rfl rfl) ?_
        refine l_v (v_assign (t := .bool _) rfl) ?_
        refine l_nil ?_
        refine n_then ?_
        refine wp_ret ?_
        refine r_blk ?_
        refine r_then ?_
        refine ret1 rfl (by decide) ?_
        refine ⟨?_, ?_, ((e1.mono fun _ _ h => h.elim).trans k2).trans (e3.mono fun _ _ h => h.elim)⟩
        · rw [bkTh, if_neg hk1, if_neg hk2, if_pos hk]
          refine congrArg Value.bool ?_
          rcases hmx with ⟨he, hd⟩ | ⟨he, _, hd⟩
          · rw [hd, he, Bool.eq_iff_iff]; simp
          · rw [hd, he]; simp
        · rw [bkTh, if_neg hk1, if_neg hk2, if_pos hk]; exact r2.ext e3
      · skip
        have hk3 : ¬ k = 3 := by simpa using hc3
        refine c_seq ?_
        refine wp_reg (by decide +kernel) ?_
        refine l_v (v_eql rfl rfl) ?_
        refine l_v (v_assign (t := .bool _) rfl) ?_
        refine l_nil ?_
        refine n_then ?_
        refine c_cond rfl rfl (fun hc4 => ?_) (fun hc4 => ?_)
        · skip
          have hk : k = 4 := by simpa using hc4
          obtain ⟨a4, c4, rfl⟩ := h4.shape
          refine c_seq ?_
          refine wp_reg (by decide +kernel) ?_
          refine l_v (v_move (t := .pointer _) rfl) ?_
          refine l_v (v_fieldAddr (off := 4) (ft := 22) (by kernel_rfl) rfl) ?_
          refine l_v (v_load (by kernel_rfl) rfl (hb1.cell rfl)) ?_
          refine l_v (v_len (et := 5) (by kernel_rfl) rfl) ?_
          refine l_to (to_f2 (by kernel_rfl) (show _ = (Value.pointer _) from rfl) (show _ = (Value.int _ _) from rfl) (CallsR.mono (Bytes2_c (hr.ext e1) hF (by omega) (by omega) (by omega)) ?_))
          rintro r w2 ⟨hr2, k2⟩
          have zs_k2 := k2.size
          obtain ⟨a7, c7, xe, x, l7, rfl, o7, r7, hx⟩ := TryV_any hr2
          refine l_v (v_move (t := .tuple _) rfl) ?_
          refine l_v (v_extract (t := .slice _ _ _) rfl rfl) ?_
          refine l_v (v_extract (t := .int _ _) rfl rfl) ?_
          refine l_v (v_assign (t := .slice _ _ _) rfl) ?_
          refine l_v (v_assign (t := .int _ _) rfl) ?_
          refine l_nil ?_
          refine n_then ?_
          refine c_seq ?_
          refine wp_reg (by decide +kernel) ?_
          refine l_v (v_move (t := .slice _ _ _) rfl) ?_
          refine l_v (v_b2s (et := 5) (by kernel_rfl) (by kernel_rfl) (by kernel_rfl) rfl (o7.view)) ?_
          refine l_v (v_fieldAddr (off := 4) (ft := 22) (by kernel_rfl) rfl) ?_
          refine l_v (v_load (by kernel_rfl) rfl ((hb1.keep k2 (by omega)).cell rfl)) ?_
          refine l_v (v_b2s (et := 5) (by kernel_rfl) (by kernel_rfl) (by kernel_rfl) rfl ((h4.ext e1).keep k2 (fun i hi h => hG i h))) ?_
          refine l_v (v_seq rfl rfl) ?_
          refine l_v (v_move (t := .bool _) rfl) ?_
          refine l_g1 rfl rfl (fun hG => v_move (t := .int _ _) rfl) ?_
          refine l_g1f rfl rfl (fun hG => to_f1 (by kernel_rfl) (gd hG rfl) (num_c)) ?_
          rintro w3 e3
          have zs_e3 := e3.size
          refine l_g1 rfl rfl (fun hG => v_eql (gd hG rfl) rfl) ?_
          refine l_v (v_and rfl rfl) ?_
          refine l_v (v_assign (t := .bool _) rfl) ?_
          refine l_nil ?_
          refine n_then ?_
          refine wp_ret ?_
          refine r_blk ?_
          refine r_then ?_
          refine ret1 rfl (by decide) ?_
          refine ⟨?_, ?_, ((e1.mono fun _ _ h => h.elim).trans k2).trans (e3.mono fun _ _ h => h.elim)⟩
          · rw [bkTh, if_neg hk1, if_neg hk2, if_neg hk3, if_pos hk]
            refine congrArg Value.bool ?_
            simp only [Int.toNat_natCast] at hx
            rcases hx with ⟨he, hd⟩ | ⟨he, _, _, _, _, hd⟩
            · rw [hd, he]; simp
            · rw [hd]; simp [he]
          · rw [bkTh, if_neg hk1, if_neg hk2, if_neg hk3, if_pos hk]
            simp only [Int.toNat_natCast] at hx
            rcases hx with ⟨he, hd⟩ | ⟨he, _, h7, _, _, hd⟩
            · rw [hd]; exact r7.ext e3
            · rw [hd]; subst h7; exact r7.ext e3
        · skip
          have hk4 : ¬ k = 4 := by simpa using hc4
          refine c_seq ?_
          refine wp_reg (by decide +kernel) ?_
          refine l_v (v_eql rfl rfl) ?_
          refine l_v (v_assign (t := .bool _) rfl) ?_
          refine l_nil ?_
          refine n_then ?_
          refine c_cond rfl rfl (fun hc5 => ?_) (fun hc5 => ?_)
          · skip
            have hk : k = 5 := by simpa using hc5
            obtain ⟨a5, c5, rfl⟩ := h5.shape
            refine c_seq ?_
            refine wp_reg (by decide +kernel) ?_
            refine l_v (v_move (t := .pointer _) rfl) ?_
            refine l_v (v_fieldAddr (off := 5) (ft := 63) (by kernel_rfl) rfl) ?_
            refine l_v (v_load (by kernel_rfl) rfl (hb1.cell rfl)) ?_
            refine l_v (v_len (et := 29) (by kernel_rfl) rfl) ?_
            refine l_to (to_f3 (by kernel_rfl) (show _ = (Value.pointer _) from rfl) (show _ = (Value.int _ _) from rfl) rfl (CallsR.mono (takeU_c (cap := #[]) (hr.ext e1) hF (by omega) (by omega) (by omega) (by kernel_rfl) rdU rdU_short (fun w1 c l1 e1 hc hr hl => oneU_c hr (fun h => by have := hF _ h; omega))) ?_))
            rintro r w2 ⟨hr2, k2⟩
            have zs_k2 := k2.size
            obtain ⟨a7, c7, xe, x, l7, rfl, o7, r7, hx⟩ := TryV_any hr2
            refine l_v (v_move (t := .tuple _) rfl) ?_
            refine l_v (v_extract (t := .slice _ _ _) rfl rfl) ?_
            refine l_v (v_extract (t := .int _ _) rfl rfl) ?_
            refine l_v (v_assign (t := .slice _ _ _) rfl) ?_
            refine l_v (v_assign (t := .int _ _) rfl) ?_
            refine l_nil ?_
            refine n_then ?_
            refine c_seq ?_
            refine wp_reg (by decide +kernel) ?_
            refine l_v (v_move (t := .slice _ _ _) rfl) ?_
            refine l_v (v_fieldAddr (off := 5) (ft := 63) (by kernel_rfl) rfl) ?_
            refine l_v (v_load (by kernel_rfl) rfl ((hb1.keep k2 (by omega)).cell rfl)) ?_
            refine l_to (to_f2 (by kernel_rfl) (show _ = (Value.slice _ _ _) from rfl) (show _ = (Value.slice _ _ _) from rfl) (CallsR.mono (numbers_c o7.view ((h5.ext e1).keep k2 (fun i hi h => hG i h))) ?_))
            rintro _ w4 ⟨rfl, e4⟩
            have zs_e4 := e4.size
            refine l_v (v_move (t := .bool _) rfl) ?_
            refine l_g1 rfl rfl (fun hG => v_move (t := .int _ _) rfl) ?_
            refine l_g1f rfl rfl (fun hG => to_f1 (by kernel_rfl) (gd hG rfl) (num_c)) ?_
            rintro w3 e3
            have zs_e3 := e3.size
            refine l_g1 rfl rfl (fun hG => v_eql (gd hG rfl) rfl) ?_
            refine l_v (v_and rfl rfl) ?_
            refine l_v (v_assign (t := .bool _) rfl) ?_
            refine l_nil ?_
            refine n_then ?_
            refine wp_ret ?_
            refine r_blk ?_
            refine r_then ?_
            refine ret1 rfl (by decide) ?_
            refine ⟨?_, ?_, (((e1.mono fun _ _ h => h.elim).trans k2).trans (e4.mono fun _ _ h => h.elim)).trans (e3.mono fun _ _ h => h.elim)⟩
            · rw [bkTh, if_neg hk1, if_neg hk2, if_neg hk3, if_neg hk4, if_pos hk]
              refine congrArg Value.bool ?_
              simp only [Int.toNat_natCast] at hx
              rcases hx with ⟨he, hd⟩ | ⟨he, _, _, _, _, hd⟩
              · rw [hd, he]; simp
              · rw [hd]; simp [he]
            · rw [bkTh, if_neg hk1, if_neg hk2, if_neg hk3, if_neg hk4, if_pos hk]
              simp only [Int.toNat_natCast] at hx
              rcases hx with ⟨he, hd⟩ | ⟨he, _, h7, _, _, hd⟩
              · rw [hd]; exact (r7.ext e4).ext e3
              · rw [hd]; subst h7; exact (r7.ext e4).ext e3
          · skip
            have hk5 : ¬ k = 5 := by simpa using hc5
            refine wp_skip ?_
            refine n_blk ?_
            refine n_then ?_
            refine c_seq ?_
            refine wp_reg (by decide +kernel) ?_
            refine l_v (v_assign rfl) ?_
            refine l_nil ?_
            refine n_then ?_
            refine wp_ret ?_
            refine ret1 rfl (by decide) ?_
            refine ⟨?_, ?_, e1.mono fun _ _ h => h.elim⟩
            · rw [bkTh, if_neg hk1, if_neg hk2, if_neg hk3, if_neg hk4, if_neg hk5]; rfl
            · rw [bkTh, if_neg hk1, if_neg hk2, if_neg hk3, if_neg hk4, if_neg hk5]; exact hr.ext e1

/-- are all things read as they were -/
def bkAll : List Th → List UInt8 → Bool
  | [], _ => true
  | t :: ts, l => (bkTh t l).1 && bkAll ts (bkTh t l).2
def bkRest : List Th → List UInt8 → List UInt8
  | [], l => l
  | t :: ts, l => bkRest ts (bkTh t l).2
theorem bkTh_len (t : Th) (l : List UInt8) : (bkTh t l).2.length ≤ l.length := by
  have h1 : (rest l).length ≤ l.length := by
    rw [rest]
    rcases hd : rdNum l with _ | ⟨n, r⟩
    · simp
    · have := rdNum_form hd; simp only []; rw [this]; simp
  have h2 : (restF l).length ≤ l.length := by
    rw [restF]
    cases l with
    | nil => simp [rdFlag]
    | cons c r => simp only [rdFlag]; split <;> rename_i h <;> (split at h <;> first | (cases h; simp) | (cases h))
  unfold bkTh
  split
  · exact h1
  · split
    · exact h1
    · split
      · exact h2
      · split
        · split
          · rename_i x r hq; have := rdBytes_len hq; simp only []; omega
          · exact Nat.le_refl _
        · split
          · split
            · rename_i x r hq
              have := (tryList_form rdU_form hq).1
              simp only []; rw [this]; simp
            · exact Nat.le_refl _
          · exact Nat.le_refl _

theorem keeps_c {w : World} {b : Nat} {F G : Nat → Prop} {l : List UInt8} {v : Value} {ts : List Th} (hr : Rd nRd w b F l) (hF : ∀ k, F k → k < b) (hll : l.length ≤ 5000000) (hv : SlV tTh w G v ts) (hG : ∀ k, G k → k ≠ b) (hb : ∀ t ∈ ts, t.2.2.2.2.1.length ≤ 3000 ∧ t.2.2.2.2.2.length ≤ 3000) :
    CallsR Try.prog 42 #[.pointer (some ⟨b, 0, none⟩), v] w (fun r w' => r = .bool (bkAll ts l) ∧ (bkAll ts l = true → Rd nRd w' b F (bkRest ts l)) ∧ Keep (fun k => k = b) w w') := by
  obtain ⟨a, c, rfl⟩ := hv.shape
  have hmx := hv.max
  simp only [maxLen] at hmx
  obtain ⟨w0, rfl⟩ : ∃ x, x = w := ⟨w, rfl⟩
  refine enter 19 Try.func42 rfl rfl (by simp) ?_
  refine c_seq ?_
  refine wp_reg (by decide +kernel) ?_
  refine l_v (v_assign rfl) ?_
  refine l_nil ?_
  refine n_then ?_
  refine c_seq ?_
  refine c_seq ?_
  refine wp_reg (by decide +kernel) ?_
  refine l_v (v_assign rfl) ?_
  refine l_nil ?_
  refine n_then ?_
  refine wp_block ?_
  refine c_loop (τ := Nat × List UInt8) [4, 5, 6, 7, 8, 9, 10, 11, 12, 13, 14, 15, 16, 17, 18] (fun (k, l1) => [(5, .int .i64 k)]) (fun (k, l1) w => Keep (fun k => k = b) w0 w ∧ Rd nRd w b F l1 ∧ k ≤ ts.length ∧ l1.length ≤ l.length ∧ bkAll ts l = bkAll (ts.drop k) l1 ∧ bkRest ts l = bkRest (ts.drop k) l1) (fun (k, l1) => ts.length - k) (0, l) (by exact ⟨rfl, trivial⟩) (by exact ⟨Keep.refl _, hr, Nat.zero_le _, Nat.le_refl _, rfl, rfl⟩) ?_
  rintro ⟨k, l1⟩ w1 j ⟨k1, r1, h1, h2, h3, h4⟩
  refine c_seq ?_
  refine c_seq ?_
  refine wp_reg (by decide +kernel) ?_
  refine l_v (v_move (t := .int _ _) rfl) ?_
  refine l_v (v_move (t := .slice _ _ _) rfl) ?_
  refine l_v (v_len (et := 81) (by kernel_rfl) rfl) ?_
  refine l_v (v_lss rfl rfl) ?_
  refine l_nil ?_
  refine n_then ?_
  refine c_cond rfl rfl (fun hc => ?_) (fun hc => ?_)
  · skip
    have hc := dtrue hc
    obtain ⟨t, ht⟩ : ∃ t, ts[k]? = some t := ⟨ts[k]'(by omega), by simp [show k < ts.length by omega]⟩
    have hdr : ts.drop k = t :: ts.drop (k + 1) := by rw [List.drop_eq_getElem?_toList_append, ht]; rfl
    rw [hdr] at h3 h4
    obtain ⟨hlb, hlu⟩ := hb t (List.mem_of_getElem? ht)
    refine wp_skip ?_
    refine n_then ?_
    refine c_seq ?_
    refine wp_block ?_
    refine c_seq ?_
    refine wp_reg (by decide +kernel) ?_
    refine l_v (v_move (t := .pointer _) rfl) ?_
    refine l_v (v_move (t := .slice _ _ _) rfl) ?_
    refine l_v (v_move (t := .int _ _) rfl) ?_
    refine l_to (to_index (et := 81) (by kernel_rfl) (by kernel_rfl) (show _ = (Value.slice _ _ _) from rfl) (hv.keep k1 (fun i hi h => hG i h)) (show _ = (Value.int _ _) from rfl) rfl ht ?_)
    rintro q cs hFq hp hrep
    refine l_v (v_loadA (n := 6) (by kernel_rfl) rfl hp (tTh.len hrep)) ?_
    refine l_to (to_f2 (by kernel_rfl) (show _ = (Value.pointer _) from rfl) (show _ = (Value.agg _) from rfl) (CallsR.mono (back_c r1 hF (by omega) hrep hG hlb hlu) ?_))
    rintro r w2 ⟨hr2, r2, k2⟩
    have zs_k2 := k2.size
    obtain ⟨bb, hbb⟩ : ∃ x, x = (bkTh t l1).1 := ⟨_, rfl⟩
    rw [← hbb] at hr2
    subst hr2
    refine l_v (v_not rfl) ?_
    refine l_nil ?_
    refine n_then ?_
    refine c_cond rfl rfl (fun hd => ?_) (fun hd => ?_)
    · skip
      refine c_seq ?_
      refine wp_reg (by decide +kernel) ?_
      refine l_v (v_assign rfl) ?_
      refine l_nil ?_
      refine n_then ?_
      refine wp_ret ?_
      refine r_blk ?_
      refine r_then ?_
      refine r_then ?_
      refine r_blk ?_
      refine r_then ?_
      refine ret1 rfl (by decide) ?_
      have hbf : bb = false := by simpa using hd
      have hall : bkAll ts l = false := by rw [h3, bkAll, ← hbb, hbf]; rfl
      exact ⟨by rw [hall]; rfl, (fun h => by rw [hall] at h; cases h), k1.trans k2⟩
    · skip
      have hbt : bb = true := by simpa using hd
      refine wp_skip ?_
      refine n_blk ?_
      refine n_then ?_
      refine wp_reg (by decide +kernel) ?_
      refine l_v (v_move (t := .int _ _) rfl) ?_
      refine l_v (v_add rfl rfl (by first | exact wr_i64 (by omega) (by omega) | rfl)) ?_
      refine l_v (v_assign (t := .int _ _) rfl) ?_
      refine l_nil ?_
      refine n_then ?_
      refine ⟨(k + 1, (bkTh t l1).2), _, rfl, by (repeat (first | exact Off.of_over _ _ _ | refine Off.upd ?_ (by decide) _)), ⟨by first | rfl | exact congrArg (Value.int _) (by omega) | (simp; done), trivial⟩, ?_, ?_⟩
      · exact ⟨k1.trans k2, r2, by omega, Nat.le_trans (bkTh_len t l1) h2, by rw [h3, bkAll, ← hbb, hbt]; rfl, by rw [h4, bkRest]⟩
      · dsimp only; omega
  · skip
    have hc := dfalse hc
    obtain rfl : k = ts.length := by omega
    rw [List.drop_length] at h3 h4
    refine wp_exit ?_
    refine x_then ?_
    refine x_then ?_
    refine x_hit ?_
    refine n_then ?_
    refine c_seq ?_
    refine wp_reg (by decide +kernel) ?_
    refine l_v (v_assign rfl) ?_
    refine l_nil ?_
    refine n_then ?_
    refine wp_ret ?_
    refine ret1 rfl (by decide) ?_
    exact ⟨by rw [h3]; rfl, fun _ => by rw [h4]; exact r1, k1⟩
end Go.Proofs.Ythnpnniiejcnbaa
