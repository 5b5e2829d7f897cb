/- A part of the proof: steps and lemmas for the walks through the given program. -/
import Derived.Test.YthnpnniiejcnbaaW24
namespace Go.Proofs.Ythnpnniiejcnbaa
open Go.Vc
set_option linter.unusedVariables false
set_option linter.unusedSimpArgs false
set_option maxRecDepth 100000

theorem readQ_err {k m : Int} {l : List UInt8} (h : (readQ k m l).1 ≠ 0) : (readQ k m l).2 = l := by
  unfold readQ at *
  split at h
  · rename_i hk; rw [if_pos hk]
    simp only [] at h ⊢
    rcases hd : rdNum l with _ | ⟨n, r⟩
    · rw [rest, hd]
    · rw [hd] at h; simp at h
  · rename_i hk; rw [if_neg hk]
    split at h
    · rename_i hk; rw [if_pos hk]
      simp only [] at h ⊢
      rcases hd : rdNum l with _ | ⟨n, r⟩
      · rw [rest, hd]
      · rw [hd] at h; simp at h
    · rename_i hk; rw [if_neg hk]
      split at h
      · rename_i hk; rw [if_pos hk]
        simp only [] at h ⊢
        rcases hd : rdFlag l with _ | ⟨n, r⟩
        · rw [restF, hd]
        · rw [hd] at h; simp at h
      · rename_i hk; rw [if_neg hk]
        split at h
        · rename_i hk; rw [if_pos hk]
          cases hq : (if m < 0 then (.error 2 : Except Int (List UInt8 × List UInt8)) else rdBytes m.toNat l) with
          | ok q => obtain ⟨x, r⟩ := q; rw [hq] at h; simp [errL] at h
          | error e => rfl
        · rename_i hk; rw [if_neg hk]
          split at h
          · rename_i hk; rw [if_pos hk]
            cases hq : (if m < 0 then (.error 2 : Except Int (List Int × List UInt8)) else tryRd (rdList rdU) m.toNat l) with
            | ok q => obtain ⟨x, r⟩ := q; rw [hq] at h; simp [errL] at h
            | error e => rfl
          · rename_i hk; rw [if_neg hk]
theorem readQ_len (k m : Int) (l : List UInt8) : (readQ k m l).2.length ≤ l.length := by
  have h1 : (rest l).length ≤ l.length := (bkTh_len (1, 0, 0, false, [], []) l)
  have h2 : (restF l).length ≤ l.length := (bkTh_len (3, 0, 0, false, [], []) l)
  unfold readQ
  split
  · exact h1
  · split
    · exact h1
    · split
      · exact h2
      · split
        · cases hq : (if m < 0 then (.error 2 : Except Int (List UInt8 × List UInt8)) else rdBytes m.toNat l) with
          | ok q =>
            obtain ⟨x, r⟩ := q
            split at hq
            · cases hq
            · have := rdBytes_len hq; simp only [errL]; omega
          | error e => exact Nat.le_refl _
        · split
          · cases hq : (if m < 0 then (.error 2 : Except Int (List Int × List UInt8)) else tryRd (rdList rdU) m.toNat l) with
            | ok q =>
              obtain ⟨x, r⟩ := q
              split at hq
              · cases hq
              · have h3 := (tryList_form rdU_form hq).1; have h4 := congrArg List.length h3; rw [List.length_append] at h4; simp only [errL]; omega
            | error e => exact Nat.le_refl _
          · exact Nat.le_refl _
theorem OwV_some {α : Type} {t : Ty α} {e : TypeId} {w : World} {B : Nat} {F : Nat → Prop} {a : Option Addr} {n c : Nat} {xs : List α} (h : OwV t e w B F (.slice a n c) xs) (hn : 0 < xs.length) : ∃ b, a = some ⟨b, 0, none⟩ := by
  obtain ⟨cells, h1, _⟩ := h
  rcases h1.2 with ⟨h0, h2⟩ | ⟨g, cap, cur, h0, hB, hg, _⟩
  · omega
  · cases h0; exact ⟨g, rfl⟩
theorem end_eq (l : List UInt8) : (decide ((if l = [] then (0 : Int) else 4) = 0) != decide ((l.length : Int) = 0)) = false := by
  cases l with
  | nil => rfl
  | cons x r => have : ¬ ((x :: r).length : Int) = 0 := by simp; omega
                rw [decide_eq_false this]; rfl
abbrev tOp : Ty (Int × Int) := tPair (tInt .i64) (tInt .i64)

theorem WireReaders_c {w : World} {vb vl : Value} {F G : Nat → Prop} {bs : List UInt8} {ops : List (Int × Int)} (hvb : Bv w F vb bs) (hvl : SlV tOp w G vl ops) (hG : ∀ b, G b → b < w.heap.size) : CallsR Try.prog 6 #[vb, vl] w (fun r w' => r = .bool true ∧ Ext w w') := by
  obtain ⟨a, c, rfl⟩ := hvb.shape
  obtain ⟨a', c', rfl⟩ := hvl.shape
  obtain ⟨w0, rfl⟩ : ∃ x, x = w := ⟨w, rfl⟩
  refine enter 112 Try.func6 rfl rfl (by simp) ?_
  refine c_seq ?_
  refine wp_reg (by decide +kernel) ?_
  refine l_v (v_assign rfl) ?_
  refine l_nil ?_
  refine n_then ?_
  refine c_seq ?_
  refine c_seq ?_
  refine wp_reg (by decide +kernel) ?_
  refine l_v (v_move (t := .slice _ _ _) rfl) ?_
  refine l_v (v_len (et := 5) (by kernel_rfl) rfl) ?_
  refine l_v (v_gtr rfl rfl) ?_
  refine l_v (v_move (t := .bool _) rfl) ?_
  refine l_g1 rfl rfl (fun hG => v_move (t := .slice _ _ _) rfl) ?_
  refine l_g1 rfl rfl (fun hG => v_len (et := 51) (by kernel_rfl) (gd hG rfl)) ?_
  refine l_g1 rfl rfl (fun hG => v_gtr (gd hG rfl) rfl) ?_
  refine l_v (v_or rfl rfl) ?_
  refine l_nil ?_
  refine n_then ?_
  refine c_cond rfl rfl (fun hc => ?_) (fun hc => ?_)
  · skip
    refine c_seq ?_
    refine wp_reg (by decide +kernel) ?_
    refine l_to (to_f0 (by kernel_rfl) (CallsR.mono (known_c) ?_))
    rintro _ w1 ⟨rfl, e1⟩
    have zs_e1 := e1.size
    refine l_v (v_assign (t := .bool _) rfl) ?_
    refine l_nil ?_
    refine n_then ?_
    refine wp_ret ?_
    refine r_then ?_
    refine ret1 rfl (by decide) ?_
    exact ⟨rfl, e1⟩
  · skip
    simp only [Bool.or_eq_false_iff, decide_eq_false_iff_not] at hc
    obtain ⟨hl, hlo⟩ := hc
    refine wp_skip ?_
    refine n_then ?_
    refine c_seq ?_
    refine wp_reg (by decide +kernel) ?_
    refine l_v (v_move (t := .slice _ _ _) rfl) ?_
    refine l_to (to_append (et := 5) (bytes := 1) (by kernel_rfl) (show _ = (Value.slice _ _ _) from rfl) (OwV.nil _ nU8 _ w0.heap.size NoK) (show _ = (Value.slice _ _ _) from rfl) hvb (flat_u8.to) (by first | omega | (simp; done) | (simp; omega)) (by simp only [maxLen]; first | omega | (simp; done) | (simp; omega)) (by omega) ?_)
    rintro a1 n1 c1 w1 o1 hn1 k1 b1 i1
    have zs_k1 := k1.size
    subst hn1
    rw [List.nil_append] at o1 ⊢
    have e1 : Ext w0 w1 := k1.mono fun b _ h => by simp [Value.ownBlock] at h
    refine l_v (v_assign (t := .slice _ _ _) rfl) ?_
    refine l_nil ?_
    refine n_then ?_
    refine c_seq ?_
    refine wp_reg (by decide +kernel) ?_
    refine l_v (v_move (t := .slice _ _ _) rfl) ?_
    refine l_to (to_f1 (by kernel_rfl) (show _ = (Value.slice _ _ _) from rfl) (CallsR.mono (Open_c o1.view (by omega)) ?_))
    rintro _ w2 ⟨b2, rfl, r2, hb2, e2, z2⟩
    have zs_e2 := e2.size
    refine l_v (v_move (t := .slice _ _ _) rfl) ?_
    refine l_to (to_append (et := 5) (bytes := 1) (by kernel_rfl) (show _ = (Value.slice _ _ _) from rfl) (OwV.nil _ nU8 _ w2.heap.size NoK) (show _ = (Value.slice _ _ _) from rfl) ((hvb.ext e1).ext e2) (flat_u8.to) (by first | omega | (simp; done) | (simp; omega)) (by simp only [maxLen]; first | omega | (simp; done) | (simp; omega)) (by omega) ?_)
    rintro a3 n3 c3 w3 o3 hn3 k3 b3 i3
    have zs_k3 := k3.size
    subst hn3
    rw [List.nil_append] at o3 ⊢
    have e3 : Ext w2 w3 := k3.mono fun b _ h => by simp [Value.ownBlock] at h
    refine l_v (v_build (pl := [(0, 1)]) (z := .agg #[.slice none 0 0]) (zl := [.slice none 0 0]) (by kernel_rfl) (by unfold kZero; kernel_rfl) rfl rfl (cells := [_]) rfl) ?_
    refine l_to (to_box (show _ = (Value.agg _) from rfl) ?_)
    rintro b4 w4 rfl hb4 e4 z4
    have zs_e4 := e4.size
    refine l_v (v_assign (t := .pointer _) rfl) ?_
    refine l_v (v_assign (t := .pointer _) rfl) ?_
    refine l_nil ?_
    refine n_then ?_
    refine c_seq ?_
    refine c_seq ?_
    refine wp_reg (by decide +kernel) ?_
    refine l_v (v_move (t := .pointer _) rfl) ?_
    refine l_v (v_peql (et := 71) (by kernel_rfl) rfl rfl) ?_
    refine l_nil ?_
    refine n_then ?_
    refine c_cond rfl rfl (fun hc2 => ?_) (fun hc2 => ?_)
    · skip
      cases hc2
    · skip
      have zs_e1 := e1.size
      have zs_e3 := e3.size
      have htwo : Two w4 b2 w3.heap.size (fun k => w1.heap.size ≤ k ∧ k < b2) (fun k => w2.heap.size ≤ k ∧ k < w3.heap.size) bs := ⟨(r2.ext e3).ext e4, ⟨_, hb4, (o3.view.mono (fun i hi h => ⟨h.resolve_right (fun x => x), hi⟩)).ext e4⟩, fun k hk => hk.2, fun k hk => by omega, fun h => by omega, fun h => by omega, fun h => by omega, by omega⟩
      refine wp_skip ?_
      refine n_then ?_
      refine c_seq ?_
      refine c_seq ?_
      refine wp_reg (by decide +kernel) ?_
      refine l_v (v_assign rfl) ?_
      refine l_nil ?_
      refine n_then ?_
      refine wp_block ?_
      refine c_loop (τ := List UInt8 × Nat) [8, 34, 35, 36, 37, 38, 39, 40, 41, 42] (fun (xs, i) => [(8, .int .i64 i)]) (fun (xs, i) w => OwV tU8 nU8 w w0.heap.size NoK (.slice a1 bs.length c1) xs ∧ Keep (fun k => w0.heap.size ≤ k ∧ k < w1.heap.size) w4 w ∧ xs.length = bs.length ∧ i ≤ bs.length) (fun (xs, i) => bs.length - i) (bs, 0) (by exact ⟨rfl, trivial⟩) (by exact ⟨o1.ext ((e2.trans e3).trans e4), Keep.refl _, rfl, Nat.zero_le _⟩) ?_
      rintro ⟨xs, i⟩ w5 j ⟨o5, k5, h5, h5b⟩
      refine c_seq ?_
      refine c_seq ?_
      refine wp_reg (by decide +kernel) ?_
      refine l_v (v_move (t := .int _ _) rfl) ?_
      refine l_v (v_move (t := .slice _ _ _) rfl) ?_
      refine l_v (v_len (et := 5) (by kernel_rfl) rfl) ?_
      refine l_v (v_lss rfl rfl) ?_
      refine l_nil ?_
      refine n_then ?_
      refine c_cond rfl rfl (fun hd => ?_) (fun hd => ?_)
      · skip
        have hd := dtrue hd
        obtain ⟨g, rfl⟩ := OwV_some o5 (by omega)
        obtain ⟨x, hx⟩ : ∃ x, xs[i]? = some x := ⟨xs[i]'(by omega), by simp [show i < xs.length by omega]⟩
        have hg1 := (o1.own_lt (b := g) rfl)
        refine wp_skip ?_
        refine n_then ?_
        refine c_seq ?_
        refine wp_block ?_
        refine wp_reg (by decide +kernel) ?_
        refine l_v (v_move (t := .slice _ _ _) rfl) ?_
        refine l_v (v_move (t := .int _ _) rfl) ?_
        refine l_v (v_indexAddr (et := 5) (sz := 1) (k := i) (by kernel_rfl) (by kernel_rfl) rfl rfl rfl (by omega)) ?_
        refine l_to (to_storeO (k := i) (off := 0) rfl (by simp [add_lit, tU8]) (by decide) (show _ = (Value.int _ _) from rfl) rfl (by kernel_rfl) o5 (x1 := 1) hx (fun cs h => by cases h; exact (rfl : [Value.int .u8 1] = _)) ?_)
        rintro w6 o6 k6 z6
        have zs_k6 := k6.size
        refine l_nil ?_
        refine n_blk ?_
        refine n_then ?_
        refine wp_reg (by decide +kernel) ?_
        refine l_v (v_move (t := .int _ _) rfl) ?_
        refine l_v (v_add rfl rfl (by first | exact wr_i64 (by omega) (by omega) | rfl)) ?_
        refine l_v (v_assign (t := .int _ _) rfl) ?_
        refine l_nil ?_
        refine n_then ?_
        refine ⟨(xs.set i 1, i + 1), _, rfl, by (repeat (first | exact Off.of_over _ _ _ | refine Off.upd ?_ (by decide) _)), ⟨by first | rfl | exact congrArg (Value.int _) (by omega) | (simp; done), trivial⟩, ?_, ?_⟩
        · exact ⟨o6, k5.trans (k6.mono fun b _ h => by omega), by simp [h5], by omega⟩
        · dsimp only; omega
      · skip
        have htwo5 : Two w5 b2 w3.heap.size (fun k => w1.heap.size ≤ k ∧ k < b2) (fun k => w2.heap.size ≤ k ∧ k < w3.heap.size) bs := ⟨htwo.r.keep k5 (by omega) (fun i hi h => by omega), htwo.f.keep k5 (by omega) (fun i hi h => by omega), htwo.h1, fun k hk => by have := k5.size; omega, htwo.n1, htwo.n2, htwo.n3, htwo.ne⟩
        have e04 := ((e1.trans e2).trans e3).trans e4
        have e05 : Ext w0 w5 := e04.step k5 fun i hi h => by omega
        have hvl5 := hvl.ext e05
        have zs_e05 := e05.size
        refine wp_exit ?_
        refine x_then ?_
        refine x_then ?_
        refine x_hit ?_
        refine n_then ?_
        refine c_seq ?_
        refine c_seq ?_
        refine wp_reg (by decide +kernel) ?_
        refine l_v (v_assign rfl) ?_
        refine l_nil ?_
        refine n_then ?_
        refine wp_block ?_
        refine c_loop (τ := Nat × List UInt8) [4, 9, 10, 11, 12, 13, 14, 43, 44, 45, 46, 47, 48, 49, 50, 51, 52, 53, 54, 55, 56, 57, 58, 59, 60, 61, 62, 63, 64, 65, 66, 67, 68, 69, 70, 71, 72, 73, 74, 75, 76, 77, 78, 79, 80, 81, 82, 83, 84, 85, 86, 87, 88, 89, 90, 91, 92, 93, 94, 95, 96, 97, 98, 99, 100, 101, 102, 103, 104, 105, 106, 107, 108, 109, 110] (fun (k, l1) => [(9, .int .i64 k)]) (fun (k, l1) w => Two w b2 w3.heap.size (fun k => w1.heap.size ≤ k ∧ k < b2) (fun k => w2.heap.size ≤ k ∧ k < w3.heap.size) l1 ∧ Keep (fun k => k = b2 ∨ k = w3.heap.size) w5 w ∧ k ≤ ops.length ∧ l1.length ≤ bs.length) (fun (k, l1) => ops.length - k) (0, bs) (by exact ⟨rfl, trivial⟩) (by exact ⟨htwo5, Keep.refl _, Nat.zero_le _, Nat.le_refl _⟩) ?_
        rintro ⟨k, l1⟩ w6 j2 ⟨t6, k6, h6, h6b⟩
        refine c_seq ?_
        refine c_seq ?_
        refine wp_reg (by decide +kernel) ?_
        refine l_v (v_move (t := .int _ _) rfl) ?_
        refine l_v (v_move (t := .slice _ _ _) rfl) ?_
        refine l_v (v_len (et := 51) (by kernel_rfl) rfl) ?_
        refine l_v (v_lss rfl rfl) ?_
        refine l_nil ?_
        refine n_then ?_
        refine c_cond rfl rfl (fun hd2 => ?_) (fun hd2 => ?_)
        · skip
          have hd2 := dtrue hd2
          obtain ⟨x, hx⟩ : ∃ x, ops[k]? = some x := ⟨ops[k]'(by omega), by simp [show k < ops.length by omega]⟩
          obtain ⟨q, cs, rfl, hGq, hp, hrep⟩ := SlV_at (hvl5.keep k6 (fun i hi h => by have := hG i h; omega)) hx
          obtain ⟨x1, x2⟩ := x
          obtain ⟨_, _, rfl, ⟨rfl, _⟩, ⟨rfl, hw2⟩⟩ := hrep
          have hw2' := (wf_i64 hw2).2
          have hqk := hG _ hGq
          refine wp_skip ?_
          refine n_then ?_
          refine c_seq ?_
          refine wp_block ?_
          refine c_seq ?_
          refine wp_reg (by decide +kernel) ?_
          refine l_v (v_move (t := .pointer _) rfl) ?_
          refine l_to (to_f1 (by kernel_rfl) (show _ = (Value.pointer _) from rfl) (CallsR.mono (refLeft_c t6.f) ?_))
          rintro _ w7 ⟨rfl, e7⟩
          have zs_e7 := e7.size
          have t7 : Two w7 b2 w3.heap.size (fun k => w1.heap.size ≤ k ∧ k < b2) (fun k => w2.heap.size ≤ k ∧ k < w3.heap.size) l1 := ⟨t6.r.ext e7, t6.f.ext e7, t6.h1, fun k hk => Nat.lt_of_lt_of_le (t6.h2 k hk) e7.size, t6.n1, t6.n2, t6.n3, t6.ne⟩
          refine l_v (v_assign (t := .int _ _) rfl) ?_
          refine l_nil ?_
          refine n_then ?_
          refine c_seq ?_
          refine wp_reg (by decide +kernel) ?_
          refine l_v (v_move (t := .pointer _) rfl) ?_
          refine l_v (v_move (t := .pointer _) rfl) ?_
          refine l_v (v_move (t := .slice _ _ _) rfl) ?_
          refine l_v (v_move (t := .int _ _) rfl) ?_
          refine l_v (v_indexAddr (et := 51) (sz := 2) (k := k) (by kernel_rfl) (by kernel_rfl) rfl rfl rfl (by omega)) ?_
          refine l_v (v_loadA (n := 2) (by kernel_rfl) rfl (hp.ext e7) (rfl)) ?_
          refine l_to (to_f3 (by kernel_rfl) (show _ = (Value.pointer _) from rfl) (show _ = (Value.pointer _) from rfl) (show _ = (Value.agg _) from rfl) (CallsR.mono (read_c (k := x1) (m := x2) t7 hw2' (by omega)) ?_))
          rintro r w8 ⟨hr8, t8, k8⟩
          have zs_k8 := k8.size
          obtain ⟨e, he⟩ : ∃ e, e = (readQ x1 x2 l1).1 := ⟨_, rfl⟩
          rw [← he] at hr8
          subst hr8
          have hle := readQ_len x1 x2 l1
          refine l_v (v_move (t := .tuple _) rfl) ?_
          refine l_v (v_extract (t := .int _ _) rfl rfl) ?_
          refine l_v (v_extract (t := .bool _) rfl rfl) ?_
          refine l_v (v_assign (t := .int _ _) rfl) ?_
          refine l_v (v_assign (t := .bool _) rfl) ?_
          refine l_nil ?_
          refine n_then ?_
          by_cases he0 : e = 0
          · skip
            refine c_seq ?_
            refine c_seq ?_
            refine wp_reg (by decide +kernel) ?_
            refine l_v (v_move (t := .bool _) rfl) ?_
            refine l_v (v_not rfl) ?_
            refine l_v (v_move (t := .bool _) rfl) ?_
            refine l_gt rfl rfl (OpTo.of_v (v_move (t := .pointer _) rfl) ?_)
            refine l_gt rfl rfl (to_f1 (by kernel_rfl) (show _ = (Value.pointer _) from rfl) (CallsR.mono (Left_c t8.r) ?_))
            rintro _ w9 ⟨rfl, e9⟩
            have zs_e9 := e9.size
            refine l_gt rfl rfl (OpTo.of_v (v_move (t := .pointer _) rfl) ?_)
            refine l_gt rfl rfl (to_f1 (by kernel_rfl) (show _ = (Value.pointer _) from rfl) (CallsR.mono (refLeft_c (t8.f.ext e9)) ?_))
            rintro _ w10 ⟨rfl, e10⟩
            have zs_e10 := e10.size
            refine l_gt rfl rfl (OpTo.of_v (OpVat.as (b := false) (v_neq rfl rfl) (by first | rfl | (simp; done) | (simp; omega))) ?_)
            refine l_v (v_orT rfl rfl) ?_
            refine l_v (v_move (t := .bool _) rfl) ?_
            refine l_gt rfl rfl (OpTo.of_v (v_move (t := .pointer _) rfl) ?_)
            refine l_gt rfl rfl (to_f1 (by kernel_rfl) (show _ = (Value.pointer _) from rfl) (CallsR.mono (End_c (t8.r.ext (e9.trans e10))) ?_))
            rintro _ w11 ⟨rfl, e11⟩
            have zs_e11 := e11.size
            refine l_gt rfl rfl (to_f1 (by kernel_rfl) (show _ = (Value.int _ _) from rfl) (CallsR.mono (num_c) ?_))
            rintro _ w12 ⟨rfl, e12⟩
            have zs_e12 := e12.size
            refine l_gt rfl rfl (OpTo.of_v (v_eql rfl rfl) ?_)
            refine l_gt rfl rfl (OpTo.of_v (v_move (t := .pointer _) rfl) ?_)
            refine l_gt rfl rfl (to_f1 (by kernel_rfl) (show _ = (Value.pointer _) from rfl) (CallsR.mono (refLeft_c (t8.f.ext (e9.trans (e10.trans (e11.trans e12))))) ?_))
            rintro _ w13 ⟨rfl, e13⟩
            have zs_e13 := e13.size
            refine l_gt rfl rfl (OpTo.of_v (v_eql rfl rfl) ?_)
            refine l_gt rfl rfl (OpTo.of_v (OpVat.as (b := false) (v_bneq (by kernel_rfl) rfl rfl) (end_eq _)) ?_)
            refine l_v (v_orT rfl rfl) ?_
            refine l_v (v_move (t := .bool _) rfl) ?_
            refine l_gt rfl rfl (OpTo.of_v (v_move (t := .int _ _) rfl) ?_)
            refine l_gt rfl rfl (OpTo.of_v (OpVat.as (b := false) (v_neq rfl rfl) (by subst he0; rfl)) ?_)
            refine l_gt rfl rfl (OpTo.of_v (v_move (t := .bool _) rfl) ?_)
            refine l_skip (u := .bool false) rfl rfl rfl ?_
            refine l_skip (u := .bool false) rfl rfl rfl ?_
            refine l_skip (u := .bool false) rfl rfl rfl ?_
            refine l_skip (u := .bool false) rfl rfl rfl ?_
            refine l_gt rfl rfl (OpTo.of_v (v_andC rfl) ?_)
            refine l_v (v_orT rfl rfl) ?_
            refine l_nil ?_
            refine n_then ?_
            refine c_cond rfl rfl (fun hf => ?_) (fun hf => ?_)
            · skip
              cases hf
            · skip
              have e814 : Ext w8 w13 := e9.trans (e10.trans (e11.trans (e12.trans e13)))
              have t14 : Two w13 b2 w3.heap.size (fun k => w1.heap.size ≤ k ∧ k < b2) (fun k => w2.heap.size ≤ k ∧ k < w3.heap.size) (readQ x1 x2 l1).2 := ⟨t8.r.ext e814, t8.f.ext e814, t8.h1, fun k hk => Nat.lt_of_lt_of_le (t8.h2 k hk) e814.size, t8.n1, t8.n2, t8.n3, t8.ne⟩
              have k614 : Keep (fun k => k = b2 ∨ k = w3.heap.size) w6 w13 := ((e7.mono fun _ _ h => h.elim).trans k8).trans (e814.mono fun _ _ h => h.elim)
              refine wp_skip ?_
              refine n_then ?_
              refine c_seq ?_
              refine wp_reg (by decide +kernel) ?_
              refine l_v (v_move (t := .pointer _) rfl) ?_
              refine l_v (v_move (t := .pointer _) rfl) ?_
              refine l_v (v_move (t := .slice _ _ _) rfl) ?_
              refine l_v (v_move (t := .int _ _) rfl) ?_
              refine l_v (v_indexAddr (et := 51) (sz := 2) (k := k) (by kernel_rfl) (by kernel_rfl) rfl rfl rfl (by omega)) ?_
              refine l_v (v_loadA (n := 2) (by kernel_rfl) rfl (hp.keep k614 (by rw [add_block]; omega)) (rfl)) ?_
              refine l_to (to_f3 (by kernel_rfl) (show _ = (Value.pointer _) from rfl) (show _ = (Value.pointer _) from rfl) (show _ = (Value.agg _) from rfl) (CallsR.mono (read_c (k := x1) (m := x2) t14 hw2' (by omega)) ?_))
              rintro r w15 ⟨hr15, t15, k15⟩
              have zs_k15 := k15.size
              obtain ⟨ee, hee⟩ : ∃ e, e = (readQ x1 x2 (readQ x1 x2 l1).2).1 := ⟨_, rfl⟩
              rw [← hee] at hr15
              subst hr15
              have hle2 := readQ_len x1 x2 (readQ x1 x2 l1).2
              refine l_v (v_move (t := .tuple _) rfl) ?_
              refine l_v (v_extract (t := .int _ _) rfl rfl) ?_
              refine l_v (v_extract (t := .bool _) rfl rfl) ?_
              refine l_v (v_assign (t := .int _ _) rfl) ?_
              refine l_v (v_assign (t := .bool _) rfl) ?_
              refine l_nil ?_
              refine n_then ?_
              refine c_seq ?_
              refine wp_reg (by decide +kernel) ?_
              refine l_v (v_move (t := .int _ _) rfl) ?_
              refine l_v (OpVat.as (b := false) (v_neq rfl rfl) (by subst he0; rfl)) ?_
              refine l_v (v_move (t := .bool _) rfl) ?_
              refine l_skip (u := .bool false) rfl rfl rfl ?_
              refine l_skip (u := .bool false) rfl rfl rfl ?_
              refine l_skip (u := .bool false) rfl rfl rfl ?_
              refine l_skip (u := undef) rfl rfl rfl ?_
              refine l_skip (u := undef) rfl rfl rfl ?_
              refine l_skip (u := undef) rfl rfl rfl ?_
              refine l_skip (u := .bool false) rfl rfl rfl ?_
              refine l_v (v_andC rfl) ?_
              refine l_nil ?_
              refine n_then ?_
              refine c_cond rfl rfl (fun hf2 => ?_) (fun hf2 => ?_)
              · skip
                cases hf2
              · skip
                refine wp_skip ?_
                refine n_blk ?_
                refine n_then ?_
                refine wp_reg (by decide +kernel) ?_
                refine l_v (v_move (t := .int _ _) rfl) ?_
                refine l_v (v_add rfl rfl (by first | exact wr_i64 (by omega) (by omega) | rfl)) ?_
                refine l_v (v_assign (t := .int _ _) rfl) ?_
                refine l_nil ?_
                refine n_then ?_
                refine ⟨(k + 1, (readQ x1 x2 (readQ x1 x2 l1).2).2), _, rfl, by (repeat (first | exact Off.of_over _ _ _ | refine Off.upd ?_ (by decide) _)), ⟨by first | rfl | exact congrArg (Value.int _) (by omega) | (simp; done), trivial⟩, ?_, ?_⟩
                · exact ⟨t15, (k6.trans k614).trans k15, by omega, by omega⟩
                · dsimp only; omega
          · skip
            refine c_seq ?_
            refine c_seq ?_
            refine wp_reg (by decide +kernel) ?_
            refine l_v (v_move (t := .bool _) rfl) ?_
            refine l_v (v_not rfl) ?_
            refine l_v (v_move (t := .bool _) rfl) ?_
            refine l_gt rfl rfl (OpTo.of_v (v_move (t := .pointer _) rfl) ?_)
            refine l_gt rfl rfl (to_f1 (by kernel_rfl) (show _ = (Value.pointer _) from rfl) (CallsR.mono (Left_c t8.r) ?_))
            rintro _ w9 ⟨rfl, e9⟩
            have zs_e9 := e9.size
            refine l_gt rfl rfl (OpTo.of_v (v_move (t := .pointer _) rfl) ?_)
            refine l_gt rfl rfl (to_f1 (by kernel_rfl) (show _ = (Value.pointer _) from rfl) (CallsR.mono (refLeft_c (t8.f.ext e9)) ?_))
            rintro _ w10 ⟨rfl, e10⟩
            have zs_e10 := e10.size
            refine l_gt rfl rfl (OpTo.of_v (OpVat.as (b := false) (v_neq rfl rfl) (by first | rfl | (simp; done) | (simp; omega))) ?_)
            refine l_v (v_orT rfl rfl) ?_
            refine l_v (v_move (t := .bool _) rfl) ?_
            refine l_gt rfl rfl (OpTo.of_v (v_move (t := .pointer _) rfl) ?_)
            refine l_gt rfl rfl (to_f1 (by kernel_rfl) (show _ = (Value.pointer _) from rfl) (CallsR.mono (End_c (t8.r.ext (e9.trans e10))) ?_))
            rintro _ w11 ⟨rfl, e11⟩
            have zs_e11 := e11.size
            refine l_gt rfl rfl (to_f1 (by kernel_rfl) (show _ = (Value.int _ _) from rfl) (CallsR.mono (num_c) ?_))
            rintro _ w12 ⟨rfl, e12⟩
            have zs_e12 := e12.size
            refine l_gt rfl rfl (OpTo.of_v (v_eql rfl rfl) ?_)
            refine l_gt rfl rfl (OpTo.of_v (v_move (t := .pointer _) rfl) ?_)
            refine l_gt rfl rfl (to_f1 (by kernel_rfl) (show _ = (Value.pointer _) from rfl) (CallsR.mono (refLeft_c (t8.f.ext (e9.trans (e10.trans (e11.trans e12))))) ?_))
            rintro _ w13 ⟨rfl, e13⟩
            have zs_e13 := e13.size
            refine l_gt rfl rfl (OpTo.of_v (v_eql rfl rfl) ?_)
            refine l_gt rfl rfl (OpTo.of_v (OpVat.as (b := false) (v_bneq (by kernel_rfl) rfl rfl) (end_eq _)) ?_)
            refine l_v (v_orT rfl rfl) ?_
            refine l_v (v_move (t := .bool _) rfl) ?_
            refine l_gt rfl rfl (OpTo.of_v (v_move (t := .int _ _) rfl) ?_)
            refine l_gt rfl rfl (OpTo.of_v (OpVat.as (b := true) (v_neq rfl rfl) (by rw [decide_eq_false he0]; rfl)) ?_)
            refine l_gt rfl rfl (OpTo.of_v (v_move (t := .bool _) rfl) ?_)
            refine l_gt rfl rfl (OpTo.of_v (v_move (t := .pointer _) rfl) ?_)
            refine l_gt rfl rfl (to_f1 (by kernel_rfl) (show _ = (Value.pointer _) from rfl) (CallsR.mono (refLeft_c (t8.f.ext (e9.trans (e10.trans (e11.trans (e12.trans e13)))))) ?_))
            rintro _ w14 ⟨rfl, e14⟩
            have zs_e14 := e14.size
            refine l_gt rfl rfl (OpTo.of_v (v_move (t := .int _ _) rfl) ?_)
            refine l_gt rfl rfl (OpTo.of_v (OpVat.as (b := false) (v_neq rfl rfl) (by have := readQ_err (k := x1) (m := x2) (l := l1) (by rw [← he]; exact he0); rw [this]; simp)) ?_)
            refine l_gt rfl rfl (OpTo.of_v (v_andT rfl rfl) ?_)
            refine l_v (v_orT rfl rfl) ?_
            refine l_nil ?_
            refine n_then ?_
            refine c_cond rfl rfl (fun hf => ?_) (fun hf => ?_)
            · skip
              cases hf
            · skip
              have e814 : Ext w8 w14 := e9.trans (e10.trans (e11.trans (e12.trans (e13.trans e14))))
              have t14 : Two w14 b2 w3.heap.size (fun k => w1.heap.size ≤ k ∧ k < b2) (fun k => w2.heap.size ≤ k ∧ k < w3.heap.size) (readQ x1 x2 l1).2 := ⟨t8.r.ext e814, t8.f.ext e814, t8.h1, fun k hk => Nat.lt_of_lt_of_le (t8.h2 k hk) e814.size, t8.n1, t8.n2, t8.n3, t8.ne⟩
              have k614 : Keep (fun k => k = b2 ∨ k = w3.heap.size) w6 w14 := ((e7.mono fun _ _ h => h.elim).trans k8).trans (e814.mono fun _ _ h => h.elim)
              refine wp_skip ?_
              refine n_then ?_
              refine c_seq ?_
              refine wp_reg (by decide +kernel) ?_
              refine l_v (v_move (t := .pointer _) rfl) ?_
              refine l_v (v_move (t := .pointer _) rfl) ?_
              refine l_v (v_move (t := .slice _ _ _) rfl) ?_
              refine l_v (v_move (t := .int _ _) rfl) ?_
              refine l_v (v_indexAddr (et := 51) (sz := 2) (k := k) (by kernel_rfl) (by kernel_rfl) rfl rfl rfl (by omega)) ?_
              refine l_v (v_loadA (n := 2) (by kernel_rfl) rfl (hp.keep k614 (by rw [add_block]; omega)) (rfl)) ?_
              refine l_to (to_f3 (by kernel_rfl) (show _ = (Value.pointer _) from rfl) (show _ = (Value.pointer _) from rfl) (show _ = (Value.agg _) from rfl) (CallsR.mono (read_c (k := x1) (m := x2) t14 hw2' (by omega)) ?_))
              rintro r w15 ⟨hr15, t15, k15⟩
              have zs_k15 := k15.size
              obtain ⟨ee, hee⟩ : ∃ e, e = (readQ x1 x2 (readQ x1 x2 l1).2).1 := ⟨_, rfl⟩
              rw [← hee] at hr15
              subst hr15
              have hle2 := readQ_len x1 x2 (readQ x1 x2 l1).2
              refine l_v (v_move (t := .tuple _) rfl) ?_
              refine l_v (v_extract (t := .int _ _) rfl rfl) ?_
              refine l_v (v_extract (t := .bool _) rfl rfl) ?_
              refine l_v (v_assign (t := .int _ _) rfl) ?_
              refine l_v (v_assign (t := .bool _) rfl) ?_
              refine l_nil ?_
              refine n_then ?_
              refine c_seq ?_
              refine wp_reg (by decide +kernel) ?_
              refine l_v (v_move (t := .int _ _) rfl) ?_
              refine l_v (OpVat.as (b := true) (v_neq rfl rfl) (by rw [decide_eq_false he0]; rfl)) ?_
              refine l_v (v_move (t := .bool _) rfl) ?_
              refine l_gt rfl rfl (OpTo.of_v (v_move (t := .bool _) rfl) ?_)
              refine l_gt rfl rfl (OpTo.of_v (v_not rfl) ?_)
              refine l_gt rfl rfl (OpTo.of_v (v_move (t := .bool _) rfl) ?_)
              refine l_gt rfl rfl (OpTo.of_v (v_move (t := .int _ _) rfl) ?_)
              refine l_gt rfl rfl (OpTo.of_v (v_move (t := .int _ _) rfl) ?_)
              refine l_gt rfl rfl (OpTo.of_v (OpVat.as (b := false) (v_neq rfl rfl) (by have := readQ_err (k := x1) (m := x2) (l := l1) (by rw [← he]; exact he0); rw [hee, this, ← he]; simp)) ?_)
              refine l_gt rfl rfl (OpTo.of_v (v_orT rfl rfl) ?_)
              refine l_v (v_andT rfl rfl) ?_
              refine l_nil ?_
              refine n_then ?_
              refine c_cond rfl rfl (fun hf2 => ?_) (fun hf2 => ?_)
              · skip
                cases hf2
              · skip
                refine wp_skip ?_
                refine n_blk ?_
                refine n_then ?_
                refine wp_reg (by decide +kernel) ?_
                refine l_v (v_move (t := .int _ _) rfl) ?_
                refine l_v (v_add rfl rfl (by first | exact wr_i64 (by omega) (by omega) | rfl)) ?_
                refine l_v (v_assign (t := .int _ _) rfl) ?_
                refine l_nil ?_
                refine n_then ?_
                refine ⟨(k + 1, (readQ x1 x2 (readQ x1 x2 l1).2).2), _, rfl, by (repeat (first | exact Off.of_over _ _ _ | refine Off.upd ?_ (by decide) _)), ⟨by first | rfl | exact congrArg (Value.int _) (by omega) | (simp; done), trivial⟩, ?_, ?_⟩
                · exact ⟨t15, (k6.trans k614).trans k15, by omega, by omega⟩
                · dsimp only; omega
        · skip
          have e06 : Ext w0 w6 := e05.step k6 fun i hi h => by omega
          refine wp_exit ?_
          refine x_then ?_
          refine x_then ?_
          refine x_hit ?_
          refine n_then ?_
          refine c_seq ?_
          refine wp_reg (by decide +kernel) ?_
          refine l_to (to_f0 (by kernel_rfl) (CallsR.mono (known_c) ?_))
          rintro _ w20 ⟨rfl, e20⟩
          have zs_e20 := e20.size
          refine l_v (v_assign (t := .bool _) rfl) ?_
          refine l_nil ?_
          refine n_then ?_
          refine wp_ret ?_
          refine ret1 rfl (by decide) ?_
          exact ⟨rfl, e06.trans e20⟩
end Go.Proofs.Ythnpnniiejcnbaa
