/- A part of the proof: steps and lemmas for the walks through the given program. -/
import Derived.Test.YthnpnniiejcnbaaW22
namespace Go.Proofs.Ythnpnniiejcnbaa
open Go.Vc
set_option linter.unusedVariables false
set_option linter.unusedSimpArgs false
set_option maxRecDepth 100000

abbrev nU64 : Nat := 29
theorem refRNumbers_c {w : World} {b : Nat} {F : Nat → Prop} {l : List UInt8} {most : Int} (hr : Rf w b F l) (hF : ∀ k, F k → k < w.heap.size) (hFb : ¬ F b) (hm : 0 ≤ most) (hm2 : most ≤ 9223372036854775807) (hl : l.length ≤ 5000000000000) : CallsR Try.prog 51 #[.pointer (some ⟨b, 0, none⟩), .int .i64 most] w (fun r w' => TryF (tInt .u64) w w' b F l (tryRd (rdList rdU) most.toNat l) r ∧ Keep (fun k => k = b) w w') := by
  obtain ⟨v, hb, hv⟩ := hr
  obtain ⟨a, c, rfl⟩ := hv.shape
  have hblt := hb.lt
  refine enter 49 Try.func51 rfl rfl (by simp) ?_
  refine c_seq ?_
  refine wp_reg (by decide +kernel) ?_
  refine l_v (v_assign rfl) ?_
  refine l_v (v_assign rfl) ?_
  refine l_nil ?_
  refine n_then ?_
  refine c_seq ?_
  refine wp_reg (by decide +kernel) ?_
  refine l_v (v_move (t := .pointer _) rfl) ?_
  refine l_v (v_nilCheck rfl) ?_
  refine l_v (v_fieldAddr (off := 0) (ft := 22) (by kernel_rfl) rfl) ?_
  refine l_v (v_load (by kernel_rfl) rfl (hb.pv 0 _ rfl)) ?_
  refine l_v (v_assign (t := .slice _ _ _) rfl) ?_
  refine l_nil ?_
  refine n_then ?_
  refine c_seq ?_
  refine wp_reg (by decide +kernel) ?_
  refine l_v (v_move (t := .pointer _) rfl) ?_
  refine l_v (v_move (t := .int _ _) rfl) ?_
  refine l_to (to_f2 (by kernel_rfl) (show _ = (Value.pointer _) from rfl) (show _ = (Value.int _ _) from rfl) (CallsR.mono (many_c ⟨_, hb, hv⟩ hFb hm hm2) ?_))
  rintro r w1 ⟨⟨n, e, hr1, hnl, hnx⟩, r1, k1⟩
  have zs_k1 := k1.size
  subst hr1
  have hq : tryRd (rdList rdU) most.toNat l = (if e = 0 then rdList rdU n (rest l) else .error e) := by
    rw [tryRd]
    rcases hnx with ⟨he, hd, hle⟩ | ⟨he, hn0, m, hd, hle⟩ | ⟨he, hn0, hd⟩
    · rw [hd, if_pos he]; simp only [if_pos hle]
    · rw [hd, he]; simp only [if_neg hle]; rfl
    · rw [hd, he]; rfl
  have hrl : (rest l).length ≤ l.length := by
    have := rdNum_whole (l := l)
    rw [rest]
    rcases hd : rdNum l with _ | ⟨n2, r2⟩
    · exact Nat.le_refl _
    · have h3 := rdNum_form hd; have h2 := congrArg List.length h3; rw [List.length_append] at h2; simp only []; omega
  have hn0 : e ≠ 0 → n = 0 := by
    intro h
    rcases hnx with ⟨he, _⟩ | ⟨_, hn0, _⟩ | ⟨_, hn0, _⟩
    · exact absurd he h
    · exact hn0
    · exact hn0
  refine l_v (v_move (t := .tuple _) rfl) ?_
  refine l_v (v_extract (t := .int _ _) rfl rfl) ?_
  refine l_v (v_extract (t := .int _ _) rfl rfl) ?_
  refine l_v (v_assign (t := .int _ _) rfl) ?_
  refine l_v (v_assign (t := .int _ _) rfl) ?_
  refine l_nil ?_
  refine n_then ?_
  refine c_seq ?_
  refine wp_reg (by decide +kernel) ?_
  refine l_v (v_assign rfl) ?_
  refine l_nil ?_
  refine n_then ?_
  refine c_seq ?_
  refine wp_block ?_
  refine c_loop (τ := Option Addr × Nat × Int × List Int × List UInt8) [8, 9, 10, 11, 22, 23, 24, 25, 26, 27, 28, 29, 30, 31, 32, 33, 34, 35, 36, 37, 38, 39, 40] (fun (a2, c2, er, xs, l1) => [(8, .int .i64 er), (9, .slice a2 xs.length c2)]) (fun (a2, c2, er, xs, l1) w => OwV (tInt .u64) nU64 w w1.heap.size NoK (.slice a2 xs.length c2) xs ∧ Keep (fun k => k = b) w1 w ∧ (∃ l2, Rf w b F l2) ∧ ((er = 0 ∧ e = 0 ∧ Rf w b F l1 ∧ xs.length ≤ n ∧ xs.length + l1.length ≤ (rest l).length ∧ rdList rdU n (rest l) = bindL xs (rdList rdU (n - xs.length) l1)) ∨ (er ≠ 0 ∧ ((e ≠ 0 ∧ er = e) ∨ (e = 0 ∧ rdList rdU n (rest l) = .error er))))) (fun (a2, c2, er, xs, l1) => n - xs.length) (none, 0, e, [], rest l) (by exact ⟨rfl, rfl, trivial⟩) (by exact ⟨OwV.nil _ _ _ _ _, Keep.refl _, ⟨_, r1⟩, by by_cases he : e = 0; exact .inl ⟨he, he, r1, Nat.zero_le _, by simp, by simp [bindL_nil]⟩; exact .inr ⟨he, .inl ⟨he, rfl⟩⟩⟩) ?_
  rintro ⟨a2, c2, er, xs, l1⟩ w2 j ⟨o2, k2, hex, hst⟩
  refine c_seq ?_
  refine c_seq ?_
  have hmx := o2.max
  simp only [maxLen] at hmx
  refine wp_reg (by decide +kernel) ?_
  refine l_v (v_move (t := .slice _ _ _) rfl) ?_
  refine l_v (v_len (et := 29) (by kernel_rfl) rfl) ?_
  refine l_v (v_conv (ds := .int .i64) (by kernel_rfl) (by kernel_rfl) rfl (by first | exact wr_u64 (by omega) (by omega) | rfl)) ?_
  refine l_v (v_move (t := .int _ _) rfl) ?_
  refine l_v (v_lss rfl rfl) ?_
  refine l_v (v_move (t := .bool _) rfl) ?_
  refine l_g1 rfl rfl (fun hG => v_move (t := .int _ _) rfl) ?_
  refine l_g1 rfl rfl (fun hG => v_eql (gd hG rfl) rfl) ?_
  refine l_v (v_and rfl rfl) ?_
  refine l_nil ?_
  refine n_then ?_
  refine c_cond rfl rfl (fun hc => ?_) (fun hc => ?_)
  · skip
    simp only [Bool.and_eq_true, decide_eq_true_eq] at hc
    obtain ⟨_, he0, r2, hxn, hxl, hrd⟩ := hst.resolve_right (fun h => h.1 hc.2)
    obtain ⟨m, me, hm3, hml, hmx2⟩ := numV_any l1
    have zs_k2 := k2.size
    refine wp_skip ?_
    refine n_then ?_
    refine wp_block ?_
    refine c_seq ?_
    refine wp_reg (by decide +kernel) ?_
    refine l_v (v_move (t := .pointer _) rfl) ?_
    refine l_to (to_f1 (by kernel_rfl) (show _ = (Value.pointer _) from rfl) (CallsR.mono (refRNumber_c r2 hFb) ?_))
    rintro r w3 ⟨hr3, r3, k3⟩
    have zs_k3 := k3.size
    rw [hm3] at hr3
    subst hr3
    refine l_v (v_move (t := .tuple _) rfl) ?_
    refine l_v (v_extract (t := .int _ _) rfl rfl) ?_
    refine l_v (v_extract (t := .int _ _) rfl rfl) ?_
    refine l_v (v_assign (t := .int _ _) rfl) ?_
    refine l_v (v_assign (t := .int _ _) rfl) ?_
    refine l_nil ?_
    refine n_then ?_
    refine c_seq ?_
    refine wp_reg (by decide +kernel) ?_
    refine l_v (v_move (t := .slice _ _ _) rfl) ?_
    refine l_v (v_move (t := .int _ _) rfl) ?_
    refine l_to (to_slice1 (t := (tInt .u64)) (et := 29) (bytes := 8) (by kernel_rfl) (by decide) (show _ = (Value.int _ _) from rfl) ((show (tInt .u64).rep _ NoK [.int .u64 (m : Int)] (m : Int) from ⟨rfl, wfu hml⟩)) ?_)
    rintro b4 w4 rfl o4 e4 z4
    have zs_e4 := e4.size
    refine l_to (to_append (et := 29) (bytes := 8) (by kernel_rfl) (show _ = (Value.slice _ _ _) from rfl) ((o2.keep k3 (fun i hi h => by have := (o2.own_lt hi).1; have := k1.size; omega) (fun i _ hi _ h => hi)).ext e4) (show _ = (Value.slice _ _ _) from rfl) o4.view ((fun _ _ h => h)) (by first | omega | (simp; done) | (simp; omega)) (by simp only [maxLen]; first | omega | (simp; done) | (simp; omega)) (by omega) ?_)
    rintro a5 n5 c5 w5 o5 hn5 k5 b5 i5
    have zs_k5 := k5.size
    subst hn5
    refine l_v (v_assign (t := .slice _ _ _) rfl) ?_
    refine l_nil ?_
    refine n_then ?_
    refine wp_reg (by decide +kernel) ?_
    refine l_v (v_move (t := .int _ _) rfl) ?_
    refine l_v (v_assign (t := .int _ _) rfl) ?_
    refine l_nil ?_
    refine n_blk ?_
    refine n_then ?_
    refine ⟨(a5, c5, me, xs ++ [(m : Int)], rest l1), _, rfl, by (repeat (first | exact Off.of_over _ _ _ | refine Off.upd ?_ (by decide) _)), ⟨by first | rfl | exact congrArg (Value.int _) (by omega) | (simp; done), by first | rfl | exact congrArg (Value.int _) (by omega) | (simp; done), trivial⟩, ?_, ?_⟩
    · have hsub : n - xs.length = (n - (xs ++ [(m : Int)]).length) + 1 := by simp only [List.length_append, List.length_singleton]; omega
      have e5 : Keep (fun k => k = b) w1 w5 := ((k2.trans k3).step e4 (fun _ _ h => h.elim)).step k5 fun i hi h => by have := (o2.own_lt h).1; omega
      have r5 : Rf w5 b F (rest l1) := (r3.ext e4).keep k5 (fun h => by have := (o2.own_lt h).1; have := k1.size; omega) (fun i hi h => by have := (o2.own_lt h).1; have := hF i hi; have := k1.size; omega)
      refine ⟨o5, e5, ⟨_, r5⟩, ?_⟩
      rcases hmx2 with ⟨hme, hl1, hd⟩ | ⟨hme, hm0, _, hd⟩
      · refine .inl ⟨hme, he0, r5, by simp only [List.length_append, List.length_singleton]; omega, ?_, ?_⟩
        · have h3 := congrArg List.length hl1
          have := wNum_pos m
          rw [List.length_append] at h3
          simp only [List.length_append, List.length_singleton]; omega
        · rw [hrd, hsub]; exact rdList_ok (by rw [rdU, hd])
      · exact .inr ⟨by omega, .inr ⟨he0, by rw [hrd, hsub]; rw [hme]; exact rdList_err (by rw [rdU, hd])⟩⟩
    · simp only [List.length_append, List.length_singleton]; omega
  · skip
    have zs_k2 := k2.size
    have zs_k1 := k1.size
    refine wp_exit ?_
    refine x_then ?_
    refine x_then ?_
    refine x_hit ?_
    refine n_then ?_
    refine c_seq ?_
    refine c_seq ?_
    refine wp_reg (by decide +kernel) ?_
    refine l_v (v_move (t := .int _ _) rfl) ?_
    refine l_v (v_neq rfl rfl) ?_
    refine l_nil ?_
    refine n_then ?_
    refine c_cond rfl rfl (fun hd => ?_) (fun hd => ?_)
    · skip
      have hne : er ≠ 0 := by simpa using hd
      obtain ⟨l2, v2, hb2, hv2⟩ := hex
      refine c_seq ?_
      refine wp_reg (by decide +kernel) ?_
      refine l_v (v_move (t := .pointer _) rfl) ?_
      refine l_v (v_move (t := .slice _ _ _) rfl) ?_
      refine l_v (v_nilCheck rfl) ?_
      refine l_v (v_fieldAddr (off := 0) (ft := 22) (by kernel_rfl) rfl) ?_
      refine l_to (to_store rfl rfl (show _ = (Value.slice _ _ _) from rfl) rfl (by kernel_rfl) hb2 (by simp) ?_)
      rintro w3 h3 k3 z3
      have zs_k3 := k3.size
      refine l_nil ?_
      refine n_then ?_
      refine c_seq ?_
      refine wp_reg (by decide +kernel) ?_
      refine l_v (v_move (t := .int _ _) rfl) ?_
      refine l_v (v_assign rfl) ?_
      refine l_v (v_assign (t := .int _ _) rfl) ?_
      refine l_nil ?_
      refine n_then ?_
      refine wp_ret ?_
      refine r_then ?_
      refine ret2 rfl (by decide) (by decide) ?_
      have hqe : tryRd (rdList rdU) most.toNat l = .error er := by
        rw [hq]
        rcases hst with ⟨h, _⟩ | ⟨_, ⟨h1, h2⟩ | ⟨h1, h2⟩⟩
        · exact absurd h hne
        · rw [if_neg h1, h2]
        · rw [if_pos h1, h2]
      rw [hqe]
      exact ⟨⟨hne, rfl, _, h3, (hv.keep (k1.trans k2) (fun i hi h he => hFb (by subst he; exact h))).keep k3 fun i hi h he => hFb (by subst he; exact h)⟩, (k1.trans k2).trans k3⟩
    · skip
      have he0 : er = 0 := by simpa using hd
      obtain ⟨_, hee, r2, hxn, hxl, hrd⟩ := hst.resolve_right (fun h => h.1 he0)
      refine wp_skip ?_
      refine n_then ?_
      refine c_seq ?_
      refine wp_reg (by decide +kernel) ?_
      refine l_v (v_move (t := .slice _ _ _) rfl) ?_
      refine l_v (v_assign (t := .slice _ _ _) rfl) ?_
      refine l_v (v_assign rfl) ?_
      refine l_nil ?_
      refine n_then ?_
      refine wp_ret ?_
      refine ret2 rfl (by decide) (by decide) ?_
      have hlen : n - xs.length = 0 := by
        rcases Nat.lt_or_ge xs.length n with h | h
        · rw [show decide (er = 0) = true from decide_eq_true he0, show decide ((xs.length : Int) < (n : Int)) = true from decide_eq_true (by omega)] at hc
          cases hc
        · omega
      rw [hq, if_pos hee, hrd, hlen]
      show TryF _ _ _ _ _ _ (.ok (xs ++ [], l1)) _ ∧ _
      rw [List.append_nil]
      exact ⟨⟨a2, c2, rfl, o2.view.mono (fun i _ h => by rcases h with h | h; omega; exact h.elim), r2⟩, k1.trans k2⟩
end Go.Proofs.Ythnpnniiejcnbaa
