/- A part of the proof: steps and lemmas for the walks through the given program. -/
import Derived.Test.YthnpnniiejcnbaaW12
import Derived.Test.YthnpnniiejcnbaaWPl2
namespace Go.Proofs.Ythnpnniiejcnbaa
open Go.Vc
set_option linter.unusedVariables false
set_option linter.unusedSimpArgs false
set_option maxRecDepth 100000

theorem numV_any (l : List UInt8) : ∃ (n : Nat) (e : Int), numV l = .tuple #[.int .u64 n, .int .i64 e] ∧ n < 18446744073709551616 ∧ ((e = 0 ∧ l = wNum n ++ rest l ∧ rdNum l = some (n, rest l)) ∨ (e = 4 ∧ n = 0 ∧ rest l = l ∧ rdNum l = none)) := by
  rcases hd : rdNum l with _ | ⟨n, r⟩
  · exact ⟨0, 4, by rw [numV, hd]; rfl, by omega, .inr ⟨rfl, rfl, by rw [rest, hd], rfl⟩⟩
  · have hr : rest l = r := by rw [rest, hd]
    exact ⟨n, 0, by rw [numV, hd], rdNum_lt hd, .inl ⟨rfl, by rw [hr]; exact rdNum_form hd, by rw [hr]⟩⟩
theorem sgnV_any (l : List UInt8) : ∃ (n e : Int), sgnV l = .tuple #[.int .i64 n, .int .i64 e] ∧ (-9223372036854775808 ≤ n ∧ n ≤ 9223372036854775807) ∧ ((e = 0 ∧ l = wNum (zig n) ++ rest l) ∨ (e = 4 ∧ n = 0 ∧ rest l = l)) := by
  rcases hd : rdNum l with _ | ⟨n, r⟩
  · exact ⟨0, 4, by rw [sgnV, hd], by omega, .inr ⟨rfl, rfl, by rw [rest, hd]⟩⟩
  · have hr : rest l = r := by rw [rest, hd]
    exact ⟨unzig n, 0, by rw [sgnV, hd], unzig_range (rdNum_lt hd), .inl ⟨rfl, by rw [hr, zig_unzig]; exact rdNum_form hd⟩⟩
theorem TryV_any {α : Type} {t : Ty α} {et eR : TypeId} {w w' : World} {b : Nat} {F : Nat → Prop} {l : List UInt8} {q : Except Int (List α × List UInt8)} {r : Value} (h : TryV t et eR w w' b F l q r) :
    ∃ (a : Option Addr) (c : Nat) (e : Int) (xs : List α) (l2 : List UInt8), r = .tuple #[.slice a xs.length c, .int .i64 e] ∧ OwV t et w' w.heap.size (fun k => w.heap.size ≤ k) (.slice a xs.length c) xs ∧ Rd eR w' b F l2 ∧ ((e = 0 ∧ q = .ok (xs, l2)) ∨ (e ≠ 0 ∧ xs = [] ∧ l2 = l ∧ a = none ∧ c = 0 ∧ q = .error e)) := by
  match q, h with
  | .ok (x, l2), ⟨a, c, hr, h1, h2⟩ => exact ⟨a, c, 0, x, l2, hr, h1, h2, .inl ⟨rfl, rfl⟩⟩
  | .error e, ⟨he, hr, h2⟩ => exact ⟨none, 0, e, [], l, hr, OwV.nil _ _ _ _ _, h2, .inr ⟨he, rfl, rfl, rfl, rfl, rfl⟩⟩

/-- a list is its form's bytes -/
theorem rdList_form {α : Type} {ρ : List UInt8 → Except Int (α × List UInt8)} {sp : α → List UInt8} (h : ∀ l x r, ρ l = .ok (x, r) → l = sp x ++ r) : ∀ (n : Nat) (l : List UInt8) (xs : List α) (r : List UInt8), rdList ρ n l = .ok (xs, r) → xs.length = n ∧ l = (xs.map sp).flatten ++ r
  | 0, l, xs, r, h1 => by cases h1; simp
  | n + 1, l, xs, r, h1 => by
    rw [rdList] at h1
    cases hq : ρ l with
    | error e => rw [hq] at h1; cases h1
    | ok q =>
      obtain ⟨x, l2⟩ := q
      rw [hq] at h1; simp only [] at h1
      cases hq2 : rdList ρ n l2 with
      | error e => rw [hq2] at h1; cases h1
      | ok q2 =>
        obtain ⟨ys, l3⟩ := q2
        rw [hq2] at h1; simp only [] at h1
        cases h1
        obtain ⟨h2, h3⟩ := rdList_form h n l2 ys _ hq2
        exact ⟨by simp [h2], by rw [h _ _ _ hq, h3]; simp⟩
theorem tryList_form {α : Type} {ρ : List UInt8 → Except Int (α × List UInt8)} {sp : α → List UInt8} (h : ∀ l x r, ρ l = .ok (x, r) → l = sp x ++ r) {most : Nat} {l : List UInt8} {xs : List α} {r : List UInt8} (h1 : tryRd (rdList ρ) most l = .ok (xs, r)) : l = wList sp xs ++ r ∧ xs.length ≤ most := by
  rw [tryRd] at h1
  rcases hd : rdNum l with _ | ⟨n, l'⟩
  · rw [hd] at h1; cases h1
  · rw [hd] at h1; simp only [] at h1
    by_cases hn : n ≤ most
    · rw [if_pos hn] at h1
      obtain ⟨h2, h3⟩ := rdList_form h n l' xs r h1
      rw [rdNum_form hd, h3, wList, h2]; simp [hn]
    · rw [if_neg hn] at h1; cases h1
theorem rdBytes_form {most : Nat} {l x r : List UInt8} (h1 : rdBytes most l = .ok (x, r)) : l = wBytes x ++ r := by
  rw [rdBytes, tryRd] at h1
  rcases hd : rdNum l with _ | ⟨n, l'⟩
  · rw [hd] at h1; cases h1
  · rw [hd] at h1; simp only [] at h1
    by_cases hn : n ≤ most
    · rw [if_pos hn, rdSome] at h1
      by_cases hl : n ≤ l'.length
      · rw [if_pos hl] at h1
        cases h1
        have : (l'.take n).length = n := by simp; omega
        rw [rdNum_form hd, wBytes, this, List.append_assoc, List.take_append_drop]
      · rw [if_neg hl] at h1; cases h1
    · rw [if_neg hn] at h1; cases h1
theorem rdBytes_len {most : Nat} {l x r : List UInt8} (h1 : rdBytes most l = .ok (x, r)) : x.length + r.length ≤ l.length := by
  have := rdBytes_form h1
  rw [this, wBytes]; simp

/-- numbers, one behind the other -/
def rdU (l : List UInt8) : Except Int (Int × List UInt8) := match rdNum l with
  | some (n, r) => .ok ((n : Int), r)
  | none => .error 4
def sU (x : Int) : List UInt8 := wNum x.toNat
theorem rdU_form : ∀ l x r, rdU l = .ok (x, r) → l = sU x ++ r := by
  intro l x r h
  rw [rdU] at h
  rcases hd : rdNum l with _ | ⟨n, l'⟩
  · rw [hd] at h; cases h
  · rw [hd] at h; cases h; exact rdNum_form hd
theorem rdU_short : ∀ l x r, rdU l = .ok (x, r) → r.length < l.length := by
  intro l x r h
  have h1 := rdU_form l x r h
  have := wNum_pos x.toNat
  rw [h1, List.length_append, sU]; omega
theorem oneU_c {w : World} {b : Nat} {F : Nat → Prop} {l : List UInt8} (hr : Rd nRd w b F l) (hF : ¬ F b) : CallsR Try.prog 15 (#[.pointer (some ⟨b, 0, none⟩)] ++ #[]) w (fun r w' => OneVU w w' b F (rdU l) r ∧ Keep (fun k => k = b) w w') := by
  refine CallsR.mono (rNumber_c hr hF) fun r w' ⟨h1, h2, k⟩ => ⟨?_, k⟩
  rcases hd : rdNum l with _ | ⟨n, l'⟩
  · rw [rdU, hd]; rw [numV, hd] at h1
    exact ⟨by decide, [.int .u64 0], 0, h1, rfl, rfl⟩
  · rw [rdU, hd]; rw [numV, hd] at h1; rw [rest, hd] at h2
    have := rdNum_lt hd
    exact ⟨[.int .u64 n], h1, ⟨rfl, by simp [Lit.wf, IntKind.min, IntKind.max, IntKind.signed, IntKind.bits]; omega⟩, h2⟩
theorem formU_c {w : World} {F : Nat → Prop} {cs : List Value} {x : Int} (hr : (tInt .u64).rep w F cs x) : CallsR Try.prog 19 (#[.int .u64 x] ++ #[]) w (fun r w2 => OwV tU8 nU8 w2 w.heap.size NoK r (sU x) ∧ Ext w w2) := by
  obtain ⟨_, hw⟩ := hr
  obtain ⟨h1, h2⟩ := wf_u64 hw
  obtain ⟨n, rfl⟩ := Int.eq_ofNat_of_zero_le h1
  exact CallsR.mono (Number_c (n := n) (by omega)) fun r w' ⟨h, _, e⟩ => ⟨h, e⟩

theorem as_c {w : World} {vb vf : Value} {F F' : Nat → Prop} {l fm : List UInt8} {left : Nat} {e : Int} (hb : Bv w F vb l) (hf : Bv w F' vf fm) (h : (e ≠ 0 ∧ left = l.length) ∨ (e = 0 ∧ ∃ r, l = fm ++ r ∧ left = r.length)) (hl : l.length ≤ 140737488355300) :
    CallsR Try.prog 36 #[vb, .int .i64 left, .int .i64 e, vf] w (fun r w' => r = .bool true ∧ Ext w w') := by
  obtain ⟨a, c, rfl⟩ := hb.shape
  obtain ⟨a2, c2, rfl⟩ := hf.shape
  refine enter 31 Try.func36 rfl rfl (by simp) ?_
  refine c_seq ?_
  refine wp_reg (by decide +kernel) ?_
  refine l_v (v_assign rfl) ?_
  refine l_nil ?_
  refine n_then ?_
  refine c_seq ?_
  refine c_seq ?_
  refine wp_reg (by decide +kernel) ?_
  refine l_v (v_move (t := .int _ _) rfl) ?_
  refine l_v (v_neq rfl rfl) ?_
  refine l_nil ?_
  refine n_then ?_
  refine c_cond rfl rfl (fun hc => ?_) (fun hc => ?_)
  · skip
    have hc : e ≠ 0 := by simpa using hc
    refine c_seq ?_
    refine wp_reg (by decide +kernel) ?_
    refine l_v (v_move (t := .int _ _) rfl) ?_
    refine l_v (v_move (t := .slice _ _ _) rfl) ?_
    refine l_v (v_len (et := 5) (by kernel_rfl) rfl) ?_
    refine l_v (v_eql rfl rfl) ?_
    refine l_v (v_assign (t := .bool _) rfl) ?_
    refine l_nil ?_
    refine n_then ?_
    refine wp_ret ?_
    refine r_then ?_
    refine ret1 rfl (by decide) ?_
    rcases h with ⟨_, rfl⟩ | ⟨he, _⟩
    · exact ⟨by simp; rfl, Keep.refl _⟩
    · exact absurd he hc
  · skip
    have hc : e = 0 := by simpa using hc
    obtain ⟨_, r, hlr, rfl⟩ := h.resolve_left (fun h => h.1 hc)
    have hlen := congrArg List.length hlr
    rw [List.length_append] at hlen
    have htk : l.take (l.length - r.length) = fm := by rw [hlen, Nat.add_sub_cancel, hlr, List.take_left' rfl]
    refine wp_skip ?_
    refine n_then ?_
    refine c_seq ?_
    refine wp_regd (NoK) (by kernel_rfl) (by decide +kernel) (by decide +kernel) ?_
    refine rt_v (fun vals w hR hd => v_move (t := .int _ _) rfl) ?_
    refine rt_v (fun vals w hR hd => v_move (t := .slice _ _ _) rfl) ?_
    refine rt_v (fun vals w hR hd => v_len (et := 5) (by kernel_rfl) (hd 1 rfl)) ?_
    refine rt_v (fun vals w hR hd => OpVat.as (b := true) (v_leq (hd 0 rfl) (hd 2 rfl)) (by first | rfl | (simp; done) | (simp; omega))) ?_
    refine rt_v (fun vals w hR hd => v_move (t := .bool _) (hd 3 rfl)) ?_
    refine rt_hv rfl (fun vals w hd => hd 4 rfl) (fun vals w hR hd => v_move (t := .slice _ _ _) rfl) ?_
    refine rt_hv rfl (fun vals w hd => hd 4 rfl) (fun vals w hR hd => v_move (t := .slice _ _ _) rfl) ?_
    refine rt_hv rfl (fun vals w hd => hd 4 rfl) (fun vals w hR hd => v_len (et := 5) (by kernel_rfl) (hd 6 rfl)) ?_
    refine rt_hv rfl (fun vals w hd => hd 4 rfl) (fun vals w hR hd => v_move (t := .int _ _) rfl) ?_
    refine rt_hv rfl (fun vals w hd => hd 4 rfl) (fun vals w hR hd => v_sub (hd 7 rfl) (hd 8 rfl) (by first | exact wr_i64 (by omega) (by omega) | rfl)) ?_
    refine rt_hto (fun v w => Bv w AllB v fm) (fun v w w' h k => h.ext k) rfl (fun vals w hd => hd 4 rfl) (fun vals w hR hd => to_slice (et := nU8) (l := 0) (h := l.length - r.length) (by kernel_rfl) (by kernel_rfl) (show _ = (Value.slice _ _ _) from (hd 5 rfl)) (hb.ext hR) rfl ⟨.i64, ((hd 9 rfl)).trans (congrArg (Value.int _) (by omega))⟩ (Nat.zero_le _) (by omega) (fun a n c h _ _ => ⟨Keep.refl _, by rw [htk] at h; exact h.allB⟩)) ?_
    refine rt_hv rfl (fun vals w hd => hd 4 rfl) (fun vals w hR hd => v_b2s (et := 5) (by kernel_rfl) (by kernel_rfl) (by kernel_rfl) rfl (hd 10 rfl)) ?_
    refine rt_hv rfl (fun vals w hd => hd 4 rfl) (fun vals w hR hd => v_move (t := .slice _ _ _) rfl) ?_
    refine rt_hv rfl (fun vals w hd => hd 4 rfl) (fun vals w hR hd => v_b2s (et := 5) (by kernel_rfl) (by kernel_rfl) (by kernel_rfl) (hd 12 rfl) (hf.ext hR)) ?_
    refine rt_hv rfl (fun vals w hd => hd 4 rfl) (fun vals w hR hd => OpVat.as (b := true) (v_seq (hd 11 rfl) (hd 13 rfl)) (by first | rfl | (simp; done) | (simp; omega))) ?_
    refine rt_v (fun vals w hR hd => v_andT (hd 4 rfl) (hd 14 rfl)) ?_
    refine rt_v (fun vals w hR hd => v_assign (t := .bool _) (hd 15 rfl)) ?_
    refine rt_nil (fun w1 e1 => ?_)
    rintro _ rfl _ rfl _ rfl _ rfl _ rfl _ rfl _ rfl _ rfl _ rfl _ rfl v10 h10 _ rfl _ rfl _ rfl _ rfl _ rfl _ rfl
    have zs_e1 := e1.size
    refine fin_nil ?_
    refine n_then ?_
    refine wp_ret ?_
    refine ret1 rfl (by decide) ?_
    exact ⟨rfl, e1⟩

theorem WireForms_c {w : World} {v : Value} {F : Nat → Prop} {l : List UInt8} (hv : Bv w F v l) : CallsR Try.prog 8 #[v] w (fun r w' => r = .bool true ∧ Ext w w') := by
  obtain ⟨a, c, rfl⟩ := hv.shape
  refine enter 117 Try.func8 rfl rfl (by simp) ?_
  refine c_seq ?_
  refine wp_reg (by decide +kernel) ?_
  refine l_v (v_assign rfl) ?_
  refine l_nil ?_
  refine n_then ?_
  refine c_seq ?_
  refine c_seq ?_
  refine wp_reg (by decide +kernel) ?_
  refine l_v (v_move (t := .slice _ _ _) rfl) ?_
  refine l_v (v_len (et := 5) (by kernel_rfl) rfl) ?_
  refine l_v (v_gtr rfl rfl) ?_
  refine l_nil ?_
  refine n_then ?_
  refine c_cond rfl rfl (fun hc => ?_) (fun hc => ?_)
  · skip
    refine c_seq ?_
    refine wp_reg (by decide +kernel) ?_
    refine l_to (to_f0 (by kernel_rfl) (CallsR.mono (known_c) ?_))
    rintro _ w1 ⟨rfl, e1⟩
    have zs_e1 := e1.size
    refine l_v (v_assign (t := .bool _) rfl) ?_
    refine l_nil ?_
    refine n_then ?_
    refine wp_ret ?_
    refine r_then ?_
    refine ret1 rfl (by decide) ?_
    exact ⟨rfl, e1⟩
  · skip
    have hl : l.length ≤ 3000 := by have := dfalse hc; omega
    refine wp_skip ?_
    refine n_then ?_
    refine c_seq ?_
    refine wp_reg (by decide +kernel) ?_
    refine l_v (v_move (t := .slice _ _ _) rfl) ?_
    refine l_to (to_f1 (by kernel_rfl) (show _ = (Value.slice _ _ _) from rfl) (CallsR.mono (Open_c hv (by omega)) ?_))
    rintro _ w1 ⟨b1, rfl, r1, hb1, e1, z1⟩
    have zs_e1 := e1.size
    refine l_v (v_move (t := .slice _ _ _) rfl) ?_
    refine l_to (to_f1 (by kernel_rfl) (show _ = (Value.slice _ _ _) from rfl) (CallsR.mono (Open_c (hv.ext e1) (by omega)) ?_))
    rintro _ w2 ⟨b2, rfl, r2, hb2, e2, z2⟩
    have zs_e2 := e2.size
    have e02 := e1.trans e2
    refine l_v (v_move (t := .slice _ _ _) rfl) ?_
    refine l_to (to_f1 (by kernel_rfl) (show _ = (Value.slice _ _ _) from rfl) (CallsR.mono (Open_c (hv.ext e02) (by omega)) ?_))
    rintro _ w3 ⟨b3, rfl, r3, hb3, e3, z3⟩
    have zs_e3 := e3.size
    have e03 := e02.trans e3
    refine l_v (v_move (t := .slice _ _ _) rfl) ?_
    refine l_to (to_f1 (by kernel_rfl) (show _ = (Value.slice _ _ _) from rfl) (CallsR.mono (Open_c (hv.ext e03) (by omega)) ?_))
    rintro _ w4 ⟨b4, rfl, r4, hb4, e4, z4⟩
    have zs_e4 := e4.size
    have e04 := e03.trans e4
    refine l_v (v_assign (t := .pointer _) rfl) ?_
    refine l_v (v_assign (t := .pointer _) rfl) ?_
    refine l_v (v_assign (t := .pointer _) rfl) ?_
    refine l_v (v_assign (t := .pointer _) rfl) ?_
    refine l_nil ?_
    refine n_then ?_
    refine c_seq ?_
    refine c_seq ?_
    refine wp_reg (by decide +kernel) ?_
    refine l_v (v_move (t := .pointer _) rfl) ?_
    refine l_v (OpVat.as (b := false) (v_peql (et := 71) (by kernel_rfl) rfl rfl) (by first | rfl | (simp; done) | (simp; omega))) ?_
    refine l_v (v_move (t := .bool _) rfl) ?_
    refine l_gt rfl rfl (OpTo.of_v (v_move (t := .pointer _) rfl) ?_)
    refine l_gt rfl rfl (OpTo.of_v (OpVat.as (b := false) (v_peql (et := 71) (by kernel_rfl) rfl rfl) (by first | rfl | (simp; done) | (simp; omega))) ?_)
    refine l_v (v_orT rfl rfl) ?_
    refine l_v (v_move (t := .bool _) rfl) ?_
    refine l_gt rfl rfl (OpTo.of_v (v_move (t := .pointer _) rfl) ?_)
    refine l_gt rfl rfl (OpTo.of_v (OpVat.as (b := false) (v_peql (et := 71) (by kernel_rfl) rfl rfl) (by first | rfl | (simp; done) | (simp; omega))) ?_)
    refine l_v (v_orT rfl rfl) ?_
    refine l_v (v_move (t := .bool _) rfl) ?_
    refine l_gt rfl rfl (OpTo.of_v (v_move (t := .pointer _) rfl) ?_)
    refine l_gt rfl rfl (OpTo.of_v (OpVat.as (b := false) (v_peql (et := 71) (by kernel_rfl) rfl rfl) (by first | rfl | (simp; done) | (simp; omega))) ?_)
    refine l_v (v_orT rfl rfl) ?_
    refine l_nil ?_
    refine n_then ?_
    refine c_cond rfl rfl (fun hc2 => ?_) (fun hc2 => ?_)
    · skip
      cases hc2
    · skip
      have r1 := ((r1.ext e2).ext e3).ext e4
      have r2 := (r2.ext e3).ext e4
      have r3 := r3.ext e4
      refine wp_skip ?_
      refine n_then ?_
      refine c_seq ?_
      refine wp_reg (by decide +kernel) ?_
      refine l_v (v_move (t := .pointer _) rfl) ?_
      refine l_to (to_f1 (by kernel_rfl) (show _ = (Value.pointer _) from rfl) (CallsR.mono (rNumber_c r1 (by omega)) ?_))
      rintro r w5 ⟨hr5, s1, k5⟩
      have zs_k5 := k5.size
      obtain ⟨n, ne, hn, hnl, hnx⟩ := numV_any l
      rw [hn] at hr5
      subst hr5
      have e05 : Ext w w5 := e04.step k5 fun i hi h => by omega
      have r2 := r2.keep k5 (by omega) (fun i hi h => by omega)
      have r3 := r3.keep k5 (by omega) (fun i hi h => by omega)
      have r4 := r4.keep k5 (by omega) (fun i hi h => by omega)
      refine l_v (v_move (t := .tuple _) rfl) ?_
      refine l_v (v_extract (t := .int _ _) rfl rfl) ?_
      refine l_v (v_extract (t := .int _ _) rfl rfl) ?_
      refine l_v (v_assign (t := .int _ _) rfl) ?_
      refine l_v (v_assign (t := .int _ _) rfl) ?_
      refine l_nil ?_
      refine n_then ?_
      refine c_seq ?_
      refine wp_reg (by decide +kernel) ?_
      refine l_v (v_move (t := .pointer _) rfl) ?_
      refine l_to (to_f1 (by kernel_rfl) (show _ = (Value.pointer _) from rfl) (CallsR.mono (rSigned_c r2 (by omega)) ?_))
      rintro r w6 ⟨hr6, s2, k6⟩
      have zs_k6 := k6.size
      obtain ⟨m, me, hm, hml, hmx⟩ := sgnV_any l
      rw [hm] at hr6
      subst hr6
      have e06 : Ext w w6 := e05.step k6 fun i hi h => by omega
      have s1 := s1.keep k6 (by omega) (fun i hi h => by omega)
      have r3 := r3.keep k6 (by omega) (fun i hi h => by omega)
      have r4 := r4.keep k6 (by omega) (fun i hi h => by omega)
      refine l_v (v_move (t := .tuple _) rfl) ?_
      refine l_v (v_extract (t := .int _ _) rfl rfl) ?_
      refine l_v (v_extract (t := .int _ _) rfl rfl) ?_
      refine l_v (v_assign (t := .int _ _) rfl) ?_
      refine l_v (v_assign (t := .int _ _) rfl) ?_
      refine l_nil ?_
      refine n_then ?_
      refine c_seq ?_
      refine wp_reg (by decide +kernel) ?_
      refine l_v (v_move (t := .pointer _) rfl) ?_
      refine l_v (v_move (t := .slice _ _ _) rfl) ?_
      refine l_v (v_len (et := 5) (by kernel_rfl) rfl) ?_
      refine l_to (to_f2 (by kernel_rfl) (show _ = (Value.pointer _) from rfl) (show _ = (Value.int _ _) from rfl) (CallsR.mono (Bytes2_c r3 (fun k hk => hk.2) (by omega) (by omega) (by omega)) ?_))
      rintro r w7 ⟨hr7, k7⟩
      have zs_k7 := k7.size
      obtain ⟨a7, c7, xe, x, l7, rfl, o7, s3, hx⟩ := TryV_any hr7
      have e07 : Ext w w7 := e06.step k7 fun i hi h => by omega
      have s1 := s1.keep k7 (by omega) (fun i hi h => by omega)
      have s2 := s2.keep k7 (by omega) (fun i hi h => by omega)
      have r4 := r4.keep k7 (by omega) (fun i hi h => by omega)
      refine l_v (v_move (t := .tuple _) rfl) ?_
      refine l_v (v_extract (t := .slice _ _ _) rfl rfl) ?_
      refine l_v (v_extract (t := .int _ _) rfl rfl) ?_
      refine l_v (v_assign (t := .slice _ _ _) rfl) ?_
      refine l_v (v_assign (t := .int _ _) rfl) ?_
      refine l_nil ?_
      refine n_then ?_
      refine c_seq ?_
      refine wp_reg (by decide +kernel) ?_
      refine l_v (v_move (t := .pointer _) rfl) ?_
      refine l_v (v_move (t := .slice _ _ _) rfl) ?_
      refine l_v (v_len (et := 5) (by kernel_rfl) rfl) ?_
      refine l_to (to_f3 (by kernel_rfl) (show _ = (Value.pointer _) from rfl) (show _ = (Value.int _ _) from rfl) rfl (CallsR.mono (takeU_c (cap := #[]) r4 (fun k hk => hk.2) (by omega) (by omega) (by omega) (by kernel_rfl) rdU rdU_short (fun w1 c l1 e1 hc hr hl => oneU_c hr (fun h => by omega))) ?_))
      rintro r w8 ⟨hr8, k8⟩
      have zs_k8 := k8.size
      obtain ⟨a8, c8, ye, ys, l8, rfl, o8, s4, hy⟩ := TryV_any hr8
      have e08 : Ext w w8 := e07.step k8 fun i hi h => by omega
      have s1 := s1.keep k8 (by omega) (fun i hi h => by omega)
      have s2 := s2.keep k8 (by omega) (fun i hi h => by omega)
      have s3 := s3.keep k8 (by omega) (fun i hi h => by omega)
      have o7 := o7.keep k8 (fun i hi h => by have := (o7.own_lt hi).1; omega) (fun i _ hi _ h => by omega)
      have hyl : (wList sU ys).length ≤ 3000 ∧ ys.length ≤ 3000 := by
        rcases hy with ⟨_, hq⟩ | ⟨_, rfl, _⟩
        · obtain ⟨h1, h2⟩ := tryList_form rdU_form hq
          have h3 := congrArg List.length h1
          rw [List.length_append] at h3
          omega
        · simp [wList, wNum_lt]
      refine l_v (v_move (t := .tuple _) rfl) ?_
      refine l_v (v_extract (t := .slice _ _ _) rfl rfl) ?_
      refine l_v (v_extract (t := .int _ _) rfl rfl) ?_
      refine l_v (v_assign (t := .slice _ _ _) rfl) ?_
      refine l_v (v_assign (t := .int _ _) rfl) ?_
      refine l_nil ?_
      refine n_then ?_
      refine c_seq ?_
      refine wp_reg (by decide +kernel) ?_
      refine l_v (v_move (t := .slice _ _ _) rfl) ?_
      refine l_to (to_f2 (by kernel_rfl) (show _ = (Value.slice _ _ _) from rfl) rfl (CallsR.mono (putU_c (cap := #[]) o8.view (by kernel_rfl) sU (fun w1 cs x e1 hr hx => formU_c hr) (by omega) (by omega)) ?_))
      rintro _ w9 ⟨q9, c9, rfl, o9, e9⟩
      have zs_e9 := e9.size
      have e09 := e08.trans e9
      refine l_v (v_move (t := .tuple _) rfl) ?_
      refine l_v (v_extract (t := .slice _ _ _) rfl rfl) ?_
      refine l_v (v_extract (t := .int _ _) rfl rfl) ?_
      refine l_v (v_assign (t := .slice _ _ _) rfl) ?_
      refine l_v (v_assign (t := .int _ _) rfl) ?_
      refine l_nil ?_
      refine n_then ?_
      refine c_seq ?_
      refine wp_reg (by decide +kernel) ?_
      refine l_v (v_move (t := .int _ _) rfl) ?_
      refine l_to (to_f1 (by kernel_rfl) (show _ = (Value.int _ _) from rfl) (CallsR.mono (num_c) ?_))
      rintro _ w10 ⟨rfl, e10⟩
      have zs_e10 := e10.size
      refine l_v (OpVat.as (b := true) (v_eql rfl rfl) (by first | rfl | (simp; done) | (simp; omega))) ?_
      refine l_v (v_move (t := .bool _) rfl) ?_
      refine l_gt rfl rfl (OpTo.of_v (v_move (t := .slice _ _ _) rfl) ?_)
      refine l_gt rfl rfl (OpTo.of_v (v_move (t := .pointer _) rfl) ?_)
      refine l_gt rfl rfl (to_f1 (by kernel_rfl) (show _ = (Value.pointer _) from rfl) (CallsR.mono (Left_c ((s1.ext e9).ext e10)) ?_))
      rintro _ w11 ⟨rfl, e11⟩
      have zs_e11 := e11.size
      refine l_gt rfl rfl (OpTo.of_v (v_move (t := .int _ _) rfl) ?_)
      refine l_gt rfl rfl (to_f1 (by kernel_rfl) (show _ = (Value.int _ _) from rfl) (CallsR.mono (num_c) ?_))
      rintro _ w12 ⟨rfl, e12⟩
      have zs_e12 := e12.size
      refine l_gt rfl rfl (OpTo.of_v (v_move (t := .int _ _) rfl) ?_)
      refine l_gt rfl rfl (to_f1 (by kernel_rfl) (show _ = (Value.int _ _) from rfl) (CallsR.mono (Number_c hnl) ?_))
      rintro _ w13 ⟨o13, ⟨q13, c13, rfl⟩, e13⟩
      have zs_e13 := e13.size
      have f13 := (((e9.trans e10).trans e11).trans e12).trans e13
      have e013 := e08.trans f13
      refine l_gt rfl rfl (to_f4 (by kernel_rfl) (show _ = (Value.slice _ _ _) from rfl) (show _ = (Value.int _ _) from rfl) (show _ = (Value.int _ _) from rfl) (show _ = (Value.slice _ _ _) from rfl) (CallsR.mono (as_c (hv.ext e013) o13.view (by rcases hnx with ⟨h1, h2, _⟩ | ⟨h1, _, h2, _⟩; exact .inr ⟨h1, _, h2, rfl⟩; exact .inl ⟨by omega, by rw [h2]⟩) (by omega)) ?_))
      rintro _ w14 ⟨rfl, e14⟩
      have zs_e14 := e14.size
      have f14 := f13.trans e14
      refine l_v (v_andT rfl rfl) ?_
      refine l_v (v_move (t := .bool _) rfl) ?_
      refine l_gt rfl rfl (OpTo.of_v (v_move (t := .slice _ _ _) rfl) ?_)
      refine l_gt rfl rfl (OpTo.of_v (v_move (t := .pointer _) rfl) ?_)
      refine l_gt rfl rfl (to_f1 (by kernel_rfl) (show _ = (Value.pointer _) from rfl) (CallsR.mono (Left_c (s2.ext f14)) ?_))
      rintro _ w15 ⟨rfl, e15⟩
      have zs_e15 := e15.size
      refine l_gt rfl rfl (OpTo.of_v (v_move (t := .int _ _) rfl) ?_)
      refine l_gt rfl rfl (to_f1 (by kernel_rfl) (show _ = (Value.int _ _) from rfl) (CallsR.mono (num_c) ?_))
      rintro _ w16 ⟨rfl, e16⟩
      have zs_e16 := e16.size
      refine l_gt rfl rfl (OpTo.of_v (v_move (t := .int _ _) rfl) ?_)
      refine l_gt rfl rfl (to_f1 (by kernel_rfl) (show _ = (Value.int _ _) from rfl) (CallsR.mono (Signed_c hml.1 hml.2) ?_))
      rintro _ w17 ⟨o17, ⟨q17, c17, rfl⟩, e17⟩
      have zs_e17 := e17.size
      have f17 := ((f14.trans e15).trans e16).trans e17
      refine l_gt rfl rfl (to_f4 (by kernel_rfl) (show _ = (Value.slice _ _ _) from rfl) (show _ = (Value.int _ _) from rfl) (show _ = (Value.int _ _) from rfl) (show _ = (Value.slice _ _ _) from rfl) (CallsR.mono (as_c (hv.ext (e08.trans f17)) o17.view (by rcases hmx with ⟨h1, h2⟩ | ⟨h1, _, h2⟩; exact .inr ⟨h1, _, h2, rfl⟩; exact .inl ⟨by omega, by rw [h2]⟩) (by omega)) ?_))
      rintro _ w18 ⟨rfl, e18⟩
      have zs_e18 := e18.size
      have f18 := f17.trans e18
      refine l_v (v_andT rfl rfl) ?_
      refine l_v (v_move (t := .bool _) rfl) ?_
      refine l_gt rfl rfl (OpTo.of_v (v_move (t := .slice _ _ _) rfl) ?_)
      refine l_gt rfl rfl (OpTo.of_v (v_move (t := .pointer _) rfl) ?_)
      refine l_gt rfl rfl (to_f1 (by kernel_rfl) (show _ = (Value.pointer _) from rfl) (CallsR.mono (Left_c (s3.ext f18)) ?_))
      rintro _ w19 ⟨rfl, e19⟩
      have zs_e19 := e19.size
      refine l_gt rfl rfl (OpTo.of_v (v_move (t := .int _ _) rfl) ?_)
      refine l_gt rfl rfl (to_f1 (by kernel_rfl) (show _ = (Value.int _ _) from rfl) (CallsR.mono (num_c) ?_))
      rintro _ w20 ⟨rfl, e20⟩
      have zs_e20 := e20.size
      have f20 := (f18.trans e19).trans e20
      refine l_gt rfl rfl (OpTo.of_v (v_move (t := .slice _ _ _) rfl) ?_)
      refine l_gt rfl rfl (to_f1 (by kernel_rfl) (show _ = (Value.slice _ _ _) from rfl) (CallsR.mono (Bytes_c ((o7.ext f20).view) (by rcases hx with ⟨_, hq⟩ | ⟨_, rfl, _⟩; have := rdBytes_len hq; omega; simp)) ?_))
      rintro _ w21 ⟨o21, ⟨q21, c21, rfl⟩, e21⟩
      have zs_e21 := e21.size
      have f21 := f20.trans e21
      refine l_gt rfl rfl (to_f4 (by kernel_rfl) (show _ = (Value.slice _ _ _) from rfl) (show _ = (Value.int _ _) from rfl) (show _ = (Value.int _ _) from rfl) (show _ = (Value.slice _ _ _) from rfl) (CallsR.mono (as_c (hv.ext (e08.trans f21)) o21.view (by rcases hx with ⟨h1, hq⟩ | ⟨h1, _, h2, _⟩; exact .inr ⟨h1, _, rdBytes_form hq, rfl⟩; exact .inl ⟨h1, by rw [h2]⟩) (by omega)) ?_))
      rintro _ w22 ⟨rfl, e22⟩
      have zs_e22 := e22.size
      have f22 := f21.trans e22
      refine l_v (v_andT rfl rfl) ?_
      refine l_v (v_move (t := .bool _) rfl) ?_
      refine l_gt rfl rfl (OpTo.of_v (v_move (t := .slice _ _ _) rfl) ?_)
      refine l_gt rfl rfl (OpTo.of_v (v_move (t := .pointer _) rfl) ?_)
      refine l_gt rfl rfl (to_f1 (by kernel_rfl) (show _ = (Value.pointer _) from rfl) (CallsR.mono (Left_c (s4.ext f22)) ?_))
      rintro _ w23 ⟨rfl, e23⟩
      have zs_e23 := e23.size
      refine l_gt rfl rfl (OpTo.of_v (v_move (t := .int _ _) rfl) ?_)
      refine l_gt rfl rfl (to_f1 (by kernel_rfl) (show _ = (Value.int _ _) from rfl) (CallsR.mono (num_c) ?_))
      rintro _ w24 ⟨rfl, e24⟩
      have zs_e24 := e24.size
      have f24 := (f22.trans e23).trans e24
      have g24 := e10.trans (e11.trans (e12.trans (e13.trans (e14.trans (e15.trans (e16.trans (e17.trans (e18.trans (e19.trans (e20.trans (e21.trans (e22.trans (e23.trans e24)))))))))))))
      refine l_gt rfl rfl (OpTo.of_v (v_move (t := .slice _ _ _) rfl) ?_)
      refine l_gt rfl rfl (to_f4 (by kernel_rfl) (show _ = (Value.slice _ _ _) from rfl) (show _ = (Value.int _ _) from rfl) (show _ = (Value.int _ _) from rfl) (show _ = (Value.slice _ _ _) from rfl) (CallsR.mono (as_c (hv.ext (e08.trans f24)) (o9.ext g24).view (by rcases hy with ⟨h1, hq⟩ | ⟨h1, _, h2, _⟩; exact .inr ⟨h1, _, (tryList_form rdU_form hq).1, rfl⟩; exact .inl ⟨h1, by rw [h2]⟩) (by omega)) ?_))
      rintro _ w25 ⟨rfl, e25⟩
      have zs_e25 := e25.size
      refine l_v (v_andT rfl rfl) ?_
      refine l_v (v_move (t := .bool _) rfl) ?_
      refine l_gt rfl rfl (to_f0 (by kernel_rfl) (CallsR.mono (known_c) ?_))
      rintro _ w26 ⟨rfl, e26⟩
      have zs_e26 := e26.size
      refine l_v (v_andT rfl rfl) ?_
      refine l_v (v_assign (t := .bool _) rfl) ?_
      refine l_nil ?_
      refine n_then ?_
      refine wp_ret ?_
      refine ret1 rfl (by decide) ?_
      exact ⟨rfl, e08.trans ((f24.trans e25).trans e26)⟩
end Go.Proofs.Ythnpnniiejcnbaa
