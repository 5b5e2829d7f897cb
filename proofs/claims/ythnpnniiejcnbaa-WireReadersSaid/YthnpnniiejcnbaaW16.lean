/- A part of the proof: steps and lemmas for the walks through the given program. -/
import Derived.Test.YthnpnniiejcnbaaW15
namespace Go.Proofs.Ythnpnniiejcnbaa
open Go.Vc
set_option linter.unusedVariables false
set_option linter.unusedSimpArgs false
set_option maxRecDepth 100000

theorem numbers_c {w : World} {va vb : Value} {F F' : Nat → Prop} {a b : List Int} (ha : SlV (tInt .u64) w F va a) (hb : SlV (tInt .u64) w F' vb b) : CallsR Try.prog 52 #[va, vb] w (fun r w' => r = .bool (decide (a = b)) ∧ Ext w w') := by
  obtain ⟨q1, c1, rfl⟩ := ha.shape
  obtain ⟨q2, c2, rfl⟩ := hb.shape
  have hma := ha.max
  simp only [maxLen] at hma
  obtain ⟨w0, rfl⟩ : ∃ x, x = w := ⟨w, rfl⟩
  refine enter 26 Try.func52 rfl rfl (by simp) ?_
  refine c_seq ?_
  refine wp_reg (by decide +kernel) ?_
  refine l_v (v_assign rfl) ?_
  refine l_nil ?_
  refine n_then ?_
  refine c_seq ?_
  refine c_seq ?_
  refine wp_reg (by decide +kernel) ?_
  refine l_v (v_move (t := .slice _ _ _) rfl) ?_
  refine l_v (v_len (et := 29) (by kernel_rfl) rfl) ?_
  refine l_v (v_move (t := .slice _ _ _) rfl) ?_
  refine l_v (v_len (et := 29) (by kernel_rfl) rfl) ?_
  refine l_v (v_neq rfl rfl) ?_
  refine l_nil ?_
  refine n_then ?_
  refine c_cond rfl rfl (fun hc => ?_) (fun hc => ?_)
  · skip
    refine c_seq ?_
    refine wp_reg (by decide +kernel) ?_
    refine l_v (v_assign rfl) ?_
    refine l_nil ?_
    refine n_then ?_
    refine wp_ret ?_
    refine r_then ?_
    refine ret1 rfl (by decide) ?_
    have : ¬ a = b := fun h => by subst h; simp at hc
    exact ⟨by rw [decide_eq_false this]; rfl, Keep.refl _⟩
  · skip
    have hlen : a.length = b.length := by simp at hc; omega
    refine wp_skip ?_
    refine n_then ?_
    refine c_seq ?_
    refine c_seq ?_
    refine wp_reg (by decide +kernel) ?_
    refine l_v (v_assign rfl) ?_
    refine l_nil ?_
    refine n_then ?_
    refine wp_block ?_
    refine c_loop (τ := Nat) [4, 5, 11, 12, 13, 14, 15, 16, 17, 18, 19, 20, 21, 22, 23, 24, 25] (fun k => [(5, .int .i64 k)]) (fun k w => Ext w0 w ∧ k ≤ a.length ∧ a.take k = b.take k) (fun k => a.length - k) 0 (by exact ⟨rfl, trivial⟩) (by exact ⟨Keep.refl _, Nat.zero_le _, by simp⟩) ?_
    rintro k w1 j ⟨e1, h1, h2⟩
    refine c_seq ?_
    refine c_seq ?_
    refine wp_reg (by decide +kernel) ?_
    refine l_v (v_move (t := .int _ _) rfl) ?_
    refine l_v (v_move (t := .slice _ _ _) rfl) ?_
    refine l_v (v_len (et := 29) (by kernel_rfl) rfl) ?_
    refine l_v (v_lss rfl rfl) ?_
    refine l_nil ?_
    refine n_then ?_
    refine c_cond rfl rfl (fun hd => ?_) (fun hd => ?_)
    · skip
      have hd := dtrue hd
      obtain ⟨x, hx⟩ : ∃ x, a[k]? = some x := ⟨a[k]'(by omega), by simp [show k < a.length by omega]⟩
      obtain ⟨y, hy⟩ : ∃ y, b[k]? = some y := ⟨b[k]'(by omega), by simp [show k < b.length by omega]⟩
      obtain ⟨p1, cs1, rfl, _, hp1, ⟨rfl, _⟩⟩ := SlV_at (ha.ext e1) hx
      obtain ⟨p2, cs2, rfl, _, hp2, ⟨rfl, _⟩⟩ := SlV_at (hb.ext e1) hy
      refine wp_skip ?_
      refine n_then ?_
      refine c_seq ?_
      refine wp_block ?_
      refine c_seq ?_
      refine wp_regd (NoK) (by kernel_rfl) (by decide +kernel) (by decide +kernel) ?_
      refine rt_v (fun vals w hR hd => v_move (t := .slice _ _ _) rfl) ?_
      refine rt_v (fun vals w hR hd => v_move (t := .int _ _) rfl) ?_
      refine rt_v (fun vals w hR hd => v_indexAddr (et := 29) (sz := 1) (k := k) (by kernel_rfl) (by kernel_rfl) (hd 0 rfl) (hd 1 rfl) rfl (by omega)) ?_
      refine rt_v (fun vals w hR hd => v_load (by kernel_rfl) (hd 2 rfl) (pv_1 (hp1.ext hR))) ?_
      refine rt_v (fun vals w hR hd => v_move (t := .slice _ _ _) rfl) ?_
      refine rt_v (fun vals w hR hd => v_move (t := .int _ _) rfl) ?_
      refine rt_v (fun vals w hR hd => v_indexAddr (et := 29) (sz := 1) (k := k) (by kernel_rfl) (by kernel_rfl) (hd 4 rfl) (hd 5 rfl) rfl (by omega)) ?_
      refine rt_v (fun vals w hR hd => v_load (by kernel_rfl) (hd 6 rfl) (pv_1 (hp2.ext hR))) ?_
      refine rt_v (fun vals w hR hd => v_neq (hd 3 rfl) (hd 7 rfl)) ?_
      refine rt_nil (fun w2 e2 => ?_)
      rintro _ rfl _ rfl _ rfl _ rfl _ rfl _ rfl _ rfl _ rfl _ rfl
      have zs_e2 := e2.size
      refine fin_nil ?_
      refine n_then ?_
      refine c_cond rfl rfl (fun he => ?_) (fun he => ?_)
      · skip
        refine c_seq ?_
        refine wp_reg (by decide +kernel) ?_
        refine l_v (v_assign rfl) ?_
        refine l_nil ?_
        refine n_then ?_
        refine wp_ret ?_
        refine r_blk ?_
        refine r_then ?_
        refine r_then ?_
        refine r_blk ?_
        refine r_then ?_
        refine ret1 rfl (by decide) ?_
        have hxy : ¬ x = y := by simpa using he
        have : ¬ a = b := fun h => by subst h; rw [hx] at hy; exact hxy (Option.some.inj hy)
        exact ⟨by rw [decide_eq_false this]; rfl, e1.trans e2⟩
      · skip
        refine wp_skip ?_
        refine n_blk ?_
        refine n_then ?_
        refine wp_reg (by decide +kernel) ?_
        refine l_v (v_move (t := .int _ _) rfl) ?_
        refine l_v (v_add rfl rfl (by first | exact wr_i64 (by omega) (by omega) | rfl)) ?_
        refine l_v (v_assign (t := .int _ _) rfl) ?_
        refine l_nil ?_
        refine n_then ?_
        refine ⟨k + 1, _, rfl, by (repeat (first | exact Off.of_over _ _ _ | refine Off.upd ?_ (by decide) _)), ⟨by first | rfl | exact congrArg (Value.int _) (by omega) | (simp; done), trivial⟩, ?_, ?_⟩
        · have hxy : x = y := by simpa using he
          exact ⟨e1.trans e2, by omega, by rw [List.take_add_one, List.take_add_one, h2, hx, hy, hxy]⟩
        · dsimp only; omega
    · skip
      refine wp_exit ?_
      refine x_then ?_
      refine x_then ?_
      refine x_hit ?_
      refine n_then ?_
      refine c_seq ?_
      refine wp_reg (by decide +kernel) ?_
      refine l_v (v_assign rfl) ?_
      refine l_nil ?_
      refine n_then ?_
      refine wp_ret ?_
      refine ret1 rfl (by decide) ?_
      have hd := dfalse hd
      have hk : k = a.length := by omega
      subst hk
      have hab : a = b := by rw [List.take_length] at h2; rw [h2, hlen, List.take_length]
      exact ⟨by rw [decide_eq_true hab]; rfl, e1⟩

/-- a thing: kind, number, signed number, flag, bytes, list -/
abbrev Th : Type := Int × Int × Int × Bool × List UInt8 × List Int
abbrev tTh : Ty Th := tPair (tInt .i64) (tPair (tInt .u64) (tPair (tInt .i64) (tPair tBool (tPair (tSl tU8) (tSl (tInt .u64))))))
def wTh (t : Th) : List UInt8 := if t.1 = 1 then wNum t.2.1.toNat else if t.1 = 2 then wNum (zig t.2.2.1) else if t.1 = 3 then wFlag t.2.2.2.1 else if t.1 = 4 then wBytes t.2.2.2.2.1 else if t.1 = 5 then wList sU t.2.2.2.2.2 else []
/-- is a thing read as it was; what is left -/
def bkTh (t : Th) (l : List UInt8) : Bool × List UInt8 :=
  if t.1 = 1 then (decide (rdNum l = some (t.2.1.toNat, rest l)), rest l)
  else if t.1 = 2 then (decide (rdNum l = some (zig t.2.2.1, rest l)), rest l)
  else if t.1 = 3 then (decide (rdFlag l = some (t.2.2.2.1, restF l)), restF l)
  else if t.1 = 4 then (match rdBytes t.2.2.2.2.1.length l with | .ok (x, r) => (decide (x = t.2.2.2.2.1), r) | .error _ => (false, l))
  else if t.1 = 5 then (match tryRd (rdList rdU) t.2.2.2.2.2.length l with | .ok (x, r) => (decide (x = t.2.2.2.2.2), r) | .error _ => (false, l))
  else (true, l)
structure ThOk (t : Th) : Prop where
  n : InU t.2.1
  s : -9223372036854775808 ≤ t.2.2.1 ∧ t.2.2.1 ≤ 9223372036854775807
  b : t.2.2.2.2.1.length ≤ 3000
  l : t.2.2.2.2.2.length ≤ 3000
  u : ∀ x ∈ t.2.2.2.2.2, InU x
theorem th_cells {w : World} {F : Nat → Prop} {cs : List Value} {t : Th} (h : tTh.rep w F cs t) : ∃ v4 v5, cs = [.int .i64 t.1, .int .u64 t.2.1, .int .i64 t.2.2.1, .bool t.2.2.2.1, v4, v5] ∧ Bv w F v4 t.2.2.2.2.1 ∧ SlV (tInt .u64) w F v5 t.2.2.2.2.2 ∧ InU t.2.1 ∧ (-9223372036854775808 ≤ t.2.2.1 ∧ t.2.2.1 ≤ 9223372036854775807) := by
  obtain ⟨_, _, rfl, ⟨rfl, _⟩, _, _, rfl, ⟨rfl, hn⟩, _, _, rfl, ⟨rfl, hs⟩, _, _, rfl, rfl, _, _, rfl, ⟨v4, rfl, h4⟩, ⟨v5, rfl, h5⟩⟩ := h
  exact ⟨v4, v5, rfl, h4, h5, wf_u64 hn, wf_i64 hs⟩
theorem u_in {w : World} {F : Nat → Prop} {v : Value} {l : List Int} (h : SlV (tInt .u64) w F v l) : ∀ x ∈ l, InU x := by
  intro x hx
  obtain ⟨a, c, rfl⟩ := h.shape
  obtain ⟨k, hk⟩ := List.mem_iff_getElem?.1 hx
  obtain ⟨_, _, _, _, _, ⟨_, hw⟩⟩ := SlV_at h hk
  exact wf_u64 hw
theorem sU_len {x : Int} (h : InU x) : (sU x).length ≤ 10 := wNum_len10 (n := x.toNat) (by have := h.1; have := h.2; omega)

theorem written_c {w : World} {F : Nat → Prop} {cs : List Value} {t : Th} (hr : tTh.rep w F cs t) (hb : t.2.2.2.2.1.length ≤ 3000) (hl : t.2.2.2.2.2.length ≤ 3000) : CallsR Try.prog 41 #[.agg cs.toArray] w (fun r w' => (∃ B, w.heap.size ≤ B ∧ OwV tU8 nU8 w' B NoK r (wTh t)) ∧ Ext w w') := by
  obtain ⟨v4, v5, rfl, h4, h5, hn, hs⟩ := th_cells hr
  obtain ⟨k, n, s, f, bs, l⟩ := t
  simp only [] at *
  obtain ⟨n, rfl⟩ := Int.eq_ofNat_of_zero_le hn.1
  have hlu := u_in h5
  refine enter 36 Try.func41 rfl rfl (by simp) ?_
  refine c_seq ?_
  refine wp_reg (by decide +kernel) ?_
  refine l_to (to_box (show _ = (Value.agg _) from rfl) ?_)
  rintro b1 w1 rfl hb1 e1 z1
  have zs_e1 := e1.size
  refine l_v (v_assign rfl) ?_
  refine l_nil ?_
  refine n_then ?_
  refine c_seq ?_
  refine c_seq ?_
  refine wp_reg (by decide +kernel) ?_
  refine l_v (v_fieldAddr (off := 0) (ft := 3) (by kernel_rfl) rfl) ?_
  refine l_v (v_load (by kernel_rfl) rfl (hb1.cell rfl)) ?_
  refine l_nil ?_
  refine n_then ?_
  refine wp_block ?_
  refine c_seq ?_
  refine wp_reg (by decide +kernel) ?_
  refine l_v (v_eql rfl rfl) ?_
  refine l_v (v_assign (t := .bool _) rfl) ?_
  refine l_nil ?_
  refine n_then ?_
  refine c_cond rfl rfl (fun hc => ?_) (fun hc => ?_)
  · skip
    have hk : k = 1 := by simpa using hc
    refine c_seq ?_
    refine wp_reg (by decide +kernel) ?_
    refine l_v (v_fieldAddr (off := 1) (ft := 29) (by kernel_rfl) rfl) ?_
    refine l_v (v_load (by kernel_rfl) rfl (hb1.cell rfl)) ?_
    refine l_to (to_f1 (by kernel_rfl) (show _ = (Value.int _ _) from rfl) (CallsR.mono (Number_c (n := n) (by have := hn.2; omega)) ?_))
    rintro _ w2 ⟨o2, ⟨q2, c2, rfl⟩, e2⟩
    have zs_e2 := e2.size
    refine l_v (v_assign (t := .slice _ _ _) rfl) ?_
    refine l_nil ?_
    refine n_then ?_
    refine wp_ret ?_
    refine r_blk ?_
    refine r_then ?_
    refine ret1 rfl (by decide) ?_
    refine ⟨⟨w1.heap.size, by omega, ?_⟩, e1.trans e2⟩
    rw [wTh, if_pos hk]; exact o2
  · skip
    have hk1 : ¬ k = 1 := by simpa using hc
    refine c_seq ?_
    refine wp_reg (by decide +kernel) ?_
    refine l_v (v_eql rfl rfl) ?_
    refine l_v (v_assign (t := .bool _) rfl) ?_
    refine l_nil ?_
    refine n_then ?_
    refine c_cond rfl rfl (fun hc2 => ?_) (fun hc2 => ?_)
    · skip
      have hk : k = 2 := by simpa using hc2
      refine c_seq ?_
      refine wp_reg (by decide +kernel) ?_
      refine l_v (v_fieldAddr (off := 2) (ft := 2) (by kernel_rfl) rfl) ?_
      refine l_v (v_load (by kernel_rfl) rfl (hb1.cell rfl)) ?_
      refine l_to (to_f1 (by kernel_rfl) (show _ = (Value.int _ _) from rfl) (CallsR.mono (Signed_c hs.1 hs.2) ?_))
      rintro _ w2 ⟨o2, ⟨q2, c2, rfl⟩, e2⟩
      have zs_e2 := e2.size
      refine l_v (v_assign (t := .slice _ _ _) rfl) ?_
      refine l_nil ?_
      refine n_then ?_
      refine wp_ret ?_
      refine r_blk ?_
      refine r_then ?_
      refine ret1 rfl (by decide) ?_
      refine ⟨⟨w1.heap.size, by omega, ?_⟩, e1.trans e2⟩
      rw [wTh, if_neg hk1, if_pos hk]; exact o2
    · skip
      have hk2 : ¬ k = 2 := by simpa using hc2
      refine c_seq ?_
      refine wp_reg (by decide +kernel) ?_
      refine l_v (v_eql rfl rfl) ?_
      refine l_v (v_assign (t := .bool _) rfl) ?_
      refine l_nil ?_
      refine n_then ?_
      refine c_cond rfl rfl (fun hc3 => ?_) (fun hc3 => ?_)
      · skip
        have hk : k = 3 := by simpa using hc3
        refine c_seq ?_
        refine wp_reg (by decide +kernel) ?_
        refine l_v (v_fieldAddr (off := 3) (ft := 4) (by kernel_rfl) rfl) ?_
        refine l_v (v_load (by kernel_rfl) rfl (hb1.cell rfl)) ?_
        refine l_to (to_f1 (by kernel_rfl) (show _ = (Value.bool _) from rfl) (CallsR.mono (Flag_c) ?_))
        rintro _ w2 ⟨o2, ⟨q2, c2, rfl⟩, e2⟩
        have zs_e2 := e2.size
        refine l_v (v_assign (t := .slice _ _ _) rfl) ?_
        refine l_nil ?_
        refine n_then ?_
        refine wp_ret ?_
        refine r_blk ?_
        refine r_then ?_
        refine ret1 rfl (by decide) ?_
        refine ⟨⟨w1.heap.size, by omega, ?_⟩, e1.trans e2⟩
        rw [wTh, if_neg hk1, if_neg hk2, if_pos hk]; exact o2
      · skip
        have hk3 : ¬ k = 3 := by simpa using hc3
        refine c_seq ?_
        refine wp_reg (by decide +kernel) ?_
        refine l_v (v_eql rfl rfl) ?_
        refine l_v (v_assign (t := .bool _) rfl) ?_
        refine l_nil ?_
        refine n_then ?_
        refine c_cond rfl rfl (fun hc4 => ?_) (fun hc4 => ?_)
        · skip
          have hk : k = 4 := by simpa using hc4
          obtain ⟨a4, c4, rfl⟩ := h4.shape
          refine c_seq ?_
          refine wp_reg (by decide +kernel) ?_
          refine l_v (v_fieldAddr (off := 4) (ft := 22) (by kernel_rfl) rfl) ?_
          refine l_v (v_load (by kernel_rfl) rfl (hb1.cell rfl)) ?_
          refine l_to (to_f1 (by kernel_rfl) (show _ = (Value.slice _ _ _) from rfl) (CallsR.mono (Bytes_c (h4.ext e1) (by omega)) ?_))
          rintro _ w2 ⟨o2, ⟨q2, c2, rfl⟩, e2⟩
          have zs_e2 := e2.size
          refine l_v (v_assign (t := .slice _ _ _) rfl) ?_
          refine l_nil ?_
          refine n_then ?_
          refine wp_ret ?_
          refine r_blk ?_
          refine r_then ?_
          refine ret1 rfl (by decide) ?_
          refine ⟨⟨w1.heap.size, by omega, ?_⟩, e1.trans e2⟩
          rw [wTh, if_neg hk1, if_neg hk2, if_neg hk3, if_pos hk]; exact o2
        · skip
          have hk4 : ¬ k = 4 := by simpa using hc4
          refine c_seq ?_
          refine wp_reg (by decide +kernel) ?_
          refine l_v (v_eql rfl rfl) ?_
          refine l_v (v_assign (t := .bool _) rfl) ?_
          refine l_nil ?_
          refine n_then ?_
          refine c_cond rfl rfl (fun hc5 => ?_) (fun hc5 => ?_)
          · skip
            have hk : k = 5 := by simpa using hc5
            obtain ⟨a5, c5, rfl⟩ := h5.shape
            have hfl := flat_le (k := 10) (sp := sU) l (fun x hx => sU_len (hlu x hx))
            have hln := wNum_len10 (n := l.length) (by omega)
            have hwl : (wList sU l).length ≤ 60010 := by rw [wList, List.length_append]; omega
            refine c_seq ?_
            refine wp_reg (by decide +kernel) ?_
            refine l_v (v_fieldAddr (off := 5) (ft := 63) (by kernel_rfl) rfl) ?_
            refine l_v (v_load (by kernel_rfl) rfl (hb1.cell rfl)) ?_
            refine l_to (to_f2 (by kernel_rfl) (show _ = (Value.slice _ _ _) from rfl) rfl (CallsR.mono (putU_c (cap := #[]) (h5.ext e1) (by kernel_rfl) sU (fun w1 cs x e1 hr hx => formU_c hr) (by omega) (by omega)) ?_))
            rintro _ w2 ⟨q2, c2, rfl, o2, e2⟩
            have zs_e2 := e2.size
            refine l_v (v_move (t := .tuple _) rfl) ?_
            refine l_v (v_extract (t := .slice _ _ _) rfl rfl) ?_
            refine l_v (v_extract (t := .int _ _) rfl rfl) ?_
            refine l_v (v_assign (t := .slice _ _ _) rfl) ?_
            refine l_v (v_assign (t := .int _ _) rfl) ?_
            refine l_nil ?_
            refine n_then ?_
            refine c_seq ?_
            refine wp_reg (by decide +kernel) ?_
            refine l_v (v_move (t := .slice _ _ _) rfl) ?_
            refine l_v (v_assign (t := .slice _ _ _) rfl) ?_
            refine l_nil ?_
            refine n_then ?_
            refine wp_ret ?_
            refine r_blk ?_
            refine r_then ?_
            refine ret1 rfl (by decide) ?_
            refine ⟨⟨w1.heap.size, by omega, ?_⟩, e1.trans e2⟩
            rw [wTh, if_neg hk1, if_neg hk2, if_neg hk3, if_neg hk4, if_pos hk]; exact o2
          · skip
            have hk5 : ¬ k = 5 := by simpa using hc5
            refine wp_skip ?_
            refine n_blk ?_
            refine n_then ?_
            refine c_seq ?_
            refine wp_reg (by decide +kernel) ?_
            refine l_v (v_assign rfl) ?_
            refine l_nil ?_
            refine n_then ?_
            refine wp_ret ?_
            refine ret1 rfl (by decide) ?_
            refine ⟨⟨w1.heap.size, by omega, ?_⟩, e1⟩
            rw [wTh, if_neg hk1, if_neg hk2, if_neg hk3, if_neg hk4, if_neg hk5]; exact OwV.nil _ _ _ _ _
end Go.Proofs.Ythnpnniiejcnbaa
