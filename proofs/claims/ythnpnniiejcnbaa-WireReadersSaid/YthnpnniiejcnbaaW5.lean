/- A part of the proof: steps and lemmas for the walks through the given program. -/
import Derived.Test.YthnpnniiejcnbaaW4
namespace Go.Proofs.Ythnpnniiejcnbaa
open Go.Vc
set_option linter.unusedVariables false
set_option maxRecDepth 100000

/-- a reading's answer: the value and what is left, or an error -/
def numV (l : List UInt8) : Value := match rdNum l with
  | some (n, _) => .tuple #[.int .u64 n, .int .i64 0]
  | none => .tuple #[.int .u64 0, .int .i64 4]
def rest (l : List UInt8) : List UInt8 := match rdNum l with
  | some (_, r) => r
  | none => l

theorem rNumber_c {w : World} {b : Nat} {F : Nat → Prop} {l : List UInt8} (hr : Rd nRd w b F l) (hF : ¬ F b) : CallsR Try.prog 15 #[.pointer (some ⟨b, 0, none⟩)] w (fun r w' => r = numV l ∧ Rd nRd w' b F (rest l) ∧ Keep (fun k => k = b) w w') := by
  obtain ⟨a, c, hb, hv⟩ := hr
  rcases hd : rdNum l with _ | ⟨n, r'⟩
  · skip
    refine enter 28 Try.func15 rfl rfl (by simp) ?_
    refine c_seq ?_
    refine wp_reg (by decide +kernel) ?_
    refine l_v (v_assign rfl) ?_
    refine l_v (v_assign rfl) ?_
    refine l_nil ?_
    refine n_then ?_
    refine c_seq ?_
    refine c_seq ?_
    refine wp_reg (by decide +kernel) ?_
    refine l_v (v_move (t := .pointer _) rfl) ?_
    refine l_to (to_f1 (by kernel_rfl) (show _ = (Value.pointer _) from rfl) (CallsR.mono (closed_c hb) ?_))
    rintro _ w1 ⟨rfl, e1⟩
    have zs_e1 := e1.size
    refine l_nil ?_
    refine n_then ?_
    refine c_cond rfl rfl (fun hc => ?_) (fun hc => ?_)
    · skip
      cases hc
    · skip
      refine wp_skip ?_
      refine n_then ?_
      refine c_seq ?_
      refine wp_reg (by decide +kernel) ?_
      refine l_v (v_move (t := .pointer _) rfl) ?_
      refine l_v (v_nilCheck rfl) ?_
      refine l_v (v_fieldAddr (off := 0) (ft := 22) (by kernel_rfl) rfl) ?_
      refine l_v (v_load (by kernel_rfl) rfl ((hb.ext e1).pv 0 _ rfl)) ?_
      refine l_to (to_f1 (by kernel_rfl) (show _ = (Value.slice _ _ _) from rfl) (CallsR.mono (form_c (hv.ext e1)) ?_))
      rintro r w2 ⟨hr2, e2⟩
      have zs_e2 := e2.size
      have e3 := e1.trans e2
      rw [formV, hd] at hr2
      subst hr2
      refine l_v (v_move (t := .tuple _) rfl) ?_
      refine l_v (v_extract (t := .int _ _) rfl rfl) ?_
      refine l_v (v_extract (t := .int _ _) rfl rfl) ?_
      refine l_v (v_assign (t := .int _ _) rfl) ?_
      refine l_v (v_assign (t := .int _ _) rfl) ?_
      refine l_nil ?_
      refine n_then ?_
      refine c_seq ?_
      refine c_seq ?_
      refine wp_reg (by decide +kernel) ?_
      refine l_v (v_move (t := .int _ _) rfl) ?_
      refine l_v (v_eql rfl rfl) ?_
      refine l_nil ?_
      refine n_then ?_
      refine c_cond rfl rfl (fun hc2 => ?_) (fun hc2 => ?_)
      · skip
        refine c_seq ?_
        refine wp_reg (by decide +kernel) ?_
        refine l_v (v_assign rfl) ?_
        refine l_v (v_assign rfl) ?_
        refine l_nil ?_
        refine n_then ?_
        refine wp_ret ?_
        refine r_then ?_
        refine ret2 rfl (by decide) (by decide) ?_
        refine ⟨?_, ?_, e3.keep⟩
        · show _ = numV l
          rw [numV, hd]; rfl
        · rw [rest, hd]
          exact ⟨a, c, hb.ext e3, hv.ext e3⟩
      · skip
        simp at hc2
  · obtain ⟨k, hk1, hk2, hk3⟩ := rdGo_suffix l 0 hd
    have hk4 : l.length - r'.length = k := by rw [hk3, List.length_drop]; omega
    refine enter 28 Try.func15 rfl rfl (by simp) ?_
    refine c_seq ?_
    refine wp_reg (by decide +kernel) ?_
    refine l_v (v_assign rfl) ?_
    refine l_v (v_assign rfl) ?_
    refine l_nil ?_
    refine n_then ?_
    refine c_seq ?_
    refine c_seq ?_
    refine wp_reg (by decide +kernel) ?_
    refine l_v (v_move (t := .pointer _) rfl) ?_
    refine l_to (to_f1 (by kernel_rfl) (show _ = (Value.pointer _) from rfl) (CallsR.mono (closed_c hb) ?_))
    rintro _ w1 ⟨rfl, e1⟩
    have zs_e1 := e1.size
    refine l_nil ?_
    refine n_then ?_
    refine c_cond rfl rfl (fun hc => ?_) (fun hc => ?_)
    · skip
      cases hc
    · skip
      refine wp_skip ?_
      refine n_then ?_
      refine c_seq ?_
      refine wp_reg (by decide +kernel) ?_
      refine l_v (v_move (t := .pointer _) rfl) ?_
      refine l_v (v_nilCheck rfl) ?_
      refine l_v (v_fieldAddr (off := 0) (ft := 22) (by kernel_rfl) rfl) ?_
      refine l_v (v_load (by kernel_rfl) rfl ((hb.ext e1).pv 0 _ rfl)) ?_
      refine l_to (to_f1 (by kernel_rfl) (show _ = (Value.slice _ _ _) from rfl) (CallsR.mono (form_c (hv.ext e1)) ?_))
      rintro r w2 ⟨hr2, e2⟩
      have zs_e2 := e2.size
      have e3 := e1.trans e2
      rw [formV, hd] at hr2
      simp only [hk4] at hr2
      subst hr2
      refine l_v (v_move (t := .tuple _) rfl) ?_
      refine l_v (v_extract (t := .int _ _) rfl rfl) ?_
      refine l_v (v_extract (t := .int _ _) rfl rfl) ?_
      refine l_v (v_assign (t := .int _ _) rfl) ?_
      refine l_v (v_assign (t := .int _ _) rfl) ?_
      refine l_nil ?_
      refine n_then ?_
      refine c_seq ?_
      refine c_seq ?_
      refine wp_reg (by decide +kernel) ?_
      refine l_v (v_move (t := .int _ _) rfl) ?_
      refine l_v (v_eql rfl rfl) ?_
      refine l_nil ?_
      refine n_then ?_
      refine c_cond rfl rfl (fun hc2 => ?_) (fun hc2 => ?_)
      · skip
        simp at hc2; omega
      · skip
        refine wp_skip ?_
        refine n_then ?_
        refine c_seq ?_
        refine wp_reg (by decide +kernel) ?_
        refine l_v (v_move (t := .pointer _) rfl) ?_
        refine l_v (v_move (t := .pointer _) rfl) ?_
        refine l_v (v_nilCheck rfl) ?_
        refine l_v (v_fieldAddr (off := 0) (ft := 22) (by kernel_rfl) rfl) ?_
        refine l_v (v_load (by kernel_rfl) rfl ((hb.ext e3).pv 0 _ rfl)) ?_
        refine l_v (v_move (t := .int _ _) rfl) ?_
        refine l_to (to_slice (et := 5) (l := k) (h := l.length) (by kernel_rfl) (by kernel_rfl) (show _ = (Value.slice _ _ _) from rfl) (hv.ext e3) ⟨_, by exact rfl⟩ rfl (by first | omega | (simp; done) | (simp; omega)) (by first | omega | (simp; done) | (simp; omega)) ?_)
        rintro a2 n2 c2 h2 rfl hn2
        rw [List.take_length, ← hk3] at h2
        refine l_v (v_nilCheck rfl) ?_
        refine l_v (v_fieldAddr (off := 0) (ft := 22) (by kernel_rfl) rfl) ?_
        refine l_to (to_store rfl rfl (show _ = (Value.slice _ _ _) from rfl) rfl (by kernel_rfl) (hb.ext e3) (by simp) ?_)
        rintro w3 h3 k3 z3
        have zs_k3 := k3.size
        refine l_nil ?_
        refine n_then ?_
        refine c_seq ?_
        refine wp_reg (by decide +kernel) ?_
        refine l_v (v_move (t := .int _ _) rfl) ?_
        refine l_v (v_assign (t := .int _ _) rfl) ?_
        refine l_v (v_assign rfl) ?_
        refine l_nil ?_
        refine n_then ?_
        refine wp_ret ?_
        refine ret2 rfl (by decide) (by decide) ?_
        refine ⟨?_, ?_, e3.keep.trans k3⟩
        · show _ = numV l
          rw [numV, hd]; rfl
        · obtain ⟨q2, rfl⟩ := hn2 a _ _ rfl
          have hrl : l.length - k = r'.length := by rw [hk3, List.length_drop]
          rw [hrl] at h2 h3
          rw [rest, hd]
          exact ⟨q2, c2, h3, h2.keep k3 fun b' _ hb' he => hF (by subst he; exact hb')⟩

def sgnV (l : List UInt8) : Value := match rdNum l with
  | some (n, _) => .tuple #[.int .i64 (unzig n), .int .i64 0]
  | none => .tuple #[.int .i64 0, .int .i64 4]

theorem rSigned_c {w : World} {b : Nat} {F : Nat → Prop} {l : List UInt8} (hr : Rd nRd w b F l) (hF : ¬ F b) : CallsR Try.prog 14 #[.pointer (some ⟨b, 0, none⟩)] w (fun r w' => r = sgnV l ∧ Rd nRd w' b F (rest l) ∧ Keep (fun k => k = b) w w') := by
  rcases hd : rdNum l with _ | ⟨n, r'⟩
  · skip
    refine enter 23 Try.func14 rfl rfl (by simp) ?_
    refine c_seq ?_
    refine wp_reg (by decide +kernel) ?_
    refine l_v (v_assign rfl) ?_
    refine l_v (v_assign rfl) ?_
    refine l_nil ?_
    refine n_then ?_
    refine c_seq ?_
    refine wp_reg (by decide +kernel) ?_
    refine l_v (v_move (t := .pointer _) rfl) ?_
    refine l_to (to_f1 (by kernel_rfl) (show _ = (Value.pointer _) from rfl) (CallsR.mono (rNumber_c hr hF) ?_))
    rintro r w2 ⟨hr2, h2, k2⟩
    have zs_k2 := k2.size
    rw [numV, hd] at hr2
    subst hr2
    refine l_v (v_move (t := .tuple _) rfl) ?_
    refine l_v (v_extract (t := .int _ _) rfl rfl) ?_
    refine l_v (v_extract (t := .int _ _) rfl rfl) ?_
    refine l_v (v_assign (t := .int _ _) rfl) ?_
    refine l_v (v_assign (t := .int _ _) rfl) ?_
    refine l_nil ?_
    refine n_then ?_
    refine c_seq ?_
    refine wp_reg (by decide +kernel) ?_
    refine l_v (v_move (t := .int _ _) rfl) ?_
    refine l_v (v_quo rfl rfl (by decide) (by first | exact qu_u64 (by omega) (by omega) (by decide) | rfl)) ?_
    refine l_v (v_conv (ds := .int .u64) (by kernel_rfl) (by kernel_rfl) rfl (by first | exact wr_i64 (by omega) (by omega) | rfl)) ?_
    refine l_v (v_assign (t := .int _ _) rfl) ?_
    refine l_nil ?_
    refine n_then ?_
    refine c_seq ?_
    refine c_seq ?_
    refine wp_reg (by decide +kernel) ?_
    refine l_v (v_move (t := .int _ _) rfl) ?_
    refine l_v (v_rem rfl rfl (by decide) (by first | exact tm_nn (by omega) | rfl)) ?_
    refine l_v (v_eql rfl rfl) ?_
    refine l_nil ?_
    refine n_then ?_
    refine c_cond rfl rfl (fun hc2 => ?_) (fun hc2 => ?_)
    · skip
      simp at hc2
    · skip
      refine wp_skip ?_
      refine n_then ?_
      refine c_seq ?_
      refine wp_reg (by decide +kernel) ?_
      refine l_v (v_move (t := .int _ _) rfl) ?_
      refine l_v (v_move (t := .int _ _) rfl) ?_
      refine l_v (v_assign (t := .int _ _) rfl) ?_
      refine l_v (v_assign (t := .int _ _) rfl) ?_
      refine l_nil ?_
      refine n_then ?_
      refine wp_ret ?_
      refine ret2 rfl (by decide) (by decide) ?_
      refine ⟨?_, h2, k2⟩
      show _ = sgnV l
      rw [sgnV, hd]; rfl
  · have hlt := rdNum_lt hd
    refine enter 23 Try.func14 rfl rfl (by simp) ?_
    refine c_seq ?_
    refine wp_reg (by decide +kernel) ?_
    refine l_v (v_assign rfl) ?_
    refine l_v (v_assign rfl) ?_
    refine l_nil ?_
    refine n_then ?_
    refine c_seq ?_
    refine wp_reg (by decide +kernel) ?_
    refine l_v (v_move (t := .pointer _) rfl) ?_
    refine l_to (to_f1 (by kernel_rfl) (show _ = (Value.pointer _) from rfl) (CallsR.mono (rNumber_c hr hF) ?_))
    rintro r w2 ⟨hr2, h2, k2⟩
    have zs_k2 := k2.size
    rw [numV, hd] at hr2
    subst hr2
    refine l_v (v_move (t := .tuple _) rfl) ?_
    refine l_v (v_extract (t := .int _ _) rfl rfl) ?_
    refine l_v (v_extract (t := .int _ _) rfl rfl) ?_
    refine l_v (v_assign (t := .int _ _) rfl) ?_
    refine l_v (v_assign (t := .int _ _) rfl) ?_
    refine l_nil ?_
    refine n_then ?_
    refine c_seq ?_
    refine wp_reg (by decide +kernel) ?_
    refine l_v (v_move (t := .int _ _) rfl) ?_
    refine l_v (v_quo rfl rfl (by decide) (by first | exact qu_u64 (by omega) (by omega) (by decide) | rfl)) ?_
    refine l_v (v_conv (ds := .int .u64) (by kernel_rfl) (by kernel_rfl) rfl (by first | exact wr_i64 (by omega) (by omega) | rfl)) ?_
    refine l_v (v_assign (t := .int _ _) rfl) ?_
    refine l_nil ?_
    refine n_then ?_
    refine c_seq ?_
    refine c_seq ?_
    refine wp_reg (by decide +kernel) ?_
    refine l_v (v_move (t := .int _ _) rfl) ?_
    refine l_v (v_rem rfl rfl (by decide) (by first | exact tm_nn (by omega) | rfl)) ?_
    refine l_v (v_eql rfl rfl) ?_
    refine l_nil ?_
    refine n_then ?_
    refine c_cond rfl rfl (fun hc2 => ?_) (fun hc2 => ?_)
    · skip
      refine wp_reg (by decide +kernel) ?_
      refine l_v (v_move (t := .int _ _) rfl) ?_
      refine l_v (v_neg rfl (by first | exact wr_i64 (by omega) (by omega) | rfl)) ?_
      refine l_v (v_sub rfl rfl (by first | exact wr_i64 (by omega) (by omega) | rfl)) ?_
      refine l_v (v_assign (t := .int _ _) rfl) ?_
      refine l_nil ?_
      refine n_then ?_
      refine c_seq ?_
      refine wp_reg (by decide +kernel) ?_
      refine l_v (v_move (t := .int _ _) rfl) ?_
      refine l_v (v_move (t := .int _ _) rfl) ?_
      refine l_v (v_assign (t := .int _ _) rfl) ?_
      refine l_v (v_assign (t := .int _ _) rfl) ?_
      refine l_nil ?_
      refine n_then ?_
      refine wp_ret ?_
      refine ret2 rfl (by decide) (by decide) ?_
      refine ⟨?_, h2, k2⟩
      show _ = sgnV l
      rw [sgnV, hd]
      have : n % 2 = 1 := by have := dtrue hc2; omega
      show Value.tuple #[Value.int .i64 _, _] = Value.tuple #[_, _]
      rw [unzig, if_pos this]
      congr 4
      omega
    · skip
      refine wp_skip ?_
      refine n_then ?_
      refine c_seq ?_
      refine wp_reg (by decide +kernel) ?_
      refine l_v (v_move (t := .int _ _) rfl) ?_
      refine l_v (v_move (t := .int _ _) rfl) ?_
      refine l_v (v_assign (t := .int _ _) rfl) ?_
      refine l_v (v_assign (t := .int _ _) rfl) ?_
      refine l_nil ?_
      refine n_then ?_
      refine wp_ret ?_
      refine ret2 rfl (by decide) (by decide) ?_
      refine ⟨?_, h2, k2⟩
      show _ = sgnV l
      rw [sgnV, hd]
      have : ¬ n % 2 = 1 := by have := dfalse hc2; omega
      show Value.tuple #[Value.int .i64 _, _] = Value.tuple #[_, _]
      rw [unzig, if_neg this]
      congr 4

def flagV (l : List UInt8) : Value := match rdFlag l with
  | some (f, _) => .tuple #[.bool f, .int .i64 0]
  | none => .tuple #[.bool false, .int .i64 4]
def restF (l : List UInt8) : List UInt8 := match rdFlag l with
  | some (_, r) => r
  | none => l

theorem head_at {l : List UInt8} (h : (decide ((l.length : Int) = 0) == false) = true) : l[0]? = some (l.headD 0) := by
  cases l with
  | nil => simp at h
  | cons x l => rfl

theorem rFlag_c {w : World} {b : Nat} {F : Nat → Prop} {l : List UInt8} (hr : Rd nRd w b F l) (hF : ¬ F b) : CallsR Try.prog 40 #[.pointer (some ⟨b, 0, none⟩)] w (fun r w' => r = flagV l ∧ Rd nRd w' b F (restF l) ∧ Keep (fun k => k = b) w w') := by
  obtain ⟨a, c, hb, hv⟩ := hr
  refine enter 38 Try.func40 rfl rfl (by simp) ?_
  refine c_seq ?_
  refine wp_reg (by decide +kernel) ?_
  refine l_v (v_assign rfl) ?_
  refine l_v (v_assign rfl) ?_
  refine l_nil ?_
  refine n_then ?_
  refine c_seq ?_
  refine c_seq ?_
  refine wp_reg (by decide +kernel) ?_
  refine l_v (v_move (t := .pointer _) rfl) ?_
  refine l_to (to_f1 (by kernel_rfl) (show _ = (Value.pointer _) from rfl) (CallsR.mono (closed_c hb) ?_))
  rintro _ w1 ⟨rfl, e1⟩
  have zs_e1 := e1.size
  refine l_nil ?_
  refine n_then ?_
  refine c_cond rfl rfl (fun hc => ?_) (fun hc => ?_)
  · skip
    cases hc
  · skip
    refine wp_skip ?_
    refine n_then ?_
    refine c_seq ?_
    refine c_seq ?_
    refine wp_reg (by decide +kernel) ?_
    refine l_v (v_move (t := .pointer _) rfl) ?_
    refine l_v (v_nilCheck rfl) ?_
    refine l_v (v_fieldAddr (off := 0) (ft := 22) (by kernel_rfl) rfl) ?_
    refine l_v (v_load (by kernel_rfl) rfl ((hb.ext e1).pv 0 _ rfl)) ?_
    refine l_v (v_len (et := 5) (by kernel_rfl) rfl) ?_
    refine l_v (v_eql rfl rfl) ?_
    refine l_v (v_move (t := .bool _) rfl) ?_
    refine l_g1 rfl rfl (fun hG => v_move (t := .pointer _) rfl) ?_
    refine l_g1 rfl rfl (fun hG => v_nilCheck (gd hG rfl)) ?_
    refine l_g1 rfl rfl (fun hG => v_fieldAddr (off := 0) (ft := 22) (by kernel_rfl) (gd hG rfl)) ?_
    refine l_g1 rfl rfl (fun hG => v_load (by kernel_rfl) (gd hG rfl) ((hb.ext e1).pv 0 _ rfl)) ?_
    refine l_g1 rfl rfl (fun hG => v_indexAddr (et := 5) (sz := 1) (k := 0) (by kernel_rfl) (by kernel_rfl) (gd hG rfl) rfl rfl ((List.getElem?_eq_some_iff.1 (head_at hG)).1)) ?_
    refine l_g1 rfl rfl (fun hG => v_load (by kernel_rfl) (gd hG rfl) ((hv.ext e1).at8 (k := 0) (x := l.headD 0) (head_at hG))) ?_
    refine l_g1 rfl rfl (fun hG => v_gtr (gd hG rfl) rfl) ?_
    refine l_v (v_or rfl rfl) ?_
    refine l_nil ?_
    refine n_then ?_
    refine c_cond rfl rfl (fun hc2 => ?_) (fun hc2 => ?_)
    · skip
      refine c_seq ?_
      refine wp_reg (by decide +kernel) ?_
      refine l_v (v_assign rfl) ?_
      refine l_v (v_assign rfl) ?_
      refine l_nil ?_
      refine n_then ?_
      refine wp_ret ?_
      refine r_then ?_
      refine ret2 rfl (by decide) (by decide) ?_
      have h1 : rdFlag l = none := by
        cases l with
        | nil => rfl
        | cons x l => have : 1 < x.toNat := by simp at hc2; omega
                      simp [rdFlag, this]
      refine ⟨?_, ?_, e1.keep⟩
      · show _ = flagV l
        rw [flagV, h1]; rfl
      · rw [restF, h1]; exact ⟨a, c, hb.ext e1, hv.ext e1⟩
    · skip
      obtain ⟨x, l', rfl⟩ : ∃ x l', l = x :: l' := by cases l with
      | nil => simp at hc2
      | cons x l => exact ⟨x, l, rfl⟩
      have h1 : ¬ 1 < x.toNat := by simp at hc2; omega
      refine wp_skip ?_
      refine n_then ?_
      refine c_seq ?_
      refine wp_reg (by decide +kernel) ?_
      refine l_v (v_move (t := .pointer _) rfl) ?_
      refine l_v (v_nilCheck rfl) ?_
      refine l_v (v_fieldAddr (off := 0) (ft := 22) (by kernel_rfl) rfl) ?_
      refine l_v (v_load (by kernel_rfl) rfl ((hb.ext e1).pv 0 _ rfl)) ?_
      refine l_v (v_indexAddr (et := 5) (sz := 1) (k := 0) (by kernel_rfl) (by kernel_rfl) rfl rfl rfl (by simp)) ?_
      refine l_v (v_load (by kernel_rfl) rfl ((hv.ext e1).at8 (k := 0) (x := x) rfl)) ?_
      refine l_v (v_gtr rfl rfl) ?_
      refine l_v (v_assign (t := .bool _) rfl) ?_
      refine l_nil ?_
      refine n_then ?_
      refine c_seq ?_
      refine wp_reg (by decide +kernel) ?_
      refine l_v (v_move (t := .pointer _) rfl) ?_
      refine l_v (v_move (t := .pointer _) rfl) ?_
      refine l_v (v_nilCheck rfl) ?_
      refine l_v (v_fieldAddr (off := 0) (ft := 22) (by kernel_rfl) rfl) ?_
      refine l_v (v_load (by kernel_rfl) rfl ((hb.ext e1).pv 0 _ rfl)) ?_
      refine l_to (to_slice (et := 5) (l := 1) (h := (x :: l').length) (by kernel_rfl) (by kernel_rfl) (show _ = (Value.slice _ _ _) from rfl) (hv.ext e1) ⟨_, by exact rfl⟩ rfl (by first | omega | (simp; done) | (simp; omega)) (by first | omega | (simp; done) | (simp; omega)) ?_)
      rintro a2 n2 c2 h2 rfl hn2
      rw [List.take_length] at h2
      refine l_v (v_nilCheck rfl) ?_
      refine l_v (v_fieldAddr (off := 0) (ft := 22) (by kernel_rfl) rfl) ?_
      refine l_to (to_store rfl rfl (show _ = (Value.slice _ _ _) from rfl) rfl (by kernel_rfl) (hb.ext e1) (by simp) ?_)
      rintro w3 h3 k3 z3
      have zs_k3 := k3.size
      refine l_nil ?_
      refine n_then ?_
      refine c_seq ?_
      refine wp_reg (by decide +kernel) ?_
      refine l_v (v_move (t := .bool _) rfl) ?_
      refine l_v (v_assign (t := .bool _) rfl) ?_
      refine l_v (v_assign rfl) ?_
      refine l_nil ?_
      refine n_then ?_
      refine wp_ret ?_
      refine ret2 rfl (by decide) (by decide) ?_
      obtain ⟨q2, rfl⟩ := hn2 a _ _ rfl
      refine ⟨?_, ?_, e1.keep.trans k3⟩
      · have e0 : decide ((0 : Int) < (x.toNat : Int)) = decide (0 < x.toNat) := decide_eq_decide.2 (by omega)
        simp only [flagV, rdFlag, h1, if_false]
        rw [← e0]; rfl
      · simp only [restF, rdFlag, h1, if_false]
        exact ⟨q2, c2, by simpa using h3, (by simpa using h2.keep k3 fun b' _ hb' he => hF (by subst he; exact hb'))⟩
end Go.Proofs.Ythnpnniiejcnbaa
