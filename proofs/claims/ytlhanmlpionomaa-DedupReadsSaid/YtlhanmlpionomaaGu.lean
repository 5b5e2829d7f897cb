/- A part of the proof: steps and lemmas for the walks through the given program. -/
import Derived.Test.YtlhanmlpionomaaGw
import Derived.Test.YtlhanmlpionomaaGd
import Derived.Test.YtlhanmlpionomaaGc
namespace Go.Proofs.Ytlhanmlpionomaa
open Go.Vc
set_option linter.unusedVariables false
set_option linter.unusedSimpArgs false
set_option maxRecDepth 100000

theorem refBytes_c {w : World} {v : Value} {F : Nat → Prop} {l : List UInt8} (hv : Bv w F v l) (hl : l.length ≤ 140737488355300) : CallsR Try.prog 52 #[v] w (fun r w' => OwV tU8 nU8 w' w.heap.size NoK r (wBytes l) ∧ (∃ q c, r = .slice (some q) (wBytes l).length c) ∧ Ext w w') := by
  obtain ⟨a, c, rfl⟩ := hv.shape
  have hw := wNum_len10 (n := l.length) (by omega)
  refine enter 9 Try.func52 rfl rfl (by simp) ?_
  refine c_seq ?_
  refine wp_reg (by decide +kernel) ?_
  refine l_v (v_assign rfl) ?_
  refine l_nil ?_
  refine n_then ?_
  refine c_seq ?_
  refine wp_reg (by decide +kernel) ?_
  refine l_v (v_move (t := .slice _ _ _) rfl) ?_
  refine l_v (v_len (et := 5) (by kernel_rfl) rfl) ?_
  refine l_v (v_conv (ds := .int .i64) (by kernel_rfl) (by kernel_rfl) rfl (by first | exact wr_u64 (by omega) (by omega) | rfl)) ?_
  refine l_to (to_f1 (by kernel_rfl) (show _ = (Value.int _ _) from rfl) (CallsR.mono (refNumber_c (n := l.length) rfl (by omega)) ?_))
  rintro _ w1 ⟨o1, ⟨q1, c1, rfl⟩, e1⟩
  have zs_e1 := e1.size
  refine l_v (v_move (t := .slice _ _ _) rfl) ?_
  refine l_to (to_append (et := 5) (bytes := 1) (by kernel_rfl) (show _ = (Value.slice _ _ _) from rfl) o1 (show _ = (Value.slice _ _ _) from rfl) (hv.ext e1) (flat_u8.to) (by first | omega | (simp; done) | (simp; omega)) (by simp only [maxLen]; first | omega | (simp; done) | (simp; omega)) (by omega) ?_)
  rintro a3 n3 c3 w3 o3 hn3 k3 b3 i3
  have zs_k3 := k3.size
  subst hn3
  have kk3 : Ext w w3 := e1.step k3 fun b hb h => by have := (o1.own_lt h).1; omega
  refine l_v (v_assign (t := .slice _ _ _) rfl) ?_
  refine l_nil ?_
  refine n_then ?_
  refine c_ret ?_
  refine ret1 rfl (by decide) ?_
  refine ⟨o3, ?_, kk3⟩
  cases a3 with
  | some q => exact ⟨q, c3, rfl⟩
  | none => exact absurd (i3.1 rfl).1 (by simp)
abbrev nSl : Nat := 31
theorem OwV_sep {α β : Type} {t : Ty α} {t' : Ty β} {e : TypeId} {w0 w : World} {B : Nat} {F G : Nat → Prop} {v : Value} {ys : List α} (o : OwV t e w0 B F v ys) (hm : ∀ b, G b → w0.heap.size ≤ b) (hB : B ≤ w0.heap.size) :
    ∀ cs x, t'.rep w G cs x → t'.rep w (fun b => B ≤ b ∧ v.ownBlock ≠ some b) cs x := fun cs x h =>
  t'.mono h fun b _ hb => ⟨Nat.le_trans hB (hm b hb), fun he => by have := (o.own_lt he).2; have := hm b hb; omega⟩
/-- a list's form -/
def wList {α : Type} (sp : α → List UInt8) (xs : List α) : List UInt8 := wNum xs.length ++ (xs.map sp).flatten

/-- so many things, one behind the other -/
def rdList {α : Type} (ρ : List UInt8 → Except Int (α × List UInt8)) : Nat → List UInt8 → Except Int (List α × List UInt8)
  | 0, l => .ok ([], l)
  | n + 1, l => match ρ l with
    | .error e => .error e
    | .ok (x, l2) => match rdList ρ n l2 with
      | .error e => .error e
      | .ok (xs, l3) => .ok (x :: xs, l3)
def bindL {α : Type} (xs : List α) : Except Int (List α × List UInt8) → Except Int (List α × List UInt8)
  | .error e => .error e
  | .ok (ys, l) => .ok (xs ++ ys, l)
theorem bindL_nil {α : Type} (r : Except Int (List α × List UInt8)) : bindL [] r = r := by cases r <;> rfl
theorem rdList_ok {α : Type} {ρ : List UInt8 → Except Int (α × List UInt8)} {n : Nat} {l l2 : List UInt8} {x : α} {xs : List α} (h : ρ l = .ok (x, l2)) : bindL xs (rdList ρ (n + 1) l) = bindL (xs ++ [x]) (rdList ρ n l2) := by
  rw [rdList, h]
  simp only []
  cases rdList ρ n l2 with
  | error e => rfl
  | ok q => simp [bindL]
theorem rdList_err {α : Type} {ρ : List UInt8 → Except Int (α × List UInt8)} {n : Nat} {l : List UInt8} {e : Int} {xs : List α} (h : ρ l = .error e) : bindL xs (rdList ρ (n + 1) l) = .error e := by
  rw [rdList, h]; rfl

theorem TryV_any {α : Type} {t : Ty α} {et eR : TypeId} {w w' : World} {b : Nat} {F : Nat → Prop} {l : List UInt8} {q : Except Int (List α × List UInt8)} {r : Value} (h : TryV t et eR w w' b F l q r) :
    ∃ (a : Option Addr) (c : Nat) (e : Int) (xs : List α) (l2 : List UInt8), r = .tuple #[.slice a xs.length c, .int .i64 e] ∧ OwV t et w' w.heap.size (fun k => w.heap.size ≤ k) (.slice a xs.length c) xs ∧ Rd eR w' b F l2 ∧ ((e = 0 ∧ q = .ok (xs, l2)) ∨ (e ≠ 0 ∧ xs = [] ∧ l2 = l ∧ a = none ∧ c = 0 ∧ q = .error e)) := by
  match q, h with
  | .ok (x, l2), ⟨a, c, hr, h1, h2⟩ => exact ⟨a, c, 0, x, l2, hr, h1, h2, .inl ⟨rfl, rfl⟩⟩
  | .error e, ⟨he, hr, h2⟩ => exact ⟨none, 0, e, [], l, hr, OwV.nil _ _ _ _ _, h2, .inr ⟨he, rfl, rfl, rfl, rfl, rfl⟩⟩

theorem rdList_form {α : Type} {ρ : List UInt8 → Except Int (α × List UInt8)} {sp : α → List UInt8} (h : ∀ l x r, ρ l = .ok (x, r) → l = sp x ++ r) : ∀ (n : Nat) (l : List UInt8) (xs : List α) (r : List UInt8), rdList ρ n l = .ok (xs, r) → xs.length = n ∧ l = (xs.map sp).flatten ++ r
  | 0, l, xs, r, h1 => by cases h1; simp
  | n + 1, l, xs, r, h1 => by
    rw [rdList] at h1
    cases hq : ρ l with
    | error e => rw [hq] at h1; cases h1
    | ok q =>
      obtain ⟨x, l2⟩ := q
      rw [hq] at h1; simp only [] at h1
      cases hq2 : rdList ρ n l2 with
      | error e => rw [hq2] at h1; cases h1
      | ok q2 =>
        obtain ⟨ys, l3⟩ := q2
        rw [hq2] at h1; simp only [] at h1
        cases h1
        obtain ⟨h2, h3⟩ := rdList_form h n l2 ys _ hq2
        exact ⟨by simp [h2], by rw [h _ _ _ hq, h3]; simp⟩
end Go.Proofs.Ytlhanmlpionomaa

namespace Go.Proofs.Ytlhanmlpionomaa
open Go.Vc
set_option linter.unusedVariables false
set_option linter.unusedSimpArgs false
set_option maxRecDepth 100000

theorem numV_any (l : List UInt8) : ∃ (n : Nat) (e : Int), numV l = .tuple #[.int .u64 n, .int .i64 e] ∧ n < 18446744073709551616 ∧ ((e = 0 ∧ l = wNum n ++ rest l ∧ rdNum l = some (n, rest l)) ∨ (e = 4 ∧ n = 0 ∧ rest l = l ∧ rdNum l = none)) := by
  rcases hd : rdNum l with _ | ⟨n, r⟩
  · exact ⟨0, 4, by rw [numV, hd]; rfl, by omega, .inr ⟨rfl, rfl, by rw [rest, hd], rfl⟩⟩
  · have hr : rest l = r := by rw [rest, hd]
    exact ⟨n, 0, by rw [numV, hd], rdNum_lt hd, .inl ⟨rfl, by rw [hr]; exact rdNum_form hd, by rw [hr]⟩⟩
theorem at_getD {l : List UInt8} {k : Nat} (h : k < l.length) : l[k]? = some (l.getD k 0) := by simp [List.getD, h]
theorem whole_c {w : World} {v : Value} {F : Nat → Prop} {l : List UInt8} (hv : Bv w F v l) : CallsR Try.prog 84 #[v] w (fun r w' => r = .int .i64 (wholeN l : Nat) ∧ Ext w w') := by
  obtain ⟨a, c, rfl⟩ := hv.shape
  have hmx := hv.max
  simp only [maxLen] at hmx
  have hle := lead_le l
  obtain ⟨w0, rfl⟩ : ∃ x, x = w := ⟨w, rfl⟩
  cases a with
  | none =>
    have hl0 : l = [] := by
      cases l with
      | nil => rfl
      | cons x r => obtain ⟨a', c', he, _, _, _, h4⟩ := hv; obtain ⟨q, cs, ha, _⟩ := h4 0 x rfl; cases he; cases ha
    subst hl0
    refine enter 48 Try.func84 rfl rfl (by simp) ?_
    refine c_seq ?_
    refine wp_reg (by decide +kernel) ?_
    refine l_v (v_assign rfl) ?_
    refine l_nil ?_
    refine n_then ?_
    refine c_seq ?_
    refine wp_reg (by decide +kernel) ?_
    refine l_v (v_assign rfl) ?_
    refine l_nil ?_
    refine n_then ?_
    refine c_seq ?_
    refine c_block ?_
    refine c_loop (τ := Nat) [3, 4, 5, 6, 7, 8, 9, 10, 11, 12, 13, 14, 15, 16] (fun k => [(3, .int .i64 k)]) (fun k w => w = w0 ∧ k = 0) (fun k => 0) 0 (by exact ⟨rfl, trivial⟩) (by exact ⟨rfl, rfl⟩) ?_
    rintro k w1 j ⟨rfl, rfl⟩
    refine c_seq ?_
    refine c_seq ?_
    refine wp_reg (by decide +kernel) ?_
    refine l_v (v_move (t := .int _ _) rfl) ?_
    refine l_v (v_move (t := .slice _ _ _) rfl) ?_
    refine l_v (v_len (et := 5) (by kernel_rfl) rfl) ?_
    refine l_v (OpVat.as (b := false) (v_lss rfl rfl) (by first | rfl | (simp; done) | (simp; omega))) ?_
    refine l_v (v_move (t := .bool _) rfl) ?_
    refine l_skip (u := .bool false) rfl rfl rfl ?_
    refine l_skip (u := .bool false) rfl rfl rfl ?_
    refine l_skip (u := .bool false) rfl rfl rfl ?_
    refine l_skip (u := .bool false) rfl rfl rfl ?_
    refine l_skip (u := .bool false) rfl rfl rfl ?_
    refine l_v (v_andC rfl) ?_
    refine l_nil ?_
    refine n_then ?_
    refine c_cond rfl rfl (fun hc => ?_) (fun hc => ?_)
    · skip
      cases hc
    · skip
      refine c_exit ?_
      refine x_then ?_
      refine x_then ?_
      refine x_hit ?_
      refine n_then ?_
      refine c_seq ?_
      refine c_seq ?_
      refine wp_reg (by decide +kernel) ?_
      refine l_v (v_move (t := .int _ _) rfl) ?_
      refine l_v (v_move (t := .slice _ _ _) rfl) ?_
      refine l_v (v_len (et := 5) (by kernel_rfl) rfl) ?_
      refine l_v (OpVat.as (b := true) (v_eql rfl rfl) (by first | rfl | (simp; done) | (simp; omega))) ?_
      refine l_v (v_move (t := .bool _) rfl) ?_
      refine l_skip (u := .bool true) rfl rfl rfl ?_
      refine l_skip (u := .bool true) rfl rfl rfl ?_
      refine l_v (v_orC rfl) ?_
      refine l_v (v_move (t := .bool _) rfl) ?_
      refine l_skip (u := .bool true) rfl rfl rfl ?_
      refine l_skip (u := .bool true) rfl rfl rfl ?_
      refine l_skip (u := .bool true) rfl rfl rfl ?_
      refine l_skip (u := undef) rfl rfl rfl ?_
      refine l_skip (u := undef) rfl rfl rfl ?_
      refine l_skip (u := undef) rfl rfl rfl ?_
      refine l_skip (u := undef) rfl rfl rfl ?_
      refine l_skip (u := .bool true) rfl rfl rfl ?_
      refine l_v (v_orC rfl) ?_
      refine l_v (v_move (t := .bool _) rfl) ?_
      refine l_skip (u := .bool true) rfl rfl rfl ?_
      refine l_skip (u := .bool true) rfl rfl rfl ?_
      refine l_skip (u := .bool true) rfl rfl rfl ?_
      refine l_skip (u := undef) rfl rfl rfl ?_
      refine l_skip (u := undef) rfl rfl rfl ?_
      refine l_skip (u := undef) rfl rfl rfl ?_
      refine l_skip (u := undef) rfl rfl rfl ?_
      refine l_skip (u := undef) rfl rfl rfl ?_
      refine l_skip (u := .bool true) rfl rfl rfl ?_
      refine l_v (v_orC rfl) ?_
      refine l_nil ?_
      refine n_then ?_
      refine c_cond rfl rfl (fun hc2 => ?_) (fun hc2 => ?_)
      · skip
        refine c_seq ?_
        refine wp_reg (by decide +kernel) ?_
        refine l_v (v_assign rfl) ?_
        refine l_nil ?_
        refine n_then ?_
        refine c_ret ?_
        refine r_then ?_
        refine ret1 rfl (by decide) ?_
        exact ⟨rfl, Keep.refl _⟩
      · skip
        cases hc2
  | some a =>
    refine enter 48 Try.func84 rfl rfl (by simp) ?_
    refine c_seq ?_
    refine wp_reg (by decide +kernel) ?_
    refine l_v (v_assign rfl) ?_
    refine l_nil ?_
    refine n_then ?_
    refine c_seq ?_
    refine wp_reg (by decide +kernel) ?_
    refine l_v (v_assign rfl) ?_
    refine l_nil ?_
    refine n_then ?_
    refine c_seq ?_
    refine c_block ?_
    refine c_loop (τ := Nat) [3, 4, 5, 6, 7, 8, 9, 10, 11, 12, 13, 14, 15, 16] (fun k => [(3, .int .i64 k)]) (fun k w => w = w0 ∧ k ≤ lead l) (fun k => l.length - k) 0 (by exact ⟨rfl, trivial⟩) (by exact ⟨rfl, Nat.zero_le _⟩) ?_
    rintro k w1 j ⟨rfl, h1⟩
    refine c_seq ?_
    refine c_seq ?_
    refine wp_reg (by decide +kernel) ?_
    refine l_v (v_move (t := .int _ _) rfl) ?_
    refine l_v (v_move (t := .slice _ _ _) rfl) ?_
    refine l_v (v_len (et := 5) (by kernel_rfl) rfl) ?_
    refine l_v (v_lss rfl rfl) ?_
    refine l_v (v_move (t := .bool _) rfl) ?_
    refine l_g1 rfl rfl (fun hG => v_move (t := .slice _ _ _) rfl) ?_
    refine l_g1 rfl rfl (fun hG => v_move (t := .int _ _) rfl) ?_
    refine l_g1 rfl rfl (fun hG => v_indexAddr (et := 5) (sz := 1) (k := k) (by kernel_rfl) (by kernel_rfl) (gd hG rfl) (gd hG rfl) (by first | rfl | omega) (by have := hG; simp at this; omega)) ?_
    refine l_g1 rfl rfl (fun hG => v_load (by kernel_rfl) (gd hG rfl) (hv.at8 (k := k) (x := l.getD k 0) (at_getD (by have := hG; simp at this; omega)))) ?_
    refine l_g1 rfl rfl (fun hG => v_gtr (gd hG rfl) rfl) ?_
    refine l_v (v_and rfl rfl) ?_
    refine l_nil ?_
    refine n_then ?_
    refine c_cond rfl rfl (fun hc => ?_) (fun hc => ?_)
    · skip
      simp only [Bool.and_eq_true, decide_eq_true_eq] at hc
      refine c_skip ?_
      refine n_then ?_
      refine c_block ?_
      refine wp_reg (by decide +kernel) ?_
      refine l_v (v_move (t := .int _ _) rfl) ?_
      refine l_v (v_add rfl rfl (by first | exact wr_i64 (by omega) (by omega) | rfl)) ?_
      refine l_v (v_assign (t := .int _ _) rfl) ?_
      refine l_nil ?_
      refine n_blk ?_
      refine n_then ?_
      refine ⟨k + 1, _, rfl, by (repeat (first | exact Off.of_over _ _ _ | refine Off.upd ?_ (by decide) _ | refine Off.overs ?_ (by decide) _)), ⟨by first | rfl | exact congrArg (Value.int _) (by omega) | (simp; done), trivial⟩, ?_, ?_⟩
      · refine ⟨rfl, ?_⟩
        rcases Nat.lt_or_ge k (lead l) with h | h
        · exact h
        · have hk : k = lead l := by omega
          have := lead_end l (l.getD k 0) (by rw [← hk]; exact at_getD (by omega))
          omega
      · dsimp only; omega
    · skip
      have hk : k = lead l := by
        rcases Nat.lt_or_ge k (lead l) with h | h
        · have h2 := lead_at l k (l.getD k 0) h (at_getD (by omega))
          have h3 : (decide ((k : Int) < (l.length : Int)) && decide ((127 : Int) < ((l.getD k 0).toNat : Int))) = true := by rw [Bool.and_eq_true]; exact ⟨decide_eq_true (by omega), decide_eq_true (by omega)⟩
          rw [h3] at hc; cases hc
        · omega
      clear hc
      subst hk
      refine c_exit ?_
      refine x_then ?_
      refine x_then ?_
      refine x_hit ?_
      refine n_then ?_
      refine c_seq ?_
      refine c_seq ?_
      refine wp_reg (by decide +kernel) ?_
      refine l_v (v_move (t := .int _ _) rfl) ?_
      refine l_v (v_move (t := .slice _ _ _) rfl) ?_
      refine l_v (v_len (et := 5) (by kernel_rfl) rfl) ?_
      refine l_v (v_eql rfl rfl) ?_
      refine l_v (v_move (t := .bool _) rfl) ?_
      refine l_g1 rfl rfl (fun hG => v_move (t := .int _ _) rfl) ?_
      refine l_g1 rfl rfl (fun hG => v_gtr (gd hG rfl) rfl) ?_
      refine l_v (v_or rfl rfl) ?_
      refine l_v (v_move (t := .bool _) rfl) ?_
      refine l_g1 rfl rfl (fun hG => v_move (t := .int _ _) rfl) ?_
      refine l_g1 rfl rfl (fun hG => v_eql (gd hG rfl) rfl) ?_
      refine l_g1 rfl rfl (fun hG => v_move (t := .bool _) (gd hG rfl)) ?_
      refine l_g2 rfl rfl (fun hG => v_move (t := .slice _ _ _) rfl) ?_
      refine l_g2 rfl rfl (fun hG => v_indexAddr (et := 5) (sz := 1) (k := 9) (by kernel_rfl) (by kernel_rfl) (gd hG rfl) rfl (by first | rfl | omega) (by have := hG; simp at this; omega)) ?_
      refine l_g2 rfl rfl (fun hG => v_load (by kernel_rfl) (gd hG rfl) (hv.at8 (k := 9) (x := l.getD 9 0) (at_getD (by have := hG; simp at this; omega)))) ?_
      refine l_g2 rfl rfl (fun hG => v_gtr (gd hG rfl) rfl) ?_
      refine l_g1 rfl rfl (fun hG => v_and (gd hG rfl) (gda hG rfl)) ?_
      refine l_v (v_or rfl rfl) ?_
      refine l_v (v_move (t := .bool _) rfl) ?_
      refine l_g1 rfl rfl (fun hG => v_move (t := .int _ _) rfl) ?_
      refine l_g1 rfl rfl (fun hG => v_gtr (gd hG rfl) rfl) ?_
      refine l_g1 rfl rfl (fun hG => v_move (t := .bool _) (gd hG rfl)) ?_
      refine l_g2 rfl rfl (fun hG => v_move (t := .slice _ _ _) rfl) ?_
      refine l_g2 rfl rfl (fun hG => v_move (t := .int _ _) rfl) ?_
      refine l_g2 rfl rfl (fun hG => v_indexAddr (et := 5) (sz := 1) (k := lead l) (by kernel_rfl) (by kernel_rfl) (gd hG rfl) (gd hG rfl) (by first | rfl | omega) (by have := hG; simp at this; omega)) ?_
      refine l_g2 rfl rfl (fun hG => v_load (by kernel_rfl) (gd hG rfl) (hv.at8 (k := lead l) (x := l.getD (lead l) 0) (at_getD (by have := hG; simp at this; omega)))) ?_
      refine l_g2 rfl rfl (fun hG => v_eql (gd hG rfl) rfl) ?_
      refine l_g1 rfl rfl (fun hG => v_and (gd hG rfl) (gda hG rfl)) ?_
      refine l_v (v_or rfl rfl) ?_
      refine l_nil ?_
      refine n_then ?_
      refine c_cond rfl rfl (fun hc2 => ?_) (fun hc2 => ?_)
      · skip
        refine c_seq ?_
        refine wp_reg (by decide +kernel) ?_
        refine l_v (v_assign rfl) ?_
        refine l_nil ?_
        refine n_then ?_
        refine c_ret ?_
        refine r_then ?_
        refine ret1 rfl (by decide) ?_
        refine ⟨?_, Keep.refl _⟩
        have hw : wholeN l = 0 := by
          rw [wholeN_lead, if_pos]
          simp only [Bool.or_eq_true, Bool.and_eq_true, decide_eq_true_eq] at hc2
          rcases hc2 with ((h | h) | h) | h
          · left; omega
          · right; left; omega
          · right; right; left; have h9 : lead l = 9 := by omega
            rw [h9]; exact ⟨rfl, by omega⟩
          · right; right; right; omega
        rw [hw]; rfl
      · skip
        have hlt : lead l < l.length := by
          rcases Nat.lt_or_ge (lead l) l.length with h | h
          · exact h
          · rw [show decide ((lead l : Int) = (l.length : Int)) = true from decide_eq_true (by omega)] at hc2
            cases hc2
        refine c_skip ?_
        refine n_then ?_
        refine c_seq ?_
        refine wp_reg (by decide +kernel) ?_
        refine l_v (v_move (t := .int _ _) rfl) ?_
        refine l_v (v_add rfl rfl (by first | exact wr_i64 (by omega) (by omega) | rfl)) ?_
        refine l_v (v_assign (t := .int _ _) rfl) ?_
        refine l_nil ?_
        refine n_then ?_
        refine c_ret ?_
        refine ret1 rfl (by decide) ?_
        refine ⟨?_, Keep.refl _⟩
        have hw : wholeN l = lead l + 1 := by
          rw [wholeN_lead, if_neg]
          intro hn
          have h3 : (decide ((lead l : Int) = (l.length : Int)) || decide ((9 : Int) < (lead l : Int)) || (decide ((lead l : Int) = 9) && decide ((1 : Int) < ((l.getD 9 0).toNat : Int))) || (decide ((0 : Int) < (lead l : Int)) && decide (((l.getD (lead l) 0).toNat : Int) = 0))) = true := by
            simp only [Bool.or_eq_true, Bool.and_eq_true, decide_eq_true_eq]
            rcases hn with h | h | h | h
            · left; left; left; omega
            · left; left; right; omega
            · left; right; have h9 := h.1; have h2 := h.2; rw [h9] at h2; exact ⟨by omega, by omega⟩
            · right; omega
          rw [h3] at hc2; cases hc2
        rw [hw]
        show Value.int _ ((lead l : Int) + 1) = _
        exact congrArg (Value.int _) (by omega)

abbrev nRf : Nat := 107
/-- the document's reader -/
def Rf (w : World) (b : Nat) (F : Nat → Prop) (l : List UInt8) : Prop := ∃ v, Blk w b [v] nRf ∧ Bv w F v l
theorem Rf.keep {w w' : World} {b : Nat} {F K : Nat → Prop} {l : List UInt8} (h : Rf w b F l) (k : Keep K w w') (h1 : ¬ K b) (h2 : ∀ b, F b → ¬ K b) : Rf w' b F l := by
  obtain ⟨v, hb, hv⟩ := h
  exact ⟨v, hb.keep k h1, hv.keep k (fun i _ hi => h2 i hi)⟩
theorem Rf.ext {w w' : World} {b : Nat} {F : Nat → Prop} {l : List UInt8} (h : Rf w b F l) (e : Ext w w') : Rf w' b F l := h.keep e (fun x => x) (fun _ _ x => x)
theorem refLeft_c {w : World} {b : Nat} {F : Nat → Prop} {l : List UInt8} (hr : Rf w b F l) : CallsR Try.prog 64 #[.pointer (some ⟨b, 0, none⟩)] w (fun r w' => r = .int .i64 l.length ∧ Ext w w') := by
  obtain ⟨v, hb, hv⟩ := hr
  obtain ⟨a, c, rfl⟩ := hv.shape
  refine enter 8 Try.func64 rfl rfl (by simp) ?_
  refine c_seq ?_
  refine wp_reg (by decide +kernel) ?_
  refine l_v (v_assign rfl) ?_
  refine l_nil ?_
  refine n_then ?_
  refine c_seq ?_
  refine wp_reg (by decide +kernel) ?_
  refine l_v (v_move (t := .pointer _) rfl) ?_
  refine l_v (v_nilCheck rfl) ?_
  refine l_v (v_fieldAddr (off := 0) (ft := 31) (by kernel_rfl) rfl) ?_
  refine l_v (v_load (by kernel_rfl) rfl (hb.pv 0 _ rfl)) ?_
  refine l_v (v_len (et := 5) (by kernel_rfl) rfl) ?_
  refine l_v (v_assign (t := .int _ _) rfl) ?_
  refine l_nil ?_
  refine n_then ?_
  refine c_ret ?_
  refine ret1 rfl (by decide) ?_
  exact ⟨rfl, Keep.refl _⟩
theorem refRNumber_c {w : World} {b : Nat} {F : Nat → Prop} {l : List UInt8} (hr : Rf w b F l) (hF : ¬ F b) : CallsR Try.prog 76 #[.pointer (some ⟨b, 0, none⟩)] w (fun r w' => r = numV l ∧ Rf w' b F (rest l) ∧ Keep (fun k => k = b) w w') := by
  obtain ⟨v, hb, hv⟩ := hr
  obtain ⟨a, c, rfl⟩ := hv.shape
  have hwl := wholeN_le l
  have hnw := rdNum_whole (l := l)
  obtain ⟨w0, rfl⟩ : ∃ x, x = w := ⟨w, rfl⟩
  refine enter 42 Try.func76 rfl rfl (by simp) ?_
  refine c_seq ?_
  refine wp_reg (by decide +kernel) ?_
  refine l_v (v_assign rfl) ?_
  refine l_v (v_assign rfl) ?_
  refine l_nil ?_
  refine n_then ?_
  refine c_seq ?_
  refine wp_reg (by decide +kernel) ?_
  refine l_v (v_move (t := .pointer _) rfl) ?_
  refine l_v (v_nilCheck rfl) ?_
  refine l_v (v_fieldAddr (off := 0) (ft := 31) (by kernel_rfl) rfl) ?_
  refine l_v (v_load (by kernel_rfl) rfl (hb.pv 0 _ rfl)) ?_
  refine l_to (to_f1 (by kernel_rfl) (show _ = (Value.slice _ _ _) from rfl) (CallsR.mono (whole_c hv) ?_))
  rintro _ w1 ⟨rfl, e1⟩
  have zs_e1 := e1.size
  refine l_v (v_assign (t := .int _ _) rfl) ?_
  refine l_nil ?_
  refine n_then ?_
  refine c_seq ?_
  refine c_seq ?_
  refine wp_reg (by decide +kernel) ?_
  refine l_v (v_move (t := .int _ _) rfl) ?_
  refine l_v (v_eql rfl rfl) ?_
  refine l_nil ?_
  refine n_then ?_
  refine c_cond rfl rfl (fun hc => ?_) (fun hc => ?_)
  · skip
    have hz : wholeN l = 0 := by have := dtrue hc; omega
    rw [if_pos hz] at hnw
    refine c_seq ?_
    refine wp_reg (by decide +kernel) ?_
    refine l_v (v_assign rfl) ?_
    refine l_v (v_assign rfl) ?_
    refine l_nil ?_
    refine n_then ?_
    refine c_ret ?_
    refine r_then ?_
    refine ret2 rfl (by decide) (by decide) ?_
    refine ⟨by rw [numV, hnw]; rfl, ?_, e1.keep⟩
    rw [rest, hnw]; exact ⟨_, hb.ext e1, hv.ext e1⟩
  · skip
    have hz : ¬ wholeN l = 0 := by have := dfalse hc; omega
    rw [if_neg hz] at hnw
    have hlt := rdNum_lt hnw
    refine c_skip ?_
    refine n_then ?_
    refine c_seq ?_
    refine wp_reg (by decide +kernel) ?_
    refine l_v (v_assign rfl) ?_
    refine l_nil ?_
    refine n_then ?_
    refine c_seq ?_
    refine c_seq ?_
    refine wp_reg (by decide +kernel) ?_
    refine l_v (v_move (t := .int _ _) rfl) ?_
    refine l_v (v_sub rfl rfl (by first | exact wr_i64 (by omega) (by omega) | rfl)) ?_
    refine l_v (v_assign (t := .int _ _) rfl) ?_
    refine l_nil ?_
    refine n_then ?_
    refine c_block ?_
    refine c_loop (τ := Nat) [5, 6, 16, 17, 18, 19, 20, 21, 22, 23, 24, 25, 26, 27, 28, 29, 30, 31] (fun k => [(5, .int .u64 (dig ((l.take (wholeN l)).drop k) : Nat)), (6, .int .i64 ((k : Int) - 1))]) (fun k w => w = w1 ∧ k ≤ wholeN l) (fun k => k) (wholeN l) (by exact ⟨congrArg (fun n : Nat => Value.int .u64 (n : Int)) (show 0 = dig _ by rw [List.drop_eq_nil_of_le (by simp; omega)]; rfl), rfl, trivial⟩) (by exact ⟨rfl, Nat.le_refl _⟩) ?_
    rintro k w2 j ⟨rfl, h2⟩
    refine c_seq ?_
    refine c_seq ?_
    refine wp_reg (by decide +kernel) ?_
    refine l_v (v_move (t := .int _ _) rfl) ?_
    refine l_v (v_geq rfl rfl) ?_
    refine l_nil ?_
    refine n_then ?_
    refine c_cond rfl rfl (fun hd => ?_) (fun hd => ?_)
    · skip
      have hd := dtrue hd
      obtain ⟨x, hx⟩ : ∃ x, l[k - 1]? = some x := ⟨l[k - 1]'(by omega), by simp [show k - 1 < l.length by omega]⟩
      have hdg := dig_take hx (show k - 1 < wholeN l by omega)
      have hdl := dig_drop_le (l.take (wholeN l)) (k - 1)
      rw [show k - 1 + 1 = k by omega] at hdg
      refine c_skip ?_
      refine n_then ?_
      refine c_seq ?_
      refine c_block ?_
      refine wp_reg (by decide +kernel) ?_
      refine l_v (v_move (t := .int _ _) rfl) ?_
      refine l_v (v_mul rfl rfl (by first | exact wr_u64 (by omega) (by omega) | rfl)) ?_
      refine l_v (v_move (t := .pointer _) rfl) ?_
      refine l_v (v_nilCheck rfl) ?_
      refine l_v (v_fieldAddr (off := 0) (ft := 31) (by kernel_rfl) rfl) ?_
      refine l_v (v_load (by kernel_rfl) rfl ((hb.ext e1).pv 0 _ rfl)) ?_
      refine l_v (v_move (t := .int _ _) rfl) ?_
      refine l_to (to_index (et := 5) (by kernel_rfl) (by kernel_rfl) (show _ = (Value.slice _ _ _) from rfl) (hv.ext e1) (show _ = (Value.int _ _) from rfl) (by omega) hx ?_)
      rintro q cs hFq hp hrep
      refine l_v (v_load (by kernel_rfl) rfl (pv_u8 hp hrep)) ?_
      refine l_v (v_rem rfl rfl (by decide) (by first | exact tm_nn (by omega) | rfl)) ?_
      refine l_v (v_conv (ds := .int .u8) (by kernel_rfl) (by kernel_rfl) rfl (by first | exact wr_u64 (by omega) (by omega) | rfl)) ?_
      refine l_v (v_add rfl rfl (by first | exact wr_u64 (by omega) (by omega) | rfl)) ?_
      refine l_v (v_assign (t := .int _ _) rfl) ?_
      refine l_nil ?_
      refine n_blk ?_
      refine n_then ?_
      refine wp_reg (by decide +kernel) ?_
      refine l_v (v_move (t := .int _ _) rfl) ?_
      refine l_v (v_sub rfl rfl (by first | exact wr_i64 (by omega) (by omega) | rfl)) ?_
      refine l_v (v_assign (t := .int _ _) rfl) ?_
      refine l_nil ?_
      refine n_then ?_
      refine ⟨k - 1, _, rfl, by (repeat (first | exact Off.of_over _ _ _ | refine Off.upd ?_ (by decide) _ | refine Off.overs ?_ (by decide) _)), ⟨by first | rfl | exact congrArg (Value.int _) (by omega) | (simp; done), by first | rfl | exact congrArg (Value.int _) (by omega) | (simp; done), trivial⟩, ?_, ?_⟩
      · exact ⟨rfl, by omega⟩
      · dsimp only; omega
    · skip
      have hk0 : k = 0 := by have := dfalse hd; omega
      subst hk0
      refine c_exit ?_
      refine x_then ?_
      refine x_then ?_
      refine x_hit ?_
      refine n_then ?_
      refine c_seq ?_
      refine wp_reg (by decide +kernel) ?_
      refine l_v (v_move (t := .pointer _) rfl) ?_
      refine l_v (v_move (t := .pointer _) rfl) ?_
      refine l_v (v_nilCheck rfl) ?_
      refine l_v (v_fieldAddr (off := 0) (ft := 31) (by kernel_rfl) rfl) ?_
      refine l_v (v_load (by kernel_rfl) rfl ((hb.ext e1).pv 0 _ rfl)) ?_
      refine l_v (v_move (t := .int _ _) rfl) ?_
      refine l_to (to_slice (et := 5) (l := wholeN l) (h := l.length) (by kernel_rfl) (by kernel_rfl) (show _ = (Value.slice _ _ _) from rfl) (hv.ext e1) ⟨_, by exact rfl⟩ rfl (by first | omega | (simp; done) | (simp; omega)) (by first | omega | (simp; done) | (simp; omega)) ?_)
      rintro a2 n2 c2 h2s rfl hn2
      rw [List.take_length] at h2s
      refine l_v (v_nilCheck rfl) ?_
      refine l_v (v_fieldAddr (off := 0) (ft := 31) (by kernel_rfl) rfl) ?_
      refine l_to (to_store rfl rfl (show _ = (Value.slice _ _ _) from rfl) rfl (by kernel_rfl) (hb.ext e1) (by simp) ?_)
      rintro w3 h3 k3 z3
      have zs_k3 := k3.size
      refine l_nil ?_
      refine n_then ?_
      refine c_seq ?_
      refine wp_reg (by decide +kernel) ?_
      refine l_v (v_move (t := .int _ _) rfl) ?_
      refine l_v (v_assign (t := .int _ _) rfl) ?_
      refine l_v (v_assign rfl) ?_
      refine l_nil ?_
      refine n_then ?_
      refine c_ret ?_
      refine ret2 rfl (by decide) (by decide) ?_
      refine ⟨by rw [numV, hnw]; rfl, ?_, e1.keep.trans k3⟩
      have hrl : l.length - wholeN l = (l.drop (wholeN l)).length := by simp
      rw [hrl] at h2s h3
      rw [rest, hnw]
      exact ⟨_, h3, h2s.keep k3 fun b' _ hb' he => hF (by subst he; exact hb')⟩
/-- a number, at most so great -/
theorem many_c {w : World} {b : Nat} {F : Nat → Prop} {l : List UInt8} {most : Int} (hr : Rf w b F l) (hF : ¬ F b) (hm : 0 ≤ most) (hm2 : most ≤ 9223372036854775807) : CallsR Try.prog 77 #[.pointer (some ⟨b, 0, none⟩), .int .i64 most] w (fun r w' => (∃ (n : Nat) (e : Int), r = .tuple #[.int .u64 n, .int .i64 e] ∧ n < 18446744073709551616 ∧ ((e = 0 ∧ rdNum l = some (n, rest l) ∧ n ≤ most.toNat) ∨ (e = 3 ∧ n = 0 ∧ ∃ m, rdNum l = some (m, rest l) ∧ ¬ m ≤ most.toNat) ∨ (e = 4 ∧ n = 0 ∧ rdNum l = none))) ∧ Rf w' b F (rest l) ∧ Keep (fun k => k = b) w w') := by
  obtain ⟨n, e, hn, hnl, hnx⟩ := numV_any l
  refine enter 23 Try.func77 rfl rfl (by simp) ?_
  refine c_seq ?_
  refine wp_reg (by decide +kernel) ?_
  refine l_v (v_assign rfl) ?_
  refine l_v (v_assign rfl) ?_
  refine l_nil ?_
  refine n_then ?_
  refine c_seq ?_
  refine wp_reg (by decide +kernel) ?_
  refine l_v (v_move (t := .pointer _) rfl) ?_
  refine l_to (to_f1 (by kernel_rfl) (show _ = (Value.pointer _) from rfl) (CallsR.mono (refRNumber_c hr hF) ?_))
  rintro r w1 ⟨hr1, r1, k1⟩
  have zs_k1 := k1.size
  rw [hn] at hr1
  subst hr1
  refine l_v (v_move (t := .tuple _) rfl) ?_
  refine l_v (v_extract (t := .int _ _) rfl rfl) ?_
  refine l_v (v_extract (t := .int _ _) rfl rfl) ?_
  refine l_v (v_assign (t := .int _ _) rfl) ?_
  refine l_v (v_assign (t := .int _ _) rfl) ?_
  refine l_nil ?_
  refine n_then ?_
  refine c_seq ?_
  refine c_seq ?_
  refine wp_reg (by decide +kernel) ?_
  refine l_v (v_move (t := .int _ _) rfl) ?_
  refine l_v (v_eql rfl rfl) ?_
  refine l_v (v_move (t := .bool _) rfl) ?_
  refine l_g1 rfl rfl (fun hG => v_move (t := .int _ _) rfl) ?_
  refine l_g1 rfl rfl (fun hG => v_move (t := .int _ _) rfl) ?_
  refine l_g1 rfl rfl (fun hG => v_conv (ds := .int .i64) (by kernel_rfl) (by kernel_rfl) (gd hG rfl) (by first | exact wr_u64 (by omega) (by omega) | rfl)) ?_
  refine l_g1 rfl rfl (fun hG => v_gtr (gd hG rfl) (gd hG rfl)) ?_
  refine l_v (v_and rfl rfl) ?_
  refine l_nil ?_
  refine n_then ?_
  refine c_cond rfl rfl (fun hc => ?_) (fun hc => ?_)
  · skip
    refine c_seq ?_
    refine wp_reg (by decide +kernel) ?_
    refine l_v (v_assign rfl) ?_
    refine l_v (v_assign rfl) ?_
    refine l_nil ?_
    refine n_then ?_
    refine c_ret ?_
    refine r_then ?_
    refine ret2 rfl (by decide) (by decide) ?_
    simp only [Bool.and_eq_true, decide_eq_true_eq] at hc
    refine ⟨⟨0, 3, rfl, by omega, .inr (.inl ⟨rfl, rfl, n, ?_, by omega⟩)⟩, r1, k1⟩
    rcases hnx with ⟨_, _, hd⟩ | ⟨he, _⟩
    · exact hd
    · omega
  · skip
    refine c_skip ?_
    refine n_then ?_
    refine c_seq ?_
    refine wp_reg (by decide +kernel) ?_
    refine l_v (v_move (t := .int _ _) rfl) ?_
    refine l_v (v_move (t := .int _ _) rfl) ?_
    refine l_v (v_assign (t := .int _ _) rfl) ?_
    refine l_v (v_assign (t := .int _ _) rfl) ?_
    refine l_nil ?_
    refine n_then ?_
    refine c_ret ?_
    refine ret2 rfl (by decide) (by decide) ?_
    refine ⟨⟨n, e, rfl, hnl, ?_⟩, r1, k1⟩
    rcases hnx with ⟨he, _, hd⟩ | ⟨he, hn0, _, hd⟩
    · refine .inl ⟨he, hd, ?_⟩
      rcases Nat.lt_or_ge most.toNat n with h | h
      · rw [show decide (e = 0) = true from decide_eq_true he, show decide (most < (n : Int)) = true from decide_eq_true (by omega)] at hc
        cases hc
      · exact h
    · exact .inr (.inr ⟨he, hn0, hd⟩)
/-- what the document's reader hands back -/
def TryF {α : Type} (t : Ty α) (w w' : World) (b : Nat) (F : Nat → Prop) (l : List UInt8) : Except Int (List α × List UInt8) → Value → Prop
  | .ok (x, l2), r => ∃ a c, r = .tuple #[.slice a x.length c, .int .i64 0] ∧ SlV t w' (fun k => w.heap.size ≤ k) (.slice a x.length c) x ∧ Rf w' b F l2
  | .error e, r => e ≠ 0 ∧ r = .tuple #[.slice none 0 0, .int .i64 e] ∧ Rf w' b F l
theorem TryF_any {α : Type} {t : Ty α} {w w' : World} {b : Nat} {F : Nat → Prop} {l : List UInt8} {q : Except Int (List α × List UInt8)} {r : Value} (h : TryF t w w' b F l q r) :
    ∃ (a : Option Addr) (c : Nat) (e : Int) (xs : List α) (l2 : List UInt8), r = .tuple #[.slice a xs.length c, .int .i64 e] ∧ SlV t w' (fun k => w.heap.size ≤ k) (.slice a xs.length c) xs ∧ Rf w' b F l2 ∧ ((e = 0 ∧ q = .ok (xs, l2)) ∨ (e ≠ 0 ∧ xs = [] ∧ l2 = l ∧ q = .error e)) := by
  match q, h with
  | .ok (x, l2), ⟨a, c, hr, h1, h2⟩ => exact ⟨a, c, 0, x, l2, hr, h1, h2, .inl ⟨rfl, rfl⟩⟩
  | .error e, ⟨he, hr, h2⟩ => exact ⟨none, 0, e, [], l, hr, SlV.nil _ _ _, h2, .inr ⟨he, rfl, rfl, rfl⟩⟩

theorem refRBytes_c {w : World} {b : Nat} {F : Nat → Prop} {l : List UInt8} {most : Int} (hr : Rf w b F l) (hF : ∀ k, F k → k < w.heap.size) (hFb : ¬ F b) (hm : 0 ≤ most) (hm2 : most ≤ 9223372036854775807) (hl : l.length ≤ 140737488355300) : CallsR Try.prog 63 #[.pointer (some ⟨b, 0, none⟩), .int .i64 most] w (fun r w' => TryF tU8 w w' b F l (rdBytes most.toNat l) r ∧ Keep (fun k => k = b) w w') := by
  obtain ⟨v, hb, hv⟩ := hr
  obtain ⟨a, c, rfl⟩ := hv.shape
  have hblt := hb.lt
  refine enter 56 Try.func63 rfl rfl (by simp) ?_
  refine c_seq ?_
  refine wp_reg (by decide +kernel) ?_
  refine l_v (v_assign rfl) ?_
  refine l_v (v_assign rfl) ?_
  refine l_nil ?_
  refine n_then ?_
  refine c_seq ?_
  refine wp_reg (by decide +kernel) ?_
  refine l_v (v_move (t := .pointer _) rfl) ?_
  refine l_v (v_nilCheck rfl) ?_
  refine l_v (v_fieldAddr (off := 0) (ft := 31) (by kernel_rfl) rfl) ?_
  refine l_v (v_load (by kernel_rfl) rfl (hb.pv 0 _ rfl)) ?_
  refine l_v (v_assign (t := .slice _ _ _) rfl) ?_
  refine l_nil ?_
  refine n_then ?_
  refine c_seq ?_
  refine wp_reg (by decide +kernel) ?_
  refine l_v (v_move (t := .pointer _) rfl) ?_
  refine l_v (v_move (t := .int _ _) rfl) ?_
  refine l_to (to_f2 (by kernel_rfl) (show _ = (Value.pointer _) from rfl) (show _ = (Value.int _ _) from rfl) (CallsR.mono (many_c ⟨_, hb, hv⟩ hFb hm hm2) ?_))
  rintro r w1 ⟨⟨n, e, hr1, hnl, hnx⟩, r1, k1⟩
  have zs_k1 := k1.size
  subst hr1
  obtain ⟨v1, hb1, hv1⟩ := r1
  obtain ⟨a1, c1, rfl⟩ := hv1.shape
  have hmx := hv1.max
  simp only [maxLen] at hmx
  have hv' := hv.keep k1 (fun i hi h he => hFb (by subst he; exact h))
  have hq : rdBytes most.toNat l = (if e = 0 then (if n ≤ (rest l).length then .ok ((rest l).take n, (rest l).drop n) else .error 4) else .error e) := by
    rw [rdBytes, tryRd]
    rcases hnx with ⟨he, hd, hle⟩ | ⟨he, hn0, m, hd, hle⟩ | ⟨he, hn0, hd⟩
    · rw [hd, if_pos he]; simp only [if_pos hle, rdSome]
    · rw [hd, he]; simp only [if_neg hle]; rfl
    · rw [hd, he]; rfl
  refine l_v (v_move (t := .tuple _) rfl) ?_
  refine l_v (v_extract (t := .int _ _) rfl rfl) ?_
  refine l_v (v_extract (t := .int _ _) rfl rfl) ?_
  refine l_v (v_assign (t := .int _ _) rfl) ?_
  refine l_v (v_assign (t := .int _ _) rfl) ?_
  refine l_nil ?_
  refine n_then ?_
  refine c_seq ?_
  refine c_seq ?_
  refine wp_reg (by decide +kernel) ?_
  refine l_v (v_move (t := .int _ _) rfl) ?_
  refine l_v (v_eql rfl rfl) ?_
  refine l_v (v_move (t := .bool _) rfl) ?_
  refine l_g1 rfl rfl (fun hG => v_move (t := .int _ _) rfl) ?_
  refine l_g1 rfl rfl (fun hG => v_move (t := .pointer _) rfl) ?_
  refine l_g1 rfl rfl (fun hG => v_nilCheck (gd hG rfl)) ?_
  refine l_g1 rfl rfl (fun hG => v_fieldAddr (off := 0) (ft := 31) (by kernel_rfl) (gd hG rfl)) ?_
  refine l_g1 rfl rfl (fun hG => v_load (by kernel_rfl) (gd hG rfl) (hb1.pv 0 _ rfl)) ?_
  refine l_g1 rfl rfl (fun hG => v_len (et := 5) (by kernel_rfl) (gd hG rfl)) ?_
  refine l_g1 rfl rfl (fun hG => v_conv (ds := .int .i64) (by kernel_rfl) (by kernel_rfl) (gd hG rfl) (by first | exact wr_u64 (by omega) (by omega) | rfl)) ?_
  refine l_g1 rfl rfl (fun hG => v_gtr (gd hG rfl) (gd hG rfl)) ?_
  refine l_v (v_and rfl rfl) ?_
  refine l_nil ?_
  refine n_then ?_
  refine c_cond rfl rfl (fun hc => ?_) (fun hc => ?_)
  · skip
    simp only [Bool.and_eq_true, decide_eq_true_eq] at hc
    refine wp_reg (by decide +kernel) ?_
    refine l_v (v_assign rfl) ?_
    refine l_nil ?_
    refine n_then ?_
    refine c_seq ?_
    refine c_seq ?_
    refine wp_reg (by decide +kernel) ?_
    refine l_v (v_move (t := .int _ _) rfl) ?_
    refine l_v (v_neq rfl rfl) ?_
    refine l_nil ?_
    refine n_then ?_
    refine c_cond rfl rfl (fun hc5 => ?_) (fun hc5 => ?_)
    · skip
      refine c_seq ?_
      refine wp_reg (by decide +kernel) ?_
      refine l_v (v_move (t := .pointer _) rfl) ?_
      refine l_v (v_move (t := .slice _ _ _) rfl) ?_
      refine l_v (v_nilCheck rfl) ?_
      refine l_v (v_fieldAddr (off := 0) (ft := 31) (by kernel_rfl) rfl) ?_
      refine l_to (to_store rfl rfl (show _ = (Value.slice _ _ _) from rfl) rfl (by kernel_rfl) hb1 (by simp) ?_)
      rintro w2 h2 k2 z2
      have zs_k2 := k2.size
      refine l_nil ?_
      refine n_then ?_
      refine c_seq ?_
      refine wp_reg (by decide +kernel) ?_
      refine l_v (v_move (t := .int _ _) rfl) ?_
      refine l_v (v_assign rfl) ?_
      refine l_v (v_assign (t := .int _ _) rfl) ?_
      refine l_nil ?_
      refine n_then ?_
      refine c_ret ?_
      refine r_then ?_
      refine ret2 rfl (by decide) (by decide) ?_
      rw [hq, if_pos hc.1, if_neg (by omega)]
      exact ⟨⟨by decide, rfl, _, h2, hv'.keep k2 fun i hi h he => hFb (by subst he; exact h)⟩, k1.trans k2⟩
    · skip
      simp at hc5
  · skip
    refine c_skip ?_
    refine n_then ?_
    refine c_seq ?_
    refine c_seq ?_
    refine wp_reg (by decide +kernel) ?_
    refine l_v (v_move (t := .int _ _) rfl) ?_
    refine l_v (v_neq rfl rfl) ?_
    refine l_nil ?_
    refine n_then ?_
    refine c_cond rfl rfl (fun hc5 => ?_) (fun hc5 => ?_)
    · skip
      have he : e ≠ 0 := by simpa using hc5
      refine c_seq ?_
      refine wp_reg (by decide +kernel) ?_
      refine l_v (v_move (t := .pointer _) rfl) ?_
      refine l_v (v_move (t := .slice _ _ _) rfl) ?_
      refine l_v (v_nilCheck rfl) ?_
      refine l_v (v_fieldAddr (off := 0) (ft := 31) (by kernel_rfl) rfl) ?_
      refine l_to (to_store rfl rfl (show _ = (Value.slice _ _ _) from rfl) rfl (by kernel_rfl) hb1 (by simp) ?_)
      rintro w2 h2 k2 z2
      have zs_k2 := k2.size
      refine l_nil ?_
      refine n_then ?_
      refine c_seq ?_
      refine wp_reg (by decide +kernel) ?_
      refine l_v (v_move (t := .int _ _) rfl) ?_
      refine l_v (v_assign rfl) ?_
      refine l_v (v_assign (t := .int _ _) rfl) ?_
      refine l_nil ?_
      refine n_then ?_
      refine c_ret ?_
      refine r_then ?_
      refine ret2 rfl (by decide) (by decide) ?_
      rw [hq, if_neg he]
      exact ⟨⟨he, rfl, _, h2, hv'.keep k2 fun i hi h he => hFb (by subst he; exact h)⟩, k1.trans k2⟩
    · skip
      have he : e = 0 := by simpa using hc5
      have hle : n ≤ (rest l).length := by
        rcases Nat.lt_or_ge (rest l).length n with h | h
        · rw [show decide (e = 0) = true from decide_eq_true he, show decide (((rest l).length : Int) < (n : Int)) = true from decide_eq_true (by omega)] at hc
          cases hc
        · exact h
      have hrl : (rest l).length ≤ l.length := by
        rcases hnx with ⟨_, hd, _⟩ | ⟨h, _⟩ | ⟨h, _⟩
        · have := rdNum_form hd; have h2 := congrArg List.length this; rw [List.length_append] at h2; omega
        · omega
        · omega
      refine c_skip ?_
      refine n_then ?_
      refine c_seq ?_
      refine wp_reg (by decide +kernel) ?_
      refine l_v (v_move (t := .pointer _) rfl) ?_
      refine l_v (v_nilCheck rfl) ?_
      refine l_v (v_fieldAddr (off := 0) (ft := 31) (by kernel_rfl) rfl) ?_
      refine l_v (v_load (by kernel_rfl) rfl (hb1.pv 0 _ rfl)) ?_
      refine l_v (v_move (t := .int _ _) rfl) ?_
      refine l_to (to_slice (et := 5) (l := 0) (h := n) (by kernel_rfl) (by kernel_rfl) (show _ = (Value.slice _ _ _) from rfl) hv1 rfl ⟨_, by exact rfl⟩ (by first | omega | (simp; done) | (simp; omega)) (by first | omega | (simp; done) | (simp; omega)) ?_)
      rintro a2 n2 c2 h2s rfl hn2
      rw [List.drop_zero] at h2s
      have hn0 : n - 0 = ((rest l).take n).length := by simp; omega
      rw [hn0] at h2s ⊢
      refine l_to (to_append (et := 5) (bytes := 1) (by kernel_rfl) (show _ = (Value.slice _ _ _) from rfl) (OwV.nil _ nU8 _ w1.heap.size NoK) (show _ = (Value.slice _ _ _) from rfl) h2s (flat_u8.to) (by first | omega | (simp; done) | (simp; omega)) (by simp only [maxLen]; first | omega | (simp; done) | (simp; omega)) (by omega) ?_)
      rintro a3 n3 c3 w3 o3 hn3 k3 b3 i3
      have zs_k3 := k3.size
      subst hn3
      rw [List.nil_append] at o3 ⊢
      have e3 : Ext w1 w3 := k3.mono fun b _ h => by simp [Value.ownBlock] at h
      refine l_v (v_assign (t := .slice _ _ _) rfl) ?_
      refine l_nil ?_
      refine n_then ?_
      refine c_seq ?_
      refine wp_reg (by decide +kernel) ?_
      refine l_v (v_move (t := .pointer _) rfl) ?_
      refine l_v (v_move (t := .pointer _) rfl) ?_
      refine l_v (v_nilCheck rfl) ?_
      refine l_v (v_fieldAddr (off := 0) (ft := 31) (by kernel_rfl) rfl) ?_
      refine l_v (v_load (by kernel_rfl) rfl ((hb1.ext e3).pv 0 _ rfl)) ?_
      refine l_v (v_move (t := .int _ _) rfl) ?_
      refine l_to (to_slice (et := 5) (l := n) (h := (rest l).length) (by kernel_rfl) (by kernel_rfl) (show _ = (Value.slice _ _ _) from rfl) (hv1.ext e3) ⟨_, by exact rfl⟩ rfl (by first | omega | (simp; done) | (simp; omega)) (by first | omega | (simp; done) | (simp; omega)) ?_)
      rintro a4 n4 c4 h4s rfl hn4
      rw [List.take_length] at h4s
      refine l_v (v_nilCheck rfl) ?_
      refine l_v (v_fieldAddr (off := 0) (ft := 31) (by kernel_rfl) rfl) ?_
      refine l_to (to_store rfl rfl (show _ = (Value.slice _ _ _) from rfl) rfl (by kernel_rfl) (hb1.ext e3) (by simp) ?_)
      rintro w5 h5 k5 z5
      have zs_k5 := k5.size
      refine l_nil ?_
      refine n_then ?_
      refine c_seq ?_
      refine wp_reg (by decide +kernel) ?_
      refine l_v (v_move (t := .slice _ _ _) rfl) ?_
      refine l_v (v_assign (t := .slice _ _ _) rfl) ?_
      refine l_v (v_assign rfl) ?_
      refine l_nil ?_
      refine n_then ?_
      refine c_ret ?_
      refine ret2 rfl (by decide) (by decide) ?_
      rw [hq, if_pos he, if_pos hle]
      have hrl2 : (rest l).length - n = ((rest l).drop n).length := by simp
      rw [hrl2] at h4s h5
      refine ⟨⟨a3, c3, rfl, ?_, _, h5, h4s.keep k5 fun i hi h he => hFb (by subst he; exact h)⟩, (k1.trans (e3.mono fun _ _ h => h.elim)).trans k5⟩
      have zs := k1.size
      exact ((o3.view.keep k5 (fun i hi h he => by rcases h with h | h; omega; exact h)).mono fun i _ h => by rcases h with h | h; omega; exact h.elim)
end Go.Proofs.Ytlhanmlpionomaa
