/- A part of the proof: steps and lemmas for the walks through the given program. -/
import Derived.Test.YtogafjlbpodgjaaGreatGw
import Derived.Test.YtogafjlbpodgjaaGreatGd
import Derived.Test.YtogafjlbpodgjaaGreatGc
namespace Go.Proofs.YtogafjlbpodgjaaGreat
open Go.Vc
set_option linter.unusedVariables false
set_option linter.unusedSimpArgs false
set_option maxRecDepth 100000

theorem refBytes_c {w : World} {v : Value} {F : Nat → Prop} {l : List UInt8} (hv : Bv w F v l) (hl : l.length ≤ 140737488355300) : CallsR Tryz.prog 31 #[v] w (fun r w' => OwV tU8 nU8 w' w.heap.size NoK r (wBytes l) ∧ (∃ q c, r = .slice (some q) (wBytes l).length c) ∧ Ext w w') := by
  obtain ⟨a, c, rfl⟩ := hv.shape
  have hw := wNum_len10 (n := l.length) zo
  refine enter 9 Tryz.func31 rfl rfl (by simp) ?_
  refine c_seq (wp_reg zd (l_v (v_assign rfl) (l_nil (n_then (c_seq (wp_reg zd (l_v (zmS rfl) (l_v (v_len (et := 5) zk rfl) ?_))))))))
  refine l_v (v_conv (ds := .int .i64) zk zk rfl (by first | exact wr_u64 zo zo | rfl)) ?_
  refine l_to (to_f1 zk (zvI rfl) (CallsR.mono (refNumber_c (n := l.length) rfl zo) ?_))
  rintro _ w1 ⟨o1, ⟨q1, c1, rfl⟩, e1⟩
  have zs_e1 := e1.size
  refine l_v (zmS rfl) (l_to (to_append (et := 5) (bytes := 1) zk (zvS rfl) o1 (zvS rfl) (hv.ext e1) (flat_u8.to) (by first | omega | (simp; done) | (simp; omega)) (by simp only [maxLen]; first | omega | (simp; done) | (simp; omega)) zo ?_))
  rintro a3 n3 c3 w3 o3 hn3 k3 b3 i3
  have zs_k3 := k3.size
  subst hn3
  have kk3 : Ext w w3 := e1.step k3 fun b hb h => by have := (o1.own_lt h).1; omega
  refine l_v (zaS rfl) (l_nil (n_then (c_ret (ret1 rfl zq ?_))))
  refine ⟨o3, ?_, kk3⟩
  cases a3 with
  | some q => exact ⟨q, c3, rfl⟩
  | none => exact absurd (i3.1 rfl).1 (by simp)
abbrev nSl : Nat := 24
theorem OwV_sep {α β : Type} {t : Ty α} {t' : Ty β} {e : TypeId} {w0 w : World} {B : Nat} {F G : Nat → Prop} {v : Value} {ys : List α} (o : OwV t e w0 B F v ys) (hm : ∀ b, G b → w0.heap.size ≤ b) (hB : B ≤ w0.heap.size) :
    ∀ cs x, t'.rep w G cs x → t'.rep w (fun b => B ≤ b ∧ v.ownBlock ≠ some b) cs x := fun cs x h =>
  t'.mono h fun b _ hb => ⟨Nat.le_trans hB (hm b hb), fun he => by have := (o.own_lt he).2; have := hm b hb; omega⟩
/-- a list's form -/
def wList {α : Type} (sp : α → List UInt8) (xs : List α) : List UInt8 := wNum xs.length ++ (xs.map sp).flatten

/-- so many things, one behind the other -/
def rdList {α : Type} (ρ : List UInt8 → Except Int (α × List UInt8)) : Nat → List UInt8 → Except Int (List α × List UInt8)
  | 0, l => .ok ([], l)
  | n + 1, l => match ρ l with
    | .error e => .error e
    | .ok (x, l2) => match rdList ρ n l2 with
      | .error e => .error e
      | .ok (xs, l3) => .ok (x :: xs, l3)
def bindL {α : Type} (xs : List α) : Except Int (List α × List UInt8) → Except Int (List α × List UInt8)
  | .error e => .error e
  | .ok (ys, l) => .ok (xs ++ ys, l)
theorem bindL_nil {α : Type} (r : Except Int (List α × List UInt8)) : bindL [] r = r := by cases r <;> rfl
theorem rdList_ok {α : Type} {ρ : List UInt8 → Except Int (α × List UInt8)} {n : Nat} {l l2 : List UInt8} {x : α} {xs : List α} (h : ρ l = .ok (x, l2)) : bindL xs (rdList ρ (n + 1) l) = bindL (xs ++ [x]) (rdList ρ n l2) := by
  rw [rdList, h]
  simp only []
  cases rdList ρ n l2 with
  | error e => rfl
  | ok q => simp [bindL]
theorem rdList_err {α : Type} {ρ : List UInt8 → Except Int (α × List UInt8)} {n : Nat} {l : List UInt8} {e : Int} {xs : List α} (h : ρ l = .error e) : bindL xs (rdList ρ (n + 1) l) = .error e := by
  rw [rdList, h]; rfl

theorem TryV_any {α : Type} {t : Ty α} {et eR : TypeId} {w w' : World} {b : Nat} {F : Nat → Prop} {l : List UInt8} {q : Except Int (List α × List UInt8)} {r : Value} (h : TryV t et eR w w' b F l q r) :
    ∃ (a : Option Addr) (c : Nat) (e : Int) (xs : List α) (l2 : List UInt8), r = .tuple #[.slice a xs.length c, .int .i64 e] ∧ OwV t et w' w.heap.size (fun k => w.heap.size ≤ k) (.slice a xs.length c) xs ∧ Rd eR w' b F l2 ∧ ((e = 0 ∧ q = .ok (xs, l2)) ∨ (e ≠ 0 ∧ xs = [] ∧ l2 = l ∧ a = none ∧ c = 0 ∧ q = .error e)) := by
  match q, h with
  | .ok (x, l2), ⟨a, c, hr, h1, h2⟩ => exact ⟨a, c, 0, x, l2, hr, h1, h2, .inl ⟨rfl, rfl⟩⟩
  | .error e, ⟨he, hr, h2⟩ => exact ⟨none, 0, e, [], l, hr, OwV.nil _ _ _ _ _, h2, .inr ⟨he, rfl, rfl, rfl, rfl, rfl⟩⟩

end Go.Proofs.YtogafjlbpodgjaaGreat

namespace Go.Proofs.YtogafjlbpodgjaaGreat
open Go.Vc
set_option linter.unusedVariables false
set_option linter.unusedSimpArgs false
set_option maxRecDepth 100000

theorem numV_any (l : List UInt8) : ∃ (n : Nat) (e : Int), numV l = .tuple #[.int .u64 n, .int .i64 e] ∧ n < 18446744073709551616 ∧ ((e = 0 ∧ l = wNum n ++ rest l ∧ rdNum l = some (n, rest l)) ∨ (e = 4 ∧ n = 0 ∧ rest l = l ∧ rdNum l = none)) := by
  rcases hd : rdNum l with _ | ⟨n, r⟩
  · exact ⟨0, 4, by rw [numV, hd]; rfl, by omega, .inr ⟨rfl, rfl, by rw [rest, hd], rfl⟩⟩
  · have hr : rest l = r := by rw [rest, hd]
    exact ⟨n, 0, by rw [numV, hd], rdNum_lt hd, .inl ⟨rfl, by rw [hr]; exact rdNum_form hd, by rw [hr]⟩⟩
theorem at_getD {l : List UInt8} {k : Nat} (h : k < l.length) : l[k]? = some (l.getD k 0) := by simp [List.getD, h]
theorem whole_c {w : World} {v : Value} {F : Nat → Prop} {l : List UInt8} (hv : Bv w F v l) : CallsR Tryz.prog 109 #[v] w (fun r w' => r = .int .i64 (wholeN l : Nat) ∧ Ext w w') := by
  obtain ⟨a, c, rfl⟩ := hv.shape
  have hmx := hv.max
  simp only [maxLen] at hmx
  have hle := lead_le l
  obtain ⟨w0, rfl⟩ : ∃ x, x = w := ⟨w, rfl⟩
  cases a with
  | none =>
    have hl0 : l = [] := by
      cases l with
      | nil => rfl
      | cons x r => obtain ⟨a', c', he, _, _, _, h4⟩ := hv; obtain ⟨q, cs, ha, _⟩ := h4 0 x rfl; cases he; cases ha
    subst hl0
    refine enter 48 Tryz.func109 rfl rfl (by simp) ?_
    refine c_seq (wp_reg zd (l_v (v_assign rfl) (l_nil (n_then (c_seq (wp_reg zd (l_v (v_assign rfl) (l_nil (n_then ?_)))))))))
    refine c_seq (c_block (c_loop (τ := Nat) [3, 4, 5, 6, 7, 8, 9, 10, 11, 12, 13, 14, 15, 16] (fun k => [(3, .int .i64 k)]) (fun k w => w = w0 ∧ k = 0) (fun k => 0) 0 (by exact ⟨rfl, trivial⟩) (by exact ⟨rfl, rfl⟩) ?_))
    rintro k w1 j ⟨rfl, rfl⟩
    refine c_seq (c_seq (wp_reg zd (l_v (zmI rfl) (l_v (zmS rfl) (l_v (v_len (et := 5) zk rfl) ?_)))))
    refine l_v (OpVat.as (b := false) (v_lss rfl rfl) (by first | rfl | (simp; done) | (simp; omega))) ?_
    refine l_v (zmB rfl) (l_skip (u := .bool false) rfl rfl rfl ?_)
    refine l_skip (u := .bool false) rfl rfl rfl ?_
    refine l_skip (u := .bool false) rfl rfl rfl ?_
    refine l_skip (u := .bool false) rfl rfl rfl ?_
    refine l_skip (u := .bool false) rfl rfl rfl ?_
    refine l_v (v_andC rfl) ?_
    refine l_nil (n_then (c_cond rfl rfl (fun hc => ?_) (fun hc => ?_)))
    · skip
      cases hc
    · skip
      refine c_exit (x_then (x_then (x_hit (n_then (c_seq (c_seq (wp_reg zd (l_v (zmI rfl) (l_v (zmS rfl) ?_)))))))))
      refine l_v (v_len (et := 5) zk rfl) ?_
      refine l_v (OpVat.as (b := true) (v_eql rfl rfl) (by first | rfl | (simp; done) | (simp; omega))) ?_
      refine l_v (zmB rfl) (l_skip (u := .bool true) rfl rfl rfl ?_)
      refine l_skip (u := .bool true) rfl rfl rfl ?_
      refine l_v (v_orC rfl) ?_
      refine l_v (zmB rfl) (l_skip (u := .bool true) rfl rfl rfl ?_)
      refine l_skip (u := .bool true) rfl rfl rfl ?_
      refine l_skip (u := .bool true) rfl rfl rfl ?_
      refine l_skip (u := undef) rfl rfl rfl ?_
      refine l_skip (u := undef) rfl rfl rfl ?_
      refine l_skip (u := undef) rfl rfl rfl ?_
      refine l_skip (u := undef) rfl rfl rfl ?_
      refine l_skip (u := .bool true) rfl rfl rfl ?_
      refine l_v (v_orC rfl) ?_
      refine l_v (zmB rfl) (l_skip (u := .bool true) rfl rfl rfl ?_)
      refine l_skip (u := .bool true) rfl rfl rfl ?_
      refine l_skip (u := .bool true) rfl rfl rfl ?_
      refine l_skip (u := undef) rfl rfl rfl ?_
      refine l_skip (u := undef) rfl rfl rfl ?_
      refine l_skip (u := undef) rfl rfl rfl ?_
      refine l_skip (u := undef) rfl rfl rfl ?_
      refine l_skip (u := undef) rfl rfl rfl ?_
      refine l_skip (u := .bool true) rfl rfl rfl ?_
      refine l_v (v_orC rfl) ?_
      refine l_nil (n_then (c_cond rfl rfl (fun hc2 => ?_) (fun hc2 => ?_)))
      · skip
        refine c_seq (wp_reg zd (l_v (v_assign rfl) (l_nil (n_then (c_ret (r_then (ret1 rfl zq ?_)))))))
        exact ⟨rfl, Keep.refl _⟩
      · skip
        cases hc2
  | some a =>
    refine enter 48 Tryz.func109 rfl rfl (by simp) ?_
    refine c_seq (wp_reg zd (l_v (v_assign rfl) (l_nil (n_then (c_seq (wp_reg zd (l_v (v_assign rfl) (l_nil (n_then ?_)))))))))
    refine c_seq (c_block (c_loop (τ := Nat) [3, 4, 5, 6, 7, 8, 9, 10, 11, 12, 13, 14, 15, 16] (fun k => [(3, .int .i64 k)]) (fun k w => w = w0 ∧ k ≤ lead l) (fun k => l.length - k) 0 (by exact ⟨rfl, trivial⟩) (by exact ⟨rfl, Nat.zero_le _⟩) ?_))
    rintro k w1 j ⟨rfl, h1⟩
    refine c_seq (c_seq (wp_reg zd (l_v (zmI rfl) (l_v (zmS rfl) (l_v (v_len (et := 5) zk rfl) ?_)))))
    refine l_v (v_lss rfl rfl) ?_
    refine l_v (zmB rfl) (l_g1 rfl rfl (fun hG => zmS rfl) (l_g1 rfl rfl (fun hG => zmI rfl) (l_g1 rfl rfl (fun hG => v_indexAddr (et := 5) (sz := 1) (k := k) zk zk (gd hG rfl) (gd hG rfl) (by first | rfl | omega) (by have := hG; simp at this; omega)) ?_)))
    refine l_g1 rfl rfl (fun hG => v_load zk (gd hG rfl) (hv.at8 (k := k) (x := l.getD k 0) (at_getD (by have := hG; simp at this; omega)))) ?_
    refine l_g1 rfl rfl (fun hG => v_gtr (gd hG rfl) rfl) ?_
    refine l_v (v_and rfl rfl) ?_
    refine l_nil (n_then (c_cond rfl rfl (fun hc => ?_) (fun hc => ?_)))
    · skip
      simp only [Bool.and_eq_true, decide_eq_true_eq] at hc
      refine c_skip (n_then (c_block (wp_reg zd (l_v (zmI rfl) (l_v (v_add rfl rfl (by first | exact wr_i64 zo zo | rfl)) ?_)))))
      refine l_v (zaI rfl) (l_nil (n_blk (n_then (⟨k + 1, _, rfl, by (repeat (first | exact Off.of_over _ _ _ | refine Off.upd ?_ zq _ | refine Off.overs ?_ zq _)), ⟨by first | rfl | exact congrArg (Value.int _) zo | (simp; done), trivial⟩, ?_, ?_⟩))))
      · refine ⟨rfl, ?_⟩
        rcases Nat.lt_or_ge k (lead l) with h | h
        · exact h
        · have hk : k = lead l := by omega
          have := lead_end l (l.getD k 0) (by rw [← hk]; exact at_getD zo)
          omega
      · dsimp only; omega
    · skip
      have hk : k = lead l := by
        rcases Nat.lt_or_ge k (lead l) with h | h
        · have h2 := lead_at l k (l.getD k 0) h (at_getD zo)
          have h3 : (decide ((k : Int) < (l.length : Int)) && decide ((127 : Int) < ((l.getD k 0).toNat : Int))) = true := by rw [Bool.and_eq_true]; exact ⟨decide_eq_true zo, decide_eq_true zo⟩
          rw [h3] at hc; cases hc
        · omega
      clear hc
      subst hk
      refine c_exit (x_then (x_then (x_hit (n_then (c_seq (c_seq (wp_reg zd (l_v (zmI rfl) (l_v (zmS rfl) ?_)))))))))
      refine l_v (v_len (et := 5) zk rfl) ?_
      refine l_v (v_eql rfl rfl) ?_
      refine l_v (zmB rfl) (l_g1 rfl rfl (fun hG => zmI rfl) (l_g1 rfl rfl (fun hG => v_gtr (gd hG rfl) rfl) ?_))
      refine l_v (v_or rfl rfl) ?_
      refine l_v (zmB rfl) (l_g1 rfl rfl (fun hG => zmI rfl) (l_g1 rfl rfl (fun hG => v_eql (gd hG rfl) rfl) ?_))
      refine l_g1 rfl rfl (fun hG => v_move (t := .bool _) (gd hG rfl)) ?_
      refine l_g2 rfl rfl (fun hG => zmS rfl) ?_
      refine l_g2 rfl rfl (fun hG => v_indexAddr (et := 5) (sz := 1) (k := 9) zk zk (gd hG rfl) rfl (by first | rfl | omega) (by have := hG; simp at this; omega)) ?_
      refine l_g2 rfl rfl (fun hG => v_load zk (gd hG rfl) (hv.at8 (k := 9) (x := l.getD 9 0) (at_getD (by have := hG; simp at this; omega)))) ?_
      refine l_g2 rfl rfl (fun hG => v_gtr (gd hG rfl) rfl) ?_
      refine l_g1 rfl rfl (fun hG => v_and (gd hG rfl) (gda hG rfl)) ?_
      refine l_v (v_or rfl rfl) ?_
      refine l_v (zmB rfl) (l_g1 rfl rfl (fun hG => zmI rfl) (l_g1 rfl rfl (fun hG => v_gtr (gd hG rfl) rfl) ?_))
      refine l_g1 rfl rfl (fun hG => v_move (t := .bool _) (gd hG rfl)) ?_
      refine l_g2 rfl rfl (fun hG => zmS rfl) ?_
      refine l_g2 rfl rfl (fun hG => zmI rfl) ?_
      refine l_g2 rfl rfl (fun hG => v_indexAddr (et := 5) (sz := 1) (k := lead l) zk zk (gd hG rfl) (gd hG rfl) (by first | rfl | omega) (by have := hG; simp at this; omega)) ?_
      refine l_g2 rfl rfl (fun hG => v_load zk (gd hG rfl) (hv.at8 (k := lead l) (x := l.getD (lead l) 0) (at_getD (by have := hG; simp at this; omega)))) ?_
      refine l_g2 rfl rfl (fun hG => v_eql (gd hG rfl) rfl) ?_
      refine l_g1 rfl rfl (fun hG => v_and (gd hG rfl) (gda hG rfl)) ?_
      refine l_v (v_or rfl rfl) ?_
      refine l_nil (n_then (c_cond rfl rfl (fun hc2 => ?_) (fun hc2 => ?_)))
      · skip
        refine c_seq (wp_reg zd (l_v (v_assign rfl) (l_nil (n_then (c_ret (r_then (ret1 rfl zq ?_)))))))
        refine ⟨?_, Keep.refl _⟩
        have hw : wholeN l = 0 := by
          rw [wholeN_lead, if_pos]
          simp only [Bool.or_eq_true, Bool.and_eq_true, decide_eq_true_eq] at hc2
          rcases hc2 with ((h | h) | h) | h
          · left; omega
          · right; left; omega
          · right; right; left; have h9 : lead l = 9 := by omega
            rw [h9]; exact ⟨rfl, by omega⟩
          · right; right; right; omega
        rw [hw]; rfl
      · skip
        have hlt : lead l < l.length := by
          rcases Nat.lt_or_ge (lead l) l.length with h | h
          · exact h
          · rw [show decide ((lead l : Int) = (l.length : Int)) = true from decide_eq_true zo] at hc2
            cases hc2
        refine c_skip (n_then (c_seq (wp_reg zd (l_v (zmI rfl) (l_v (v_add rfl rfl (by first | exact wr_i64 zo zo | rfl)) ?_)))))
        refine l_v (zaI rfl) (l_nil (n_then (c_ret (ret1 rfl zq ?_))))
        refine ⟨?_, Keep.refl _⟩
        have hw : wholeN l = lead l + 1 := by
          rw [wholeN_lead, if_neg]
          intro hn
          have h3 : (decide ((lead l : Int) = (l.length : Int)) || decide ((9 : Int) < (lead l : Int)) || (decide ((lead l : Int) = 9) && decide ((1 : Int) < ((l.getD 9 0).toNat : Int))) || (decide ((0 : Int) < (lead l : Int)) && decide (((l.getD (lead l) 0).toNat : Int) = 0))) = true := by
            simp only [Bool.or_eq_true, Bool.and_eq_true, decide_eq_true_eq]
            rcases hn with h | h | h | h
            · left; left; left; omega
            · left; left; right; omega
            · left; right; have h9 := h.1; have h2 := h.2; rw [h9] at h2; exact ⟨by omega, by omega⟩
            · right; omega
          rw [h3] at hc2; cases hc2
        rw [hw]
        show Value.int _ ((lead l : Int) + 1) = _
        exact congrArg (Value.int _) zo

abbrev nRf : Nat := 79
/-- the document's reader -/
def Rf (w : World) (b : Nat) (F : Nat → Prop) (l : List UInt8) : Prop := ∃ v, Blk w b [v] nRf ∧ Bv w F v l
theorem Rf.keep {w w' : World} {b : Nat} {F K : Nat → Prop} {l : List UInt8} (h : Rf w b F l) (k : Keep K w w') (h1 : ¬ K b) (h2 : ∀ b, F b → ¬ K b) : Rf w' b F l := by
  obtain ⟨v, hb, hv⟩ := h
  exact ⟨v, hb.keep k h1, hv.keep k (fun i _ hi => h2 i hi)⟩
theorem Rf.ext {w w' : World} {b : Nat} {F : Nat → Prop} {l : List UInt8} (h : Rf w b F l) (e : Ext w w') : Rf w' b F l := h.keep e (fun x => x) (fun _ _ x => x)
theorem refLeft_c {w : World} {b : Nat} {F : Nat → Prop} {l : List UInt8} (hr : Rf w b F l) : CallsR Tryz.prog 47 #[.pointer (some ⟨b, 0, none⟩)] w (fun r w' => r = .int .i64 l.length ∧ Ext w w') := by
  obtain ⟨v, hb, hv⟩ := hr
  obtain ⟨a, c, rfl⟩ := hv.shape
  refine enter 8 Tryz.func47 rfl rfl (by simp) ?_
  refine c_seq (wp_reg zd (l_v (v_assign rfl) (l_nil (n_then (c_seq (wp_reg zd (l_v (zmP rfl) (l_v (v_nilCheck rfl) ?_))))))))
  refine l_v (v_fieldAddr (off := 0) (ft := 24) zk rfl) (l_v (v_load zk rfl (hb.pv 0 _ rfl)) ?_)
  refine l_v (v_len (et := 5) zk rfl) ?_
  refine l_v (zaI rfl) (l_nil (n_then (c_ret (ret1 rfl zq ?_))))
  exact ⟨rfl, Keep.refl _⟩
theorem refRNumber_c {w : World} {b : Nat} {F : Nat → Prop} {l : List UInt8} (hr : Rf w b F l) (hF : ¬ F b) : CallsR Tryz.prog 85 #[.pointer (some ⟨b, 0, none⟩)] w (fun r w' => r = numV l ∧ Rf w' b F (rest l) ∧ Keep (fun k => k = b) w w') := by
  obtain ⟨v, hb, hv⟩ := hr
  obtain ⟨a, c, rfl⟩ := hv.shape
  have hwl := wholeN_le l
  have hnw := rdNum_whole (l := l)
  obtain ⟨w0, rfl⟩ : ∃ x, x = w := ⟨w, rfl⟩
  refine enter 42 Tryz.func85 rfl rfl (by simp) ?_
  refine c_seq (wp_reg zd (l_v (v_assign rfl) (l_v (v_assign rfl) (l_nil (n_then (c_seq (wp_reg zd (l_v (zmP rfl) (l_v (v_nilCheck rfl) ?_)))))))))
  refine l_v (v_fieldAddr (off := 0) (ft := 24) zk rfl) (l_v (v_load zk rfl (hb.pv 0 _ rfl)) ?_)
  refine l_to (to_f1 zk (zvS rfl) (CallsR.mono (whole_c hv) ?_))
  rintro _ w1 ⟨rfl, e1⟩
  have zs_e1 := e1.size
  refine l_v (zaI rfl) (l_nil (n_then (c_seq (c_seq (wp_reg zd (l_v (zmI rfl) (l_v (v_eql rfl rfl) ?_)))))))
  refine l_nil (n_then (c_cond rfl rfl (fun hc => ?_) (fun hc => ?_)))
  · skip
    have hz : wholeN l = 0 := by have := dtrue hc; omega
    rw [if_pos hz] at hnw
    refine c_seq (wp_reg zd (l_v (v_assign rfl) (l_v (v_assign rfl) (l_nil (n_then (c_ret (r_then (ret2 rfl zq zq ?_))))))))
    refine ⟨by rw [numV, hnw]; rfl, ?_, e1.keep⟩
    rw [rest, hnw]; exact ⟨_, hb.ext e1, hv.ext e1⟩
  · skip
    have hz : ¬ wholeN l = 0 := by have := dfalse hc; omega
    rw [if_neg hz] at hnw
    have hlt := rdNum_lt hnw
    refine c_skip (n_then (c_seq (wp_reg zd (l_v (v_assign rfl) (l_nil (n_then (c_seq (c_seq (wp_reg zd ?_)))))))))
    refine l_v (zmI rfl) (l_v (v_sub rfl rfl (by first | exact wr_i64 zo zo | rfl)) ?_)
    refine l_v (zaI rfl) (l_nil (n_then (c_block (c_loop (τ := Nat) [5, 6, 16, 17, 18, 19, 20, 21, 22, 23, 24, 25, 26, 27, 28, 29, 30, 31] (fun k => [(5, .int .u64 (dig ((l.take (wholeN l)).drop k) : Nat)), (6, .int .i64 ((k : Int) - 1))]) (fun k w => w = w1 ∧ k ≤ wholeN l) (fun k => k) (wholeN l) (by exact ⟨congrArg (fun n : Nat => Value.int .u64 (n : Int)) (show 0 = dig _ by rw [List.drop_eq_nil_of_le (by simp; omega)]; rfl), rfl, trivial⟩) (by exact ⟨rfl, Nat.le_refl _⟩) ?_))))
    rintro k w2 j ⟨rfl, h2⟩
    refine c_seq (c_seq (wp_reg zd (l_v (zmI rfl) (l_v (v_geq rfl rfl) ?_))))
    refine l_nil (n_then (c_cond rfl rfl (fun hd => ?_) (fun hd => ?_)))
    · skip
      have hd := dtrue hd
      obtain ⟨x, hx⟩ : ∃ x, l[k - 1]? = some x := ⟨l[k - 1]'zo, by simp [show k - 1 < l.length by omega]⟩
      have hdg := dig_take hx (show k - 1 < wholeN l by omega)
      have hdl := dig_drop_le (l.take (wholeN l)) (k - 1)
      rw [show k - 1 + 1 = k by omega] at hdg
      refine c_skip (n_then (c_seq (c_block (wp_reg zd (l_v (zmI rfl) (l_v (v_mul rfl rfl (by first | exact wr_u64 zo zo | rfl)) ?_))))))
      refine l_v (zmP rfl) (l_v (v_nilCheck rfl) ?_)
      refine l_v (v_fieldAddr (off := 0) (ft := 24) zk rfl) (l_v (v_load zk rfl ((hb.ext e1).pv 0 _ rfl)) ?_)
      refine l_v (zmI rfl) (l_to (to_index (et := 5) zk zk (zvS rfl) (hv.ext e1) (zvI rfl) zo hx ?_))
      rintro q cs hFq hp hrep
      refine l_v (v_load zk rfl (pv_u8 hp hrep)) ?_
      refine l_v (v_rem rfl rfl zq (by first | exact tm_nn zo | rfl)) ?_
      refine l_v (v_conv (ds := .int .u8) zk zk rfl (by first | exact wr_u64 zo zo | rfl)) ?_
      refine l_v (v_add rfl rfl (by first | exact wr_u64 zo zo | rfl)) ?_
      refine l_v (zaI rfl) (l_nil (n_blk (n_then (wp_reg zd (l_v (zmI rfl) (l_v (v_sub rfl rfl (by first | exact wr_i64 zo zo | rfl)) ?_))))))
      refine l_v (zaI rfl) (l_nil (n_then (⟨k - 1, _, rfl, by (repeat (first | exact Off.of_over _ _ _ | refine Off.upd ?_ zq _ | refine Off.overs ?_ zq _)), ⟨by first | rfl | exact congrArg (Value.int _) zo | (simp; done), by first | rfl | exact congrArg (Value.int _) zo | (simp; done), trivial⟩, ?_, ?_⟩)))
      · exact ⟨rfl, by omega⟩
      · dsimp only; omega
    · skip
      have hk0 : k = 0 := by have := dfalse hd; omega
      subst hk0
      refine c_exit (x_then (x_then (x_hit (n_then (c_seq (wp_reg zd (l_v (zmP rfl) (l_v (zmP rfl) (l_v (v_nilCheck rfl) ?_)))))))))
      refine l_v (v_fieldAddr (off := 0) (ft := 24) zk rfl) (l_v (v_load zk rfl ((hb.ext e1).pv 0 _ rfl)) ?_)
      refine l_v (zmI rfl) (l_to (to_slice (et := 5) (l := wholeN l) (h := l.length) zk zk (zvS rfl) (hv.ext e1) ⟨_, by exact rfl⟩ rfl (by first | omega | (simp; done) | (simp; omega)) (by first | omega | (simp; done) | (simp; omega)) ?_))
      rintro a2 n2 c2 h2s rfl hn2
      rw [List.take_length] at h2s
      refine l_v (v_nilCheck rfl) ?_
      refine l_v (v_fieldAddr (off := 0) (ft := 24) zk rfl) (l_to (to_store rfl rfl (zvS rfl) rfl zk (hb.ext e1) (by simp) ?_))
      rintro w3 h3 k3 z3
      have zs_k3 := k3.size
      refine l_nil (n_then (c_seq (wp_reg zd (l_v (zmI rfl) (l_v (zaI rfl) (l_v (v_assign rfl) (l_nil (n_then (c_ret ?_)))))))))
      refine ret2 rfl zq zq ?_
      refine ⟨by rw [numV, hnw]; rfl, ?_, e1.keep.trans k3⟩
      have hrl : l.length - wholeN l = (l.drop (wholeN l)).length := by simp
      rw [hrl] at h2s h3
      rw [rest, hnw]
      exact ⟨_, h3, h2s.keep k3 fun b' _ hb' he => hF (by subst he; exact hb')⟩
/-- a number, at most so great -/
theorem many_c {w : World} {b : Nat} {F : Nat → Prop} {l : List UInt8} {most : Int} (hr : Rf w b F l) (hF : ¬ F b) (hm : 0 ≤ most) (hm2 : most ≤ 9223372036854775807) : CallsR Tryz.prog 111 #[.pointer (some ⟨b, 0, none⟩), .int .i64 most] w (fun r w' => (∃ (n : Nat) (e : Int), r = .tuple #[.int .u64 n, .int .i64 e] ∧ n < 18446744073709551616 ∧ ((e = 0 ∧ rdNum l = some (n, rest l) ∧ n ≤ most.toNat) ∨ (e = 3 ∧ n = 0 ∧ ∃ m, rdNum l = some (m, rest l) ∧ ¬ m ≤ most.toNat) ∨ (e = 4 ∧ n = 0 ∧ rdNum l = none))) ∧ Rf w' b F (rest l) ∧ Keep (fun k => k = b) w w') := by
  obtain ⟨n, e, hn, hnl, hnx⟩ := numV_any l
  refine enter 23 Tryz.func111 rfl rfl (by simp) ?_
  refine c_seq (wp_reg zd (l_v (v_assign rfl) (l_v (v_assign rfl) (l_nil (n_then (c_seq (wp_reg zd (l_v (zmP rfl) (l_to (to_f1 zk (zvP rfl) (CallsR.mono (refRNumber_c hr hF) ?_)))))))))))
  rintro r w1 ⟨hr1, r1, k1⟩
  have zs_k1 := k1.size
  rw [hn] at hr1
  subst hr1
  refine l_v (zmT rfl) (l_v (v_extract (t := .int _ _) rfl rfl) (l_v (v_extract (t := .int _ _) rfl rfl) (l_v (zaI rfl) (l_v (zaI rfl) (l_nil (n_then (c_seq (c_seq (wp_reg zd ?_)))))))))
  refine l_v (zmI rfl) (l_v (v_eql rfl rfl) ?_)
  refine l_v (zmB rfl) (l_g1 rfl rfl (fun hG => zmI rfl) (l_g1 rfl rfl (fun hG => zmI rfl) (l_g1 rfl rfl (fun hG => v_conv (ds := .int .i64) zk zk (gd hG rfl) (by first | exact wr_u64 zo zo | rfl)) ?_)))
  refine l_g1 rfl rfl (fun hG => v_gtr (gd hG rfl) (gd hG rfl)) ?_
  refine l_v (v_and rfl rfl) ?_
  refine l_nil (n_then (c_cond rfl rfl (fun hc => ?_) (fun hc => ?_)))
  · skip
    refine c_seq (wp_reg zd (l_v (v_assign rfl) (l_v (v_assign rfl) (l_nil (n_then (c_ret (r_then (ret2 rfl zq zq ?_))))))))
    simp only [Bool.and_eq_true, decide_eq_true_eq] at hc
    refine ⟨⟨0, 3, rfl, by omega, .inr (.inl ⟨rfl, rfl, n, ?_, by omega⟩)⟩, r1, k1⟩
    rcases hnx with ⟨_, _, hd⟩ | ⟨he, _⟩
    · exact hd
    · omega
  · skip
    refine c_skip (n_then (c_seq (wp_reg zd (l_v (zmI rfl) (l_v (zmI rfl) (l_v (zaI rfl) (l_v (zaI rfl) (l_nil (n_then ?_)))))))))
    refine c_ret (ret2 rfl zq zq ?_)
    refine ⟨⟨n, e, rfl, hnl, ?_⟩, r1, k1⟩
    rcases hnx with ⟨he, _, hd⟩ | ⟨he, hn0, _, hd⟩
    · refine .inl ⟨he, hd, ?_⟩
      rcases Nat.lt_or_ge most.toNat n with h | h
      · rw [show decide (e = 0) = true from decide_eq_true he, show decide (most < (n : Int)) = true from decide_eq_true zo] at hc
        cases hc
      · exact h
    · exact .inr (.inr ⟨he, hn0, hd⟩)
/-- what the document's reader hands back -/
def TryF {α : Type} (t : Ty α) (w w' : World) (b : Nat) (F : Nat → Prop) (l : List UInt8) : Except Int (List α × List UInt8) → Value → Prop
  | .ok (x, l2), r => ∃ a c, r = .tuple #[.slice a x.length c, .int .i64 0] ∧ SlV t w' (fun k => w.heap.size ≤ k) (.slice a x.length c) x ∧ Rf w' b F l2
  | .error e, r => e ≠ 0 ∧ r = .tuple #[.slice none 0 0, .int .i64 e] ∧ Rf w' b F l
theorem TryF_any {α : Type} {t : Ty α} {w w' : World} {b : Nat} {F : Nat → Prop} {l : List UInt8} {q : Except Int (List α × List UInt8)} {r : Value} (h : TryF t w w' b F l q r) :
    ∃ (a : Option Addr) (c : Nat) (e : Int) (xs : List α) (l2 : List UInt8), r = .tuple #[.slice a xs.length c, .int .i64 e] ∧ SlV t w' (fun k => w.heap.size ≤ k) (.slice a xs.length c) xs ∧ Rf w' b F l2 ∧ ((e = 0 ∧ q = .ok (xs, l2)) ∨ (e ≠ 0 ∧ xs = [] ∧ l2 = l ∧ q = .error e)) := by
  match q, h with
  | .ok (x, l2), ⟨a, c, hr, h1, h2⟩ => exact ⟨a, c, 0, x, l2, hr, h1, h2, .inl ⟨rfl, rfl⟩⟩
  | .error e, ⟨he, hr, h2⟩ => exact ⟨none, 0, e, [], l, hr, SlV.nil _ _ _, h2, .inr ⟨he, rfl, rfl, rfl⟩⟩

theorem refRBytes_c {w : World} {b : Nat} {F : Nat → Prop} {l : List UInt8} {most : Int} (hr : Rf w b F l) (hF : ∀ k, F k → k < w.heap.size) (hFb : ¬ F b) (hm : 0 ≤ most) (hm2 : most ≤ 9223372036854775807) (hl : l.length ≤ 140737488355300) : CallsR Tryz.prog 87 #[.pointer (some ⟨b, 0, none⟩), .int .i64 most] w (fun r w' => TryF tU8 w w' b F l (rdBytes most.toNat l) r ∧ Keep (fun k => k = b) w w') := by
  obtain ⟨v, hb, hv⟩ := hr
  obtain ⟨a, c, rfl⟩ := hv.shape
  have hblt := hb.lt
  refine enter 56 Tryz.func87 rfl rfl (by simp) ?_
  refine c_seq (wp_reg zd (l_v (v_assign rfl) (l_v (v_assign rfl) (l_nil (n_then (c_seq (wp_reg zd (l_v (zmP rfl) (l_v (v_nilCheck rfl) ?_)))))))))
  refine l_v (v_fieldAddr (off := 0) (ft := 24) zk rfl) (l_v (v_load zk rfl (hb.pv 0 _ rfl)) ?_)
  refine l_v (zaS rfl) (l_nil (n_then (c_seq (wp_reg zd (l_v (zmP rfl) (l_v (zmI rfl) (l_to (to_f2 zk (zvP rfl) (zvI rfl) (CallsR.mono (many_c ⟨_, hb, hv⟩ hFb hm hm2) ?_)))))))))
  rintro r w1 ⟨⟨n, e, hr1, hnl, hnx⟩, r1, k1⟩
  have zs_k1 := k1.size
  subst hr1
  obtain ⟨v1, hb1, hv1⟩ := r1
  obtain ⟨a1, c1, rfl⟩ := hv1.shape
  have hmx := hv1.max
  simp only [maxLen] at hmx
  have hv' := hv.keep k1 (fun i hi h he => hFb (by subst he; exact h))
  have hq : rdBytes most.toNat l = (if e = 0 then (if n ≤ (rest l).length then .ok ((rest l).take n, (rest l).drop n) else .error 4) else .error e) := by
    rw [rdBytes, tryRd]
    rcases hnx with ⟨he, hd, hle⟩ | ⟨he, hn0, m, hd, hle⟩ | ⟨he, hn0, hd⟩
    · rw [hd, if_pos he]; simp only [if_pos hle, rdSome]
    · rw [hd, he]; simp only [if_neg hle]; rfl
    · rw [hd, he]; rfl
  refine l_v (zmT rfl) (l_v (v_extract (t := .int _ _) rfl rfl) (l_v (v_extract (t := .int _ _) rfl rfl) (l_v (zaI rfl) (l_v (zaI rfl) (l_nil (n_then (c_seq (c_seq (wp_reg zd ?_)))))))))
  refine l_v (zmI rfl) (l_v (v_eql rfl rfl) ?_)
  refine l_v (zmB rfl) (l_g1 rfl rfl (fun hG => zmI rfl) (l_g1 rfl rfl (fun hG => zmP rfl) (l_g1 rfl rfl (fun hG => v_nilCheck (gd hG rfl)) ?_)))
  refine l_g1 rfl rfl (fun hG => v_fieldAddr (off := 0) (ft := 24) zk (gd hG rfl)) ?_
  refine l_g1 rfl rfl (fun hG => v_load zk (gd hG rfl) (hb1.pv 0 _ rfl)) ?_
  refine l_g1 rfl rfl (fun hG => v_len (et := 5) zk (gd hG rfl)) ?_
  refine l_g1 rfl rfl (fun hG => v_conv (ds := .int .i64) zk zk (gd hG rfl) (by first | exact wr_u64 zo zo | rfl)) ?_
  refine l_g1 rfl rfl (fun hG => v_gtr (gd hG rfl) (gd hG rfl)) ?_
  refine l_v (v_and rfl rfl) ?_
  refine l_nil (n_then (c_cond rfl rfl (fun hc => ?_) (fun hc => ?_)))
  · skip
    simp only [Bool.and_eq_true, decide_eq_true_eq] at hc
    refine wp_reg zd (l_v (v_assign rfl) (l_nil (n_then (c_seq (c_seq (wp_reg zd (l_v (zmI rfl) (l_v (v_neq rfl rfl) ?_))))))))
    refine l_nil (n_then (c_cond rfl rfl (fun hc5 => ?_) (fun hc5 => ?_)))
    · skip
      refine c_seq (wp_reg zd (l_v (zmP rfl) (l_v (zmS rfl) (l_v (v_nilCheck rfl) ?_))))
      refine l_v (v_fieldAddr (off := 0) (ft := 24) zk rfl) (l_to (to_store rfl rfl (zvS rfl) rfl zk hb1 (by simp) ?_))
      rintro w2 h2 k2 z2
      have zs_k2 := k2.size
      refine l_nil (n_then (c_seq (wp_reg zd (l_v (zmI rfl) (l_v (v_assign rfl) (l_v (zaI rfl) (l_nil (n_then (c_ret ?_)))))))))
      refine r_then (ret2 rfl zq zq ?_)
      rw [hq, if_pos hc.1, if_neg zo]
      exact ⟨⟨by decide, rfl, _, h2, hv'.keep k2 fun i hi h he => hFb (by subst he; exact h)⟩, k1.trans k2⟩
    · skip
      simp at hc5
  · skip
    refine c_skip (n_then (c_seq (c_seq (wp_reg zd (l_v (zmI rfl) (l_v (v_neq rfl rfl) ?_))))))
    refine l_nil (n_then (c_cond rfl rfl (fun hc5 => ?_) (fun hc5 => ?_)))
    · skip
      have he : e ≠ 0 := by simpa using hc5
      refine c_seq (wp_reg zd (l_v (zmP rfl) (l_v (zmS rfl) (l_v (v_nilCheck rfl) ?_))))
      refine l_v (v_fieldAddr (off := 0) (ft := 24) zk rfl) (l_to (to_store rfl rfl (zvS rfl) rfl zk hb1 (by simp) ?_))
      rintro w2 h2 k2 z2
      have zs_k2 := k2.size
      refine l_nil (n_then (c_seq (wp_reg zd (l_v (zmI rfl) (l_v (v_assign rfl) (l_v (zaI rfl) (l_nil (n_then (c_ret ?_)))))))))
      refine r_then (ret2 rfl zq zq ?_)
      rw [hq, if_neg he]
      exact ⟨⟨he, rfl, _, h2, hv'.keep k2 fun i hi h he => hFb (by subst he; exact h)⟩, k1.trans k2⟩
    · skip
      have he : e = 0 := by simpa using hc5
      have hle : n ≤ (rest l).length := by
        rcases Nat.lt_or_ge (rest l).length n with h | h
        · rw [show decide (e = 0) = true from decide_eq_true he, show decide (((rest l).length : Int) < (n : Int)) = true from decide_eq_true zo] at hc
          cases hc
        · exact h
      have hrl : (rest l).length ≤ l.length := by
        rcases hnx with ⟨_, hd, _⟩ | ⟨h, _⟩ | ⟨h, _⟩
        · have := rdNum_form hd; have h2 := congrArg List.length this; rw [List.length_append] at h2; omega
        · omega
        · omega
      refine c_skip (n_then (c_seq (wp_reg zd (l_v (zmP rfl) (l_v (v_nilCheck rfl) ?_)))))
      refine l_v (v_fieldAddr (off := 0) (ft := 24) zk rfl) (l_v (v_load zk rfl (hb1.pv 0 _ rfl)) ?_)
      refine l_v (zmI rfl) (l_to (to_slice (et := 5) (l := 0) (h := n) zk zk (zvS rfl) hv1 rfl ⟨_, by exact rfl⟩ (by first | omega | (simp; done) | (simp; omega)) (by first | omega | (simp; done) | (simp; omega)) ?_))
      rintro a2 n2 c2 h2s rfl hn2
      rw [List.drop_zero] at h2s
      have hn0 : n - 0 = ((rest l).take n).length := by simp; omega
      rw [hn0] at h2s ⊢
      refine l_to (to_append (et := 5) (bytes := 1) zk (zvS rfl) (OwV.nil _ nU8 _ w1.heap.size NoK) (zvS rfl) h2s (flat_u8.to) (by first | omega | (simp; done) | (simp; omega)) (by simp only [maxLen]; first | omega | (simp; done) | (simp; omega)) zo ?_)
      rintro a3 n3 c3 w3 o3 hn3 k3 b3 i3
      have zs_k3 := k3.size
      subst hn3
      rw [List.nil_append] at o3 ⊢
      have e3 : Ext w1 w3 := k3.mono fun b _ h => by simp [Value.ownBlock] at h
      refine l_v (zaS rfl) (l_nil (n_then (c_seq (wp_reg zd (l_v (zmP rfl) (l_v (zmP rfl) (l_v (v_nilCheck rfl) ?_)))))))
      refine l_v (v_fieldAddr (off := 0) (ft := 24) zk rfl) (l_v (v_load zk rfl ((hb1.ext e3).pv 0 _ rfl)) ?_)
      refine l_v (zmI rfl) (l_to (to_slice (et := 5) (l := n) (h := (rest l).length) zk zk (zvS rfl) (hv1.ext e3) ⟨_, by exact rfl⟩ rfl (by first | omega | (simp; done) | (simp; omega)) (by first | omega | (simp; done) | (simp; omega)) ?_))
      rintro a4 n4 c4 h4s rfl hn4
      rw [List.take_length] at h4s
      refine l_v (v_nilCheck rfl) ?_
      refine l_v (v_fieldAddr (off := 0) (ft := 24) zk rfl) (l_to (to_store rfl rfl (zvS rfl) rfl zk (hb1.ext e3) (by simp) ?_))
      rintro w5 h5 k5 z5
      have zs_k5 := k5.size
      refine l_nil (n_then (c_seq (wp_reg zd (l_v (zmS rfl) (l_v (zaS rfl) (l_v (v_assign rfl) (l_nil (n_then (c_ret ?_)))))))))
      refine ret2 rfl zq zq ?_
      rw [hq, if_pos he, if_pos hle]
      have hrl2 : (rest l).length - n = ((rest l).drop n).length := by simp
      rw [hrl2] at h4s h5
      refine ⟨⟨a3, c3, rfl, ?_, _, h5, h4s.keep k5 fun i hi h he => hFb (by subst he; exact h)⟩, (k1.trans (e3.mono fun _ _ h => h.elim)).trans k5⟩
      have zs := k1.size
      exact ((o3.view.keep k5 (fun i hi h he => by rcases h with h | h; omega; exact h)).mono fun i _ h => by rcases h with h | h; omega; exact h.elim)
end Go.Proofs.YtogafjlbpodgjaaGreat
