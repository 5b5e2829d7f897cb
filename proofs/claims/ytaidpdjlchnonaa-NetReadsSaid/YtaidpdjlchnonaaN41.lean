/- A part of the proof: steps and lemmas for the walks through the given program. -/
import Derived.Test.YtaidpdjlchnonaaN35
import Derived.Test.YtaidpdjlchnonaaN40
import Derived.Test.YtaidpdjlchnonaaGu
namespace Go.Proofs.Ytaidpdjlchnonaa
open Go.Vc
set_option linter.unusedVariables false
set_option linter.unusedSimpArgs false
set_option maxRecDepth 100000

/-- the document's reader: what is left, and is all well so far? -/
abbrev QSt := List UInt8 × Bool
def qN (l : List UInt8) : Nat := match rdNum l with | some (n, _) => n | none => 0
def qV (l : List UInt8) : Int := IntKind.i64.wrap (qN l)
def qOk (most : Nat) (l : List UInt8) : Bool := match rdNum l with | some (n, _) => decide (n ≤ most) | none => false
def qS (most : Nat) (s : QSt) : QSt := (rest s.1, s.2 && qOk most s.1)
theorem qV_wf (l : List UInt8) : I64 (qV l) := by
  unfold qV I64 IntKind.wrap; simp only [IntKind.bits, IntKind.signed]; (try simp); omega
theorem refnum_c {w : World} {F : Nat → Prop} {bx rb most : Nat} {l : List UInt8} {ok : Bool} (HB1 : Blk w bx [.pointer (some ⟨rb, 0, none⟩), .bool ok] 128) (HR : Rf w rb F l) (hF : ∀ k, F k → k < rb) (hx : rb < bx) (hm : most ≤ 9223372036854775807) : CallsR Try.prog 86 #[.pointer (some ⟨bx, 0, none⟩), .int .i64 most] w (fun o w' => o = .int .i64 (qV l) ∧ (Blk w' bx [.pointer (some ⟨rb, 0, none⟩), .bool (qS most (l, ok)).2] 128 ∧ Rf w' rb F (qS most (l, ok)).1) ∧ Keep (fun k => k = bx ∨ k = rb) w w') := by
  have hnF : ¬ F rb := fun h => absurd (hF rb h) (Nat.lt_irrefl rb)
  refine enter 34 Try.func86 rfl rfl (by simp) ?_
  refine c_seq ?_
  have E := Keep.refl (K := fun k => k = bx ∨ k = rb) w
  refine wp_reg (by decide +kernel) ?_
  refine l_v (v_assign rfl) ?_
  refine l_nil ?_
  refine n_then ?_
  refine c_seq ?_
  refine wp_reg (by decide +kernel) ?_
  refine l_v (v_move (t := .pointer _) rfl) ?_
  refine l_v (v_nilCheck rfl) ?_
  refine l_v (v_fieldAddr (off := 0) (ft := 124) (by kernel_rfl) rfl) ?_
  refine l_v (v_load (by kernel_rfl) rfl (by first | exact HB1.pv 0 _ rfl | assumption)) ?_
  refine l_to (to_f1 (by kernel_rfl) (show _ = (Value.pointer _) from rfl) (CallsR.mono (refRNumber_c HR hnF) ?_))
  rintro r w3 ⟨hr3, HR3, k3⟩
  have zs_k3 := k3.size
  obtain ⟨n, ne, hn, hnl, hnx⟩ := numV_any l
  rw [hn] at hr3
  subst hr3
  replace E := E.step k3 (by intro i hi he; (try dsimp only [NoK] at hi he ⊢); first | exact he.elim | omega | exact he)
  replace HB1 := HB1.keep k3 (by intro h; (try dsimp only at h); first | omega)
  refine l_v (v_move (t := .tuple _) rfl) ?_
  refine l_v (v_extract (t := .int _ _) rfl rfl) ?_
  refine l_v (v_extract (t := .int _ _) rfl rfl) ?_
  refine l_v (v_assign (t := .int _ _) rfl) ?_
  refine l_v (v_assign (t := .int _ _) rfl) ?_
  refine l_nil ?_
  refine n_then ?_
  refine c_seq ?_
  refine wp_reg (by decide +kernel) ?_
  refine l_v (v_move (t := .pointer _) rfl) ?_
  refine l_v (v_move (t := .pointer _) rfl) ?_
  refine l_v (v_nilCheck rfl) ?_
  refine l_v (v_fieldAddr (off := 1) (ft := 4) (by kernel_rfl) rfl) ?_
  refine l_v (v_load (by kernel_rfl) rfl (by first | exact HB1.pv 1 _ rfl | assumption)) ?_
  refine l_v (v_move (t := .bool _) rfl) ?_
  refine l_g1 rfl rfl (fun hG => v_move (t := .int _ _) rfl) ?_
  refine l_g1 rfl rfl (fun hG => v_eql (gd hG rfl) rfl) ?_
  refine l_v (v_and rfl rfl) ?_
  refine l_v (v_move (t := .bool _) rfl) ?_
  refine l_g1 rfl rfl (fun hG => v_move (t := .int _ _) rfl) ?_
  refine l_g1 rfl rfl (fun hG => v_move (t := .int _ _) rfl) ?_
  refine l_g1 rfl rfl (fun hG => v_conv (ds := .int .i64) (by kernel_rfl) (by kernel_rfl) (gd hG rfl) (by first | exact wr_u64 (by omega) (by omega) | rfl)) ?_
  refine l_g1 rfl rfl (fun hG => v_leq (gd hG rfl) (gd hG rfl)) ?_
  refine l_v (v_and rfl rfl) ?_
  refine l_v (v_nilCheck rfl) ?_
  refine l_v (v_fieldAddr (off := 1) (ft := 4) (by kernel_rfl) rfl) ?_
  refine l_to (to_store rfl rfl (show _ = (Value.bool _) from rfl) rfl (by kernel_rfl) HB1 (by simp) ?_)
  rintro w31 HB1 k31 z31
  have zs_k31 := k31.size
  try simp only [List.set_cons_zero, List.set_cons_succ] at HB1
  replace E := E.step k31 (by intro i hi he; (try dsimp only [NoK] at hi he ⊢); first | exact he.elim | omega | exact he)
  replace HR3 := HR3.keep k31 (by intro h; have h := h; (try dsimp only [NoK] at h); first | exact h | omega | (rcases h with h | h <;> omega)) (by intro i hi he; have hi0 := hi; have hi := hi; have he := he; (try dsimp only [NoK] at hi he); first | exact he.elim | omega | (have := hF i hi0; omega))
  refine l_nil ?_
  refine n_then ?_
  refine c_seq ?_
  have hcv : IntKind.i64.wrap (n : Int) = qV l := by
    rcases hnx with ⟨_, _, h⟩ | ⟨_, h0, _, h⟩
    · simp [qV, qN, h]
    · subst h0; simp [qV, qN, h]
  refine wp_reg (by decide +kernel) ?_
  refine l_v (v_move (t := .int _ _) rfl) ?_
  refine l_v (v_conv (t := qV l) (ds := .int .u64) (by kernel_rfl) (by kernel_rfl) rfl (hcv)) ?_
  refine l_v (v_assign (t := .int _ _) rfl) ?_
  refine l_nil ?_
  refine n_then ?_
  refine c_ret ?_
  refine ret1v rfl (by decide) (show _ = (Value.int _ _) from rfl) ?_
  have hq : (qS most (l, ok)).2 = (ok && decide (ne = 0) && decide (n ≤ most)) := by
    rcases hnx with ⟨h0, _, h⟩ | ⟨h0, _, _, h⟩ <;> simp [qS, qOk, h, h0]
  rw [hq]
  have h9 : decide ((n : Int) ≤ (most : Int)) = decide (n ≤ most) := by simp
  rw [h9] at HB1
  exact ⟨rfl, ⟨HB1, HR3⟩, E⟩
theorem SlV_at {α : Type} {t : Ty α} {w : World} {F : Nat → Prop} {a : Option Addr} {n c k : Nat} {xs : List α} {x : α} (h : SlV t w F (.slice a n c) xs) (hk : xs[k]? = some x) :
    ∃ q cs, a = some q ∧ F q.block ∧ Pv w (q.add (k * t.sz)) cs ∧ t.rep w F cs x := by
  obtain ⟨a', c', he, h1, h2, h3, h4⟩ := h
  cases he
  exact h4 k x hk
theorem refRFlag_c {w : World} {b : Nat} {F : Nat → Prop} {l : List UInt8} (hr : Rf w b F l) (hF : ¬ F b) : CallsR Try.prog 108 #[.pointer (some ⟨b, 0, none⟩)] w (fun r w' => r = flagV l ∧ Rf w' b F (restF l) ∧ Keep (fun k => k = b) w w') := by
  obtain ⟨v, hb, hv⟩ := hr
  obtain ⟨a, c, rfl⟩ := hv.shape
  cases l with
  | nil =>
    refine enter 36 Try.func108 rfl rfl (by simp) ?_
    refine c_seq ?_
    refine wp_reg (by decide +kernel) ?_
    refine l_v (v_assign rfl) ?_
    refine l_v (v_assign rfl) ?_
    refine l_nil ?_
    refine n_then ?_
    refine c_seq ?_
    refine c_seq ?_
    refine wp_reg (by decide +kernel) ?_
    refine l_v (v_move (t := .pointer _) rfl) ?_
    refine l_v (v_nilCheck rfl) ?_
    refine l_v (v_fieldAddr (off := 0) (ft := 24) (by kernel_rfl) rfl) ?_
    refine l_v (v_load (by kernel_rfl) rfl (hb.pv 0 _ rfl)) ?_
    refine l_v (v_len (et := 5) (by kernel_rfl) rfl) ?_
    refine l_v (OpVat.as (b := true) (v_eql rfl rfl) (by first | rfl | (simp; done) | (simp; omega))) ?_
    refine l_v (v_move (t := .bool _) rfl) ?_
    refine l_skip (u := .bool true) rfl rfl rfl ?_
    refine l_skip (u := .bool true) rfl rfl rfl ?_
    refine l_skip (u := .bool true) rfl rfl rfl ?_
    refine l_skip (u := .bool true) rfl rfl rfl ?_
    refine l_skip (u := .bool true) rfl rfl rfl ?_
    refine l_skip (u := .bool true) rfl rfl rfl ?_
    refine l_skip (u := .bool true) rfl rfl rfl ?_
    refine l_v (v_orC rfl) ?_
    refine l_nil ?_
    refine n_then ?_
    refine c_cond rfl rfl (fun hc => ?_) (fun hc => ?_)
    · skip
      refine c_seq ?_
      refine wp_reg (by decide +kernel) ?_
      refine l_v (v_assign rfl) ?_
      refine l_v (v_assign rfl) ?_
      refine l_nil ?_
      refine n_then ?_
      refine c_ret ?_
      refine r_then ?_
      refine ret2 rfl (by decide) (by decide) ?_
      exact ⟨rfl, ⟨_, hb, hv⟩, Keep.refl _⟩
    · skip
      cases hc
  | cons x l =>
    obtain ⟨q, cs, rfl, _, hp, hrep⟩ := SlV_at hv (k := 0) (x := x) rfl
    by_cases hx : 1 < x.toNat
    · have hd : rdFlag (x :: l) = none := by rw [rdFlag, if_pos hx]
      refine enter 36 Try.func108 rfl rfl (by simp) ?_
      refine c_seq ?_
      refine wp_reg (by decide +kernel) ?_
      refine l_v (v_assign rfl) ?_
      refine l_v (v_assign rfl) ?_
      refine l_nil ?_
      refine n_then ?_
      refine c_seq ?_
      refine c_seq ?_
      refine wp_reg (by decide +kernel) ?_
      refine l_v (v_move (t := .pointer _) rfl) ?_
      refine l_v (v_nilCheck rfl) ?_
      refine l_v (v_fieldAddr (off := 0) (ft := 24) (by kernel_rfl) rfl) ?_
      refine l_v (v_load (by kernel_rfl) rfl (hb.pv 0 _ rfl)) ?_
      refine l_v (v_len (et := 5) (by kernel_rfl) rfl) ?_
      refine l_v (OpVat.as (b := false) (v_eql rfl rfl) (by first | rfl | (simp; done) | (simp; omega))) ?_
      refine l_v (v_move (t := .bool _) rfl) ?_
      refine l_gt rfl rfl (OpTo.of_v (v_move (t := .pointer _) rfl) ?_)
      refine l_gt rfl rfl (OpTo.of_v (v_nilCheck rfl) ?_)
      refine l_gt rfl rfl (OpTo.of_v (v_fieldAddr (off := 0) (ft := 24) (by kernel_rfl) rfl) ?_)
      refine l_gt rfl rfl (OpTo.of_v (v_load (by kernel_rfl) rfl (hb.pv 0 _ rfl)) ?_)
      refine l_gt rfl rfl (OpTo.of_v (v_indexAddr (et := 5) (sz := 1) (k := 0) (by kernel_rfl) (by kernel_rfl) rfl rfl (by first | rfl | omega) (by simp)) ?_)
      refine l_gt rfl rfl (OpTo.of_v (v_load (by kernel_rfl) rfl (pv_u8 hp hrep)) ?_)
      refine l_gt rfl rfl (OpTo.of_v (OpVat.as (b := true) (v_gtr rfl rfl) (decide_eq_true (by omega))) ?_)
      refine l_v (v_orT rfl rfl) ?_
      refine l_nil ?_
      refine n_then ?_
      refine c_cond rfl rfl (fun hc => ?_) (fun hc => ?_)
      · skip
        refine c_seq ?_
        refine wp_reg (by decide +kernel) ?_
        refine l_v (v_assign rfl) ?_
        refine l_v (v_assign rfl) ?_
        refine l_nil ?_
        refine n_then ?_
        refine c_ret ?_
        refine r_then ?_
        refine ret2 rfl (by decide) (by decide) ?_
        exact ⟨by rw [flagV, hd]; rfl, by rw [restF, hd]; exact ⟨_, hb, hv⟩, Keep.refl _⟩
      · skip
        cases hc
    · have hd : rdFlag (x :: l) = some (decide (0 < x.toNat), l) := by rw [rdFlag, if_neg hx]
      refine enter 36 Try.func108 rfl rfl (by simp) ?_
      refine c_seq ?_
      refine wp_reg (by decide +kernel) ?_
      refine l_v (v_assign rfl) ?_
      refine l_v (v_assign rfl) ?_
      refine l_nil ?_
      refine n_then ?_
      refine c_seq ?_
      refine c_seq ?_
      refine wp_reg (by decide +kernel) ?_
      refine l_v (v_move (t := .pointer _) rfl) ?_
      refine l_v (v_nilCheck rfl) ?_
      refine l_v (v_fieldAddr (off := 0) (ft := 24) (by kernel_rfl) rfl) ?_
      refine l_v (v_load (by kernel_rfl) rfl (hb.pv 0 _ rfl)) ?_
      refine l_v (v_len (et := 5) (by kernel_rfl) rfl) ?_
      refine l_v (OpVat.as (b := false) (v_eql rfl rfl) (by first | rfl | (simp; done) | (simp; omega))) ?_
      refine l_v (v_move (t := .bool _) rfl) ?_
      refine l_gt rfl rfl (OpTo.of_v (v_move (t := .pointer _) rfl) ?_)
      refine l_gt rfl rfl (OpTo.of_v (v_nilCheck rfl) ?_)
      refine l_gt rfl rfl (OpTo.of_v (v_fieldAddr (off := 0) (ft := 24) (by kernel_rfl) rfl) ?_)
      refine l_gt rfl rfl (OpTo.of_v (v_load (by kernel_rfl) rfl (hb.pv 0 _ rfl)) ?_)
      refine l_gt rfl rfl (OpTo.of_v (v_indexAddr (et := 5) (sz := 1) (k := 0) (by kernel_rfl) (by kernel_rfl) rfl rfl (by first | rfl | omega) (by simp)) ?_)
      refine l_gt rfl rfl (OpTo.of_v (v_load (by kernel_rfl) rfl (pv_u8 hp hrep)) ?_)
      refine l_gt rfl rfl (OpTo.of_v (OpVat.as (b := false) (v_gtr rfl rfl) (decide_eq_false (by omega))) ?_)
      refine l_v (v_orT rfl rfl) ?_
      refine l_nil ?_
      refine n_then ?_
      refine c_cond rfl rfl (fun hc => ?_) (fun hc => ?_)
      · skip
        cases hc
      · skip
        refine c_skip ?_
        refine n_then ?_
        refine c_seq ?_
        refine wp_reg (by decide +kernel) ?_
        refine l_v (v_move (t := .pointer _) rfl) ?_
        refine l_v (v_nilCheck rfl) ?_
        refine l_v (v_fieldAddr (off := 0) (ft := 24) (by kernel_rfl) rfl) ?_
        refine l_v (v_load (by kernel_rfl) rfl (hb.pv 0 _ rfl)) ?_
        refine l_to (to_index (et := 5) (by kernel_rfl) (by kernel_rfl) (show _ = (Value.slice _ _ _) from rfl) hv (show _ = (Value.int _ _) from rfl) rfl (show (x :: l)[0]? = some x from rfl) ?_)
        rintro q2 cs2 hFq hp2 hrep2
        refine l_v (v_load (by kernel_rfl) rfl (pv_u8 hp2 hrep2)) ?_
        refine l_v (v_eql rfl rfl) ?_
        refine l_v (v_assign (t := .bool _) rfl) ?_
        refine l_nil ?_
        refine n_then ?_
        refine c_seq ?_
        refine wp_reg (by decide +kernel) ?_
        refine l_v (v_move (t := .pointer _) rfl) ?_
        refine l_v (v_move (t := .pointer _) rfl) ?_
        refine l_v (v_nilCheck rfl) ?_
        refine l_v (v_fieldAddr (off := 0) (ft := 24) (by kernel_rfl) rfl) ?_
        refine l_v (v_load (by kernel_rfl) rfl (hb.pv 0 _ rfl)) ?_
        refine l_to (to_slice (et := 5) (l := 1) (h := (x :: l).length) (by kernel_rfl) (by kernel_rfl) (show _ = (Value.slice _ _ _) from rfl) hv ⟨_, by exact rfl⟩ rfl (by first | omega | (simp; done) | (simp; omega)) (by first | omega | (simp; done) | (simp; omega)) ?_)
        rintro a2 n2 c2 h2s rfl hn2
        rw [List.take_length] at h2s
        refine l_v (v_nilCheck rfl) ?_
        refine l_v (v_fieldAddr (off := 0) (ft := 24) (by kernel_rfl) rfl) ?_
        refine l_to (to_store rfl rfl (show _ = (Value.slice _ _ _) from rfl) rfl (by kernel_rfl) hb (by simp) ?_)
        rintro w3 h3 k3 z3
        have zs_k3 := k3.size
        refine l_nil ?_
        refine n_then ?_
        refine c_seq ?_
        refine wp_reg (by decide +kernel) ?_
        refine l_v (v_move (t := .bool _) rfl) ?_
        refine l_v (v_assign (t := .bool _) rfl) ?_
        refine l_v (v_assign rfl) ?_
        refine l_nil ?_
        refine n_then ?_
        refine c_ret ?_
        refine ret2 rfl (by decide) (by decide) ?_
        refine ⟨?_, ?_, k3⟩
        · rw [flagV, hd]
          have : decide ((x.toNat : Int) = 1) = decide (0 < x.toNat) := by rw [decide_eq_decide]; omega
          show Value.tuple #[Value.bool (decide ((x.toNat : Int) = 1)), _] = _
          rw [this]; rfl
        · rw [restF, hd]
          exact ⟨_, h3, h2s.keep k3 fun b' _ hb' he => hF (by subst he; exact hb')⟩

/-- a number, at most so great -/
def qFS (s : QSt) : QSt := (restF s.1, s.2 && (rdFlag s.1).isSome)
def qFV (l : List UInt8) : Bool := match rdFlag l with | some (b, _) => b | none => false
theorem refrflag_c {w : World} {F : Nat → Prop} {bx rb : Nat} {l : List UInt8} {ok : Bool} (HB1 : Blk w bx [.pointer (some ⟨rb, 0, none⟩), .bool ok] 128) (HR : Rf w rb F l) (hF : ∀ k, F k → k < rb) (hx : rb < bx) : CallsR Try.prog 87 #[.pointer (some ⟨bx, 0, none⟩)] w (fun o w' => o = .bool (qFV l) ∧ (Blk w' bx [.pointer (some ⟨rb, 0, none⟩), .bool (qFS (l, ok)).2] 128 ∧ Rf w' rb F (qFS (l, ok)).1) ∧ Keep (fun k => k = bx ∨ k = rb) w w') := by
  have hnF : ¬ F rb := fun h => absurd (hF rb h) (Nat.lt_irrefl rb)
  refine enter 25 Try.func87 rfl rfl (by simp) ?_
  refine c_seq ?_
  have E := Keep.refl (K := fun k => k = bx ∨ k = rb) w
  refine wp_reg (by decide +kernel) ?_
  refine l_v (v_assign rfl) ?_
  refine l_nil ?_
  refine n_then ?_
  refine c_seq ?_
  refine wp_reg (by decide +kernel) ?_
  refine l_v (v_move (t := .pointer _) rfl) ?_
  refine l_v (v_nilCheck rfl) ?_
  refine l_v (v_fieldAddr (off := 0) (ft := 124) (by kernel_rfl) rfl) ?_
  refine l_v (v_load (by kernel_rfl) rfl (by first | exact HB1.pv 0 _ rfl | assumption)) ?_
  refine l_to (to_f1 (by kernel_rfl) (show _ = (Value.pointer _) from rfl) (CallsR.mono (refRFlag_c HR hnF) ?_))
  rintro r w3 ⟨hr3, HR3, k3⟩
  have zs_k3 := k3.size
  have hv : flagV l = .tuple #[.bool (qFV l), .int .i64 (if (rdFlag l).isSome then 0 else 4)] := by
    unfold flagV qFV; rcases rdFlag l with _ | ⟨b, r⟩ <;> rfl
  rw [hv] at hr3
  subst hr3
  replace E := E.step k3 (by intro i hi he; (try dsimp only [NoK] at hi he ⊢); first | exact he.elim | omega | exact he)
  replace HB1 := HB1.keep k3 (by intro h; (try dsimp only at h); first | omega)
  refine l_v (v_move (t := .tuple _) rfl) ?_
  refine l_v (v_extract (t := .bool _) rfl rfl) ?_
  refine l_v (v_extract (t := .int _ _) rfl rfl) ?_
  refine l_v (v_assign (t := .bool _) rfl) ?_
  refine l_v (v_assign (t := .int _ _) rfl) ?_
  refine l_nil ?_
  refine n_then ?_
  refine c_seq ?_
  refine wp_reg (by decide +kernel) ?_
  refine l_v (v_move (t := .pointer _) rfl) ?_
  refine l_v (v_move (t := .pointer _) rfl) ?_
  refine l_v (v_nilCheck rfl) ?_
  refine l_v (v_fieldAddr (off := 1) (ft := 4) (by kernel_rfl) rfl) ?_
  refine l_v (v_load (by kernel_rfl) rfl (by first | exact HB1.pv 1 _ rfl | assumption)) ?_
  refine l_v (v_move (t := .bool _) rfl) ?_
  refine l_g1 rfl rfl (fun hG => v_move (t := .int _ _) rfl) ?_
  refine l_g1 rfl rfl (fun hG => v_eql (gd hG rfl) rfl) ?_
  refine l_v (v_and rfl rfl) ?_
  refine l_v (v_nilCheck rfl) ?_
  refine l_v (v_fieldAddr (off := 1) (ft := 4) (by kernel_rfl) rfl) ?_
  refine l_to (to_store rfl rfl (show _ = (Value.bool _) from rfl) rfl (by kernel_rfl) HB1 (by simp) ?_)
  rintro w31 HB1 k31 z31
  have zs_k31 := k31.size
  try simp only [List.set_cons_zero, List.set_cons_succ] at HB1
  replace E := E.step k31 (by intro i hi he; (try dsimp only [NoK] at hi he ⊢); first | exact he.elim | omega | exact he)
  replace HR3 := HR3.keep k31 (by intro h; have h := h; (try dsimp only [NoK] at h); first | exact h | omega | (rcases h with h | h <;> omega)) (by intro i hi he; have hi0 := hi; have hi := hi; have he := he; (try dsimp only [NoK] at hi he); first | exact he.elim | omega | (have := hF i hi0; omega))
  refine l_nil ?_
  refine n_then ?_
  refine c_seq ?_
  refine wp_reg (by decide +kernel) ?_
  refine l_v (v_move (t := .bool _) rfl) ?_
  refine l_v (v_assign (t := .bool _) rfl) ?_
  refine l_nil ?_
  refine n_then ?_
  refine c_ret ?_
  refine ret1v rfl (by decide) (show _ = (Value.bool _) from rfl) ?_
  have hq : (ok && decide ((if (rdFlag l).isSome then (0 : Int) else 4) = 0)) = (qFS (l, ok)).2 := by
    unfold qFS; rcases rdFlag l with _ | ⟨b, r⟩ <;> simp
  rw [hq] at HB1
  exact ⟨rfl, ⟨HB1, HR3⟩, E⟩
end Go.Proofs.Ytaidpdjlchnonaa
