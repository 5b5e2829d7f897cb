/- A part of the proof: steps and lemmas for the walks through the given program. -/
import Derived.Test.YtogafjlbpodgjaaGreatC27
import Derived.Test.YtogafjlbpodgjaaGreatGu
import Derived.Test.YtogafjlbpodgjaaGreatC16
namespace Go.Proofs.YtogafjlbpodgjaaGreat
open Go.Vc
set_option linter.unusedVariables false
set_option linter.unusedSimpArgs false
set_option maxRecDepth 100000

/-- the document's reader: what is left, and is all well so far? -/
abbrev QSt := List UInt8 × Bool
def qN (l : List UInt8) : Nat := match rdNum l with | some (n, _) => n | none => 0
def qV (l : List UInt8) : Int := IntKind.i64.wrap (qN l)
def qOk (most : Nat) (l : List UInt8) : Bool := match rdNum l with | some (n, _) => decide (n ≤ most) | none => false
def qS (most : Nat) (s : QSt) : QSt := (rest s.1, s.2 && qOk most s.1)
theorem qV_wf (l : List UInt8) : I64 (qV l) := by
  unfold qV I64 IntKind.wrap; simp only [IntKind.bits, IntKind.signed]; (try simp); omega
theorem refnum_c {w : World} {F : Nat → Prop} {bx rb most : Nat} {l : List UInt8} {ok : Bool} (HB1 : Blk w bx [.pointer (some ⟨rb, 0, none⟩), .bool ok] 81) (HR : Rf w rb F l) (hF : ∀ k, F k → k < rb) (hx : rb < bx) (hm : most ≤ 9223372036854775807) : CallsR Tryz.prog 42 #[.pointer (some ⟨bx, 0, none⟩), .int .i64 most] w (fun o w' => o = .int .i64 (qV l) ∧ (Blk w' bx [.pointer (some ⟨rb, 0, none⟩), .bool (qS most (l, ok)).2] 81 ∧ Rf w' rb F (qS most (l, ok)).1) ∧ Keep (fun k => k = bx ∨ k = rb) w w') := by
 have hnF : ¬ F rb := fun h => absurd (hF rb h) (Nat.lt_irrefl rb)
 refine enter 34 Tryz.func42 rfl rfl (by simp) ?_
 refine c_seq ?_
 have E := Keep.refl (K := fun k => k = bx ∨ k = rb) w
 refine wp_reg zd (l_v (v_assign rfl) (l_nil (n_then (c_seq (wp_reg zd (l_v (zmP rfl) (l_v (v_nilCheck rfl) ?_)))))))
 refine l_v (v_fieldAddr (off := 0) (ft := 77) zk rfl) (l_v (v_load zk rfl (by first | exact HB1.pv 0 _ rfl | assumption)) ?_)
 refine l_to (to_f1 zk (zvP rfl) (CallsR.mono (refRNumber_c HR hnF) ?_))
 rintro r w3 ⟨hr3, HR3, k3⟩
 have := k3.size
 obtain ⟨n, ne, hn, hnl, hnx⟩ := numV_any l
 rw [hn] at hr3
 subst hr3
 refine l_v (zmT rfl) (l_v (v_extract (t := .int _ _) rfl rfl) (l_v (v_extract (t := .int _ _) rfl rfl) (l_v (zaI rfl) (l_v (zaI rfl) (l_nil (n_then (c_seq (wp_reg zd (l_v (zmP rfl) ?_)))))))))
 refine l_v (zmP rfl) (l_v (v_nilCheck rfl) ?_)
 replace HB1 := HB1.keep k3 dj4
 refine l_v (v_fieldAddr (off := 1) (ft := 4) zk rfl) (l_v (v_load zk rfl (by first | exact HB1.pv 1 _ rfl | assumption)) ?_)
 refine l_v (zmB rfl) (l_g1 rfl rfl (fun hG => zmI rfl) (l_g1 rfl rfl (fun hG => v_eql (gd hG rfl) rfl) ?_))
 refine l_v (v_and rfl rfl) ?_
 refine l_v (zmB rfl) (l_g1 rfl rfl (fun hG => zmI rfl) (l_g1 rfl rfl (fun hG => zmI rfl) (l_g1 rfl rfl (fun hG => v_conv (ds := .int .i64) zk zk (gd hG rfl) (by first | exact wr_u64 zo zo | rfl)) ?_)))
 refine l_g1 rfl rfl (fun hG => v_leq (gd hG rfl) (gd hG rfl)) ?_
 refine l_v (v_and rfl rfl) ?_
 refine l_v (v_nilCheck rfl) ?_
 refine l_v (v_fieldAddr (off := 1) (ft := 4) zk rfl) (l_to (to_store rfl rfl (zvB rfl) rfl zk HB1 (by simp) ?_))
 rintro w31 HB1 k31 z31
 have := k31.size
 try simp only [List.set_cons_zero, List.set_cons_succ] at HB1
 refine l_nil (n_then (c_seq ?_))
 replace E := (E.step k3 dj3).step k31 dj3
 replace HR3 := HR3.keep k31 dj7 (by intro i hi he; have hi0 := hi; have hi := hi; have he := he; (try dsimp only [NoK] at hi he); first | exact he.elim | omega | (have := hF i hi0; omega))
 have hcv : IntKind.i64.wrap (n : Int) = qV l := by
  rcases hnx with ⟨_, _, h⟩ | ⟨_, h0, _, h⟩
  ·
   simp [qV, qN, h]
  subst h0; simp [qV, qN, h]
 refine wp_reg zd (l_v (zmI rfl) (l_v (v_conv (t := qV l) (ds := .int .u64) zk zk rfl (hcv)) ?_))
 refine l_v (zaI rfl) (l_nil (n_then (c_ret (ret1v rfl zq (zvI rfl) ?_))))
 have hq : (qS most (l, ok)).2 = (ok && decide (ne = 0) && decide (n ≤ most)) := by
  rcases hnx with ⟨h0, _, h⟩ | ⟨h0, _, _, h⟩ <;> simp [qS, qOk, h, h0]
 rw [hq]
 have h9 : decide ((n : Int) ≤ (most : Int)) = decide (n ≤ most) := by simp
 rw [h9] at HB1
 exact ⟨rfl, ⟨HB1, HR3⟩, E⟩
theorem SlV_at {α : Type} {t : Ty α} {w : World} {F : Nat → Prop} {a : Option Addr} {n c k : Nat} {xs : List α} {x : α} (h : SlV t w F (.slice a n c) xs) (hk : xs[k]? = some x) :
    ∃ q cs, a = some q ∧ F q.block ∧ Pv w (q.add (k * t.sz)) cs ∧ t.rep w F cs x := by
  obtain ⟨a', c', he, h1, h2, h3, h4⟩ := h
  cases he
  exact h4 k x hk
theorem refRFlag_c {w : World} {b : Nat} {F : Nat → Prop} {l : List UInt8} (hr : Rf w b F l) (hF : ¬ F b) : CallsR Tryz.prog 110 #[.pointer (some ⟨b, 0, none⟩)] w (fun r w' => r = flagV l ∧ Rf w' b F (restF l) ∧ Keep (fun k => k = b) w w') := by
 obtain ⟨v, hb, hv⟩ := hr
 obtain ⟨a, c, rfl⟩ := hv.shape
 cases l with
 | nil =>
  refine enter 36 Tryz.func110 rfl rfl (by simp) ?_
  refine c_seq (wp_reg zd (l_v (v_assign rfl) (l_v (v_assign rfl) (l_nil (n_then (c_seq (c_seq (wp_reg zd (l_v (zmP rfl) ?_)))))))))
  refine l_v (v_nilCheck rfl) ?_
  refine l_v (v_fieldAddr (off := 0) (ft := 24) zk rfl) (l_v (v_load zk rfl (hb.pv 0 _ rfl)) ?_)
  refine l_v (v_len (et := 5) zk rfl) ?_
  refine l_v (OpVat.as (b := true) (v_eql rfl rfl) (by first | rfl | (simp; done) | (simp; omega))) ?_
  refine l_v (zmB rfl) (l_skip (u := .bool true) rfl rfl rfl ?_)
  refine l_skip (u := .bool true) rfl rfl rfl ?_
  refine l_skip (u := .bool true) rfl rfl rfl ?_
  refine l_skip (u := .bool true) rfl rfl rfl ?_
  refine l_skip (u := .bool true) rfl rfl rfl ?_
  refine l_skip (u := .bool true) rfl rfl rfl ?_
  refine l_skip (u := .bool true) rfl rfl rfl ?_
  refine l_v (v_orC rfl) ?_
  refine l_nil (n_then (c_cond rfl rfl (fun hc => ?_) (fun hc => ?_)))
  ·
   refine c_seq (wp_reg zd (l_v (v_assign rfl) (l_v (v_assign rfl) (l_nil (n_then (c_ret (r_then (ret2 rfl zq zq ?_))))))))
   exact ⟨rfl, ⟨_, hb, hv⟩, Keep.refl _⟩
  cases hc
 | cons x l =>
  obtain ⟨q, cs, rfl, _, hp, hrep⟩ := SlV_at hv (k := 0) (x := x) rfl
  by_cases hx : 1 < x.toNat
  ·
   have hd : rdFlag (x :: l) = none := by rw [rdFlag, if_pos hx]
   refine enter 36 Tryz.func110 rfl rfl (by simp) ?_
   refine c_seq (wp_reg zd (l_v (v_assign rfl) (l_v (v_assign rfl) (l_nil (n_then (c_seq (c_seq (wp_reg zd (l_v (zmP rfl) ?_)))))))))
   refine l_v (v_nilCheck rfl) ?_
   refine l_v (v_fieldAddr (off := 0) (ft := 24) zk rfl) (l_v (v_load zk rfl (hb.pv 0 _ rfl)) ?_)
   refine l_v (v_len (et := 5) zk rfl) ?_
   refine l_v (OpVat.as (b := false) (v_eql rfl rfl) (by first | rfl | (simp; done) | (simp; omega))) ?_
   refine l_v (zmB rfl) (l_gt rfl rfl (OpTo.of_v (zmP rfl) ?_))
   refine l_gt rfl rfl (OpTo.of_v (v_nilCheck rfl) ?_)
   refine l_gt rfl rfl (OpTo.of_v (v_fieldAddr (off := 0) (ft := 24) zk rfl) ?_)
   refine l_gt rfl rfl (OpTo.of_v (v_load zk rfl (hb.pv 0 _ rfl)) ?_)
   refine l_gt rfl rfl (OpTo.of_v (v_indexAddr (et := 5) (sz := 1) (k := 0) zk zk rfl rfl (by first | rfl | omega) (by simp)) ?_)
   refine l_gt rfl rfl (OpTo.of_v (v_load zk rfl (pv_u8 hp hrep)) ?_)
   refine l_gt rfl rfl (OpTo.of_v (OpVat.as (b := true) (v_gtr rfl rfl) (decide_eq_true zo)) ?_)
   refine l_v (v_orT rfl rfl) ?_
   refine l_nil (n_then (c_cond rfl rfl (fun hc => ?_) (fun hc => ?_)))
   ·
    refine c_seq (wp_reg zd (l_v (v_assign rfl) (l_v (v_assign rfl) (l_nil (n_then (c_ret (r_then (ret2 rfl zq zq ?_))))))))
    exact ⟨by rw [flagV, hd]; rfl, by rw [restF, hd]; exact ⟨_, hb, hv⟩, Keep.refl _⟩
   cases hc
  have hd : rdFlag (x :: l) = some (decide (0 < x.toNat), l) := by rw [rdFlag, if_neg hx]
  refine enter 36 Tryz.func110 rfl rfl (by simp) ?_
  refine c_seq (wp_reg zd (l_v (v_assign rfl) (l_v (v_assign rfl) (l_nil (n_then (c_seq (c_seq (wp_reg zd (l_v (zmP rfl) ?_)))))))))
  refine l_v (v_nilCheck rfl) ?_
  refine l_v (v_fieldAddr (off := 0) (ft := 24) zk rfl) (l_v (v_load zk rfl (hb.pv 0 _ rfl)) ?_)
  refine l_v (v_len (et := 5) zk rfl) ?_
  refine l_v (OpVat.as (b := false) (v_eql rfl rfl) (by first | rfl | (simp; done) | (simp; omega))) ?_
  refine l_v (zmB rfl) (l_gt rfl rfl (OpTo.of_v (zmP rfl) ?_))
  refine l_gt rfl rfl (OpTo.of_v (v_nilCheck rfl) ?_)
  refine l_gt rfl rfl (OpTo.of_v (v_fieldAddr (off := 0) (ft := 24) zk rfl) ?_)
  refine l_gt rfl rfl (OpTo.of_v (v_load zk rfl (hb.pv 0 _ rfl)) ?_)
  refine l_gt rfl rfl (OpTo.of_v (v_indexAddr (et := 5) (sz := 1) (k := 0) zk zk rfl rfl (by first | rfl | omega) (by simp)) ?_)
  refine l_gt rfl rfl (OpTo.of_v (v_load zk rfl (pv_u8 hp hrep)) ?_)
  refine l_gt rfl rfl (OpTo.of_v (OpVat.as (b := false) (v_gtr rfl rfl) (decide_eq_false zo)) ?_)
  refine l_v (v_orT rfl rfl) ?_
  refine l_nil (n_then (c_cond rfl rfl (fun hc => ?_) (fun hc => ?_)))
  ·
   cases hc
  refine c_skip (n_then (c_seq (wp_reg zd (l_v (zmP rfl) (l_v (v_nilCheck rfl) ?_)))))
  refine l_v (v_fieldAddr (off := 0) (ft := 24) zk rfl) (l_v (v_load zk rfl (hb.pv 0 _ rfl)) ?_)
  refine l_to (to_index (et := 5) zk zk (zvS rfl) hv (zvI rfl) rfl (show (x :: l)[0]? = some x from rfl) ?_)
  rintro q2 cs2 hFq hp2 hrep2
  refine l_v (v_load zk rfl (pv_u8 hp2 hrep2)) ?_
  refine l_v (v_eql rfl rfl) ?_
  refine l_v (zaB rfl) (l_nil (n_then (c_seq (wp_reg zd (l_v (zmP rfl) (l_v (zmP rfl) (l_v (v_nilCheck rfl) ?_)))))))
  refine l_v (v_fieldAddr (off := 0) (ft := 24) zk rfl) (l_v (v_load zk rfl (hb.pv 0 _ rfl)) ?_)
  refine l_to (to_slice (et := 5) (l := 1) (h := (x :: l).length) zk zk (zvS rfl) hv ⟨_, by exact rfl⟩ rfl (by first | omega | (simp; done) | (simp; omega)) (by first | omega | (simp; done) | (simp; omega)) ?_)
  rintro a2 n2 c2 h2s rfl hn2
  rw [List.take_length] at h2s
  refine l_v (v_nilCheck rfl) ?_
  refine l_v (v_fieldAddr (off := 0) (ft := 24) zk rfl) (l_to (to_store rfl rfl (zvS rfl) rfl zk hb (by simp) ?_))
  rintro w3 h3 k3 z3
  have := k3.size
  refine l_nil (n_then (c_seq (wp_reg zd (l_v (zmB rfl) (l_v (zaB rfl) (l_v (v_assign rfl) (l_nil (n_then (c_ret ?_)))))))))
  refine ret2 rfl zq zq ?_
  refine ⟨?_, ?_, k3⟩
  ·
   rw [flagV, hd]
   have : decide ((x.toNat : Int) = 1) = decide (0 < x.toNat) := by rw [decide_eq_decide]; omega
   show Value.tuple #[Value.bool (decide ((x.toNat : Int) = 1)), _] = _
   rw [this]; rfl
  rw [restF, hd]
  exact ⟨_, h3, h2s.keep k3 fun b' _ hb' he => hF (by subst he; exact hb')⟩
/-- a number, at most so great -/
def qFS (s : QSt) : QSt := (restF s.1, s.2 && (rdFlag s.1).isSome)
def qFV (l : List UInt8) : Bool := match rdFlag l with | some (b, _) => b | none => false
theorem refrflag_c {w : World} {F : Nat → Prop} {bx rb : Nat} {l : List UInt8} {ok : Bool} (HB1 : Blk w bx [.pointer (some ⟨rb, 0, none⟩), .bool ok] 81) (HR : Rf w rb F l) (hF : ∀ k, F k → k < rb) (hx : rb < bx) : CallsR Tryz.prog 86 #[.pointer (some ⟨bx, 0, none⟩)] w (fun o w' => o = .bool (qFV l) ∧ (Blk w' bx [.pointer (some ⟨rb, 0, none⟩), .bool (qFS (l, ok)).2] 81 ∧ Rf w' rb F (qFS (l, ok)).1) ∧ Keep (fun k => k = bx ∨ k = rb) w w') := by
 have hnF : ¬ F rb := fun h => absurd (hF rb h) (Nat.lt_irrefl rb)
 refine enter 25 Tryz.func86 rfl rfl (by simp) ?_
 refine c_seq ?_
 have E := Keep.refl (K := fun k => k = bx ∨ k = rb) w
 refine wp_reg zd (l_v (v_assign rfl) (l_nil (n_then (c_seq (wp_reg zd (l_v (zmP rfl) (l_v (v_nilCheck rfl) ?_)))))))
 refine l_v (v_fieldAddr (off := 0) (ft := 77) zk rfl) (l_v (v_load zk rfl (by first | exact HB1.pv 0 _ rfl | assumption)) ?_)
 refine l_to (to_f1 zk (zvP rfl) (CallsR.mono (refRFlag_c HR hnF) ?_))
 rintro r w3 ⟨hr3, HR3, k3⟩
 have := k3.size
 have hv : flagV l = .tuple #[.bool (qFV l), .int .i64 (if (rdFlag l).isSome then 0 else 4)] := by
  unfold flagV qFV; rcases rdFlag l with _ | ⟨b, r⟩ <;> rfl
 rw [hv] at hr3
 subst hr3
 refine l_v (zmT rfl) (l_v (v_extract (t := .bool _) rfl rfl) (l_v (v_extract (t := .int _ _) rfl rfl) (l_v (zaB rfl) (l_v (zaI rfl) (l_nil (n_then (c_seq (wp_reg zd (l_v (zmP rfl) ?_)))))))))
 refine l_v (zmP rfl) (l_v (v_nilCheck rfl) ?_)
 replace HB1 := HB1.keep k3 dj4
 refine l_v (v_fieldAddr (off := 1) (ft := 4) zk rfl) (l_v (v_load zk rfl (by first | exact HB1.pv 1 _ rfl | assumption)) ?_)
 refine l_v (zmB rfl) (l_g1 rfl rfl (fun hG => zmI rfl) (l_g1 rfl rfl (fun hG => v_eql (gd hG rfl) rfl) ?_))
 refine l_v (v_and rfl rfl) ?_
 refine l_v (v_nilCheck rfl) ?_
 refine l_v (v_fieldAddr (off := 1) (ft := 4) zk rfl) (l_to (to_store rfl rfl (zvB rfl) rfl zk HB1 (by simp) ?_))
 rintro w31 HB1 k31 z31
 have := k31.size
 try simp only [List.set_cons_zero, List.set_cons_succ] at HB1
 refine l_nil (n_then (c_seq (wp_reg zd (l_v (zmB rfl) (l_v (zaB rfl) (l_nil (n_then (c_ret (ret1v rfl zq (zvB rfl) ?_)))))))))
 replace E := (E.step k3 dj3).step k31 dj3
 replace HR3 := HR3.keep k31 dj7 (by intro i hi he; have hi0 := hi; have hi := hi; have he := he; (try dsimp only [NoK] at hi he); first | exact he.elim | omega | (have := hF i hi0; omega))
 have hq : (ok && decide ((if (rdFlag l).isSome then (0 : Int) else 4) = 0)) = (qFS (l, ok)).2 := by
  unfold qFS; rcases rdFlag l with _ | ⟨b, r⟩ <;> simp
 rw [hq] at HB1
 exact ⟨rfl, ⟨HB1, HR3⟩, E⟩
def qB (most : Nat) (l : List UInt8) : List UInt8 := match rdBytes most l with | .ok (d, _) => d | .error _ => []
def qBR (most : Nat) (l : List UInt8) : List UInt8 := match rdBytes most l with | .ok (_, r) => r | .error _ => l
def qBk (most : Nat) (l : List UInt8) : Bool := match rdBytes most l with | .ok _ => true | .error _ => false
def qBS (most : Nat) (s : QSt) : QSt := (qBR most s.1, s.2 && qBk most s.1)
theorem rest_le (l : List UInt8) : (rest l).length ≤ l.length := by
  rw [rest]; rcases hd : rdNum l with _ | ⟨n, r⟩
  · exact Nat.le_refl _
  · have := congrArg List.length (rdNum_form hd)
    rw [List.length_append] at this
    simp only []; omega
theorem restF_le (l : List UInt8) : (restF l).length ≤ l.length := by
  rw [restF]; rcases hd : rdFlag l with _ | ⟨n, r⟩
  · exact Nat.le_refl _
  · have := (rdFlag_ok hd).2; exact this
theorem qBR_le (most : Nat) (l : List UInt8) : (qBR most l).length ≤ l.length ∧ (qB most l).length ≤ most := by
  rw [qBR, qB]
  rcases hd : rdBytes most l with e | ⟨d, r⟩
  · exact ⟨Nat.le_refl _, Nat.zero_le _⟩
  · have := rdBytes_le' hd; exact ⟨this.1, this.2.1⟩
set_option maxHeartbeats 1000000 in
theorem refrbytes_c {w : World} {F : Nat → Prop} {bx rb most : Nat} {l : List UInt8} {ok : Bool} (HB1 : Blk w bx [.pointer (some ⟨rb, 0, none⟩), .bool ok] 81) (HR : Rf w rb F l) (hF : ∀ k, F k → k < rb) (hx : rb < bx) (hm : most ≤ 1000000) (hl : l.length ≤ 1000000) : CallsR Tryz.prog 46 #[.pointer (some ⟨bx, 0, none⟩), .int .i64 (most : Int)] w (fun o w' => (∃ a c, o = .slice a (qB most l).length c ∧ Bv w' (fun b => w.heap.size ≤ b) (.slice a (qB most l).length c) (qB most l)) ∧ (Blk w' bx [.pointer (some ⟨rb, 0, none⟩), .bool (qBS most (l, ok)).2] 81 ∧ Rf w' rb F (qBS most (l, ok)).1) ∧ Keep (fun k => k = bx ∨ k = rb) w w') := by
 have hnF : ¬ F rb := fun h => absurd (hF rb h) (Nat.lt_irrefl rb)
 have zb1 := HB1.lt
 refine enter 28 Tryz.func46 rfl rfl (by simp) ?_
 refine c_seq ?_
 have E := Keep.refl (K := fun k => k = bx ∨ k = rb) w
 refine wp_reg zd (l_v (v_assign rfl) (l_nil (n_then (c_seq (wp_reg zd (l_v (zmP rfl) (l_v (v_nilCheck rfl) ?_)))))))
 refine l_v (v_fieldAddr (off := 0) (ft := 77) zk rfl) (l_v (v_load zk rfl (by first | exact HB1.pv 0 _ rfl | assumption)) ?_)
 refine l_v (zmI rfl) (l_to (to_f2 zk (zvP rfl) (zvI rfl) (CallsR.mono (refRBytes_c HR (fun k h => by have := hF k h; omega) hnF zo zo zo) ?_)))
 rintro r w3 ⟨hr3, k3⟩
 have := k3.size
 obtain ⟨a3, c3, er3, fr, l1, rfl, HS3, HR3, hx3⟩ := TryF_any hr3
 refine l_v (zmT rfl) (l_v (v_extract (t := .slice _ _ _) rfl rfl) (l_v (v_extract (t := .int _ _) rfl rfl) (l_v (zaS rfl) (l_v (zaI rfl) (l_nil (n_then (c_seq (wp_reg zd (l_v (zmP rfl) ?_)))))))))
 refine l_v (zmP rfl) (l_v (v_nilCheck rfl) ?_)
 replace HB1 := HB1.keep k3 dj4
 refine l_v (v_fieldAddr (off := 1) (ft := 4) zk rfl) (l_v (v_load zk rfl (by first | exact HB1.pv 1 _ rfl | assumption)) ?_)
 refine l_v (zmB rfl) (l_g1 rfl rfl (fun hG => zmI rfl) (l_g1 rfl rfl (fun hG => v_eql (gd hG rfl) rfl) ?_))
 refine l_v (v_and rfl rfl) ?_
 refine l_v (v_nilCheck rfl) ?_
 refine l_v (v_fieldAddr (off := 1) (ft := 4) zk rfl) (l_to (to_store rfl rfl (zvB rfl) rfl zk HB1 (by simp) ?_))
 rintro w31 HB1 k31 z31
 have := k31.size
 try simp only [List.set_cons_zero, List.set_cons_succ] at HB1
 refine l_nil (n_then (c_seq (wp_reg zd (l_v (zmS rfl) (l_v (zaS rfl) (l_nil (n_then (c_ret (ret1v rfl zq (zvS rfl) ?_)))))))))
 replace E := (E.step k3 dj3).step k31 dj3
 replace HS3 := HS3.keep k31 dj1
 replace HR3 := HR3.keep k31 dj7 (by intro i hi he; have hi0 := hi; have hi := hi; have he := he; (try dsimp only [NoK] at hi he); first | exact he.elim | omega | (have := hF i hi0; omega))
 have hq : fr = qB most l ∧ l1 = qBR most l ∧ decide (er3 = 0) = qBk most l := by
  rw [Int.toNat_natCast] at hx3
  rw [qB, qBR, qBk]
  rcases hx3 with ⟨h0, h1⟩ | ⟨h0, h1, h2, h3⟩
  ·
   rw [h1]; exact ⟨rfl, rfl, by simp [h0]⟩
  rw [h3]; exact ⟨h1, h2, by simp [h0]⟩
 obtain ⟨rfl, rfl, hk⟩ := hq
 rw [hk] at HB1
 exact ⟨⟨_, _, rfl, HS3⟩, ⟨HB1, HR3⟩, E⟩
def qAk (s : QSt) : AkV × QSt :=
  let k := qV s.1; let s1 := qS 9 s; let key := qB 24 s1.1; let s2 := qBS 24 s1
  if k = 2 then ((k, key, [], qB 40 s2.1, [], false, 0), qBS 40 s2)
  else if k = 4 then ((k, key, [], qB 40 s2.1, qB 40 (qBS 40 s2).1, qFV (qBS 40 (qBS 40 s2)).1, 0), qFS (qBS 40 (qBS 40 s2)))
  else if k = 5 then ((k, key, qB 24 s2.1, [], [], false, qV (qBS 24 s2).1), qS 32 (qBS 24 s2))
  else ((k, key, [], [], [], false, 0), s2)
def qMv (s : QSt) : MvV × QSt :=
  let s1 := qS 2147483647 s; let s2 := qBS 24 s1; let s3 := qFS s2; let s4 := qBS 24 s3; let s5 := qS 5 s4
  ((qV s.1, qB 24 s1.1, qB 24 s3.1, qFV s2.1, qV s4.1, qV s5.1), qS 5 s5)
theorem qS_le (m : Nat) (s : QSt) : (qS m s).1.length ≤ s.1.length := rest_le s.1
theorem qFS_le (s : QSt) : (qFS s).1.length ≤ s.1.length := restF_le s.1
theorem qBS_le (m : Nat) (s : QSt) : (qBS m s).1.length ≤ s.1.length := (qBR_le m s.1).1
theorem qMv_le (s : QSt) : (qMv s).2.1.length ≤ s.1.length := by
  have h1 := qS_le 2147483647 s
  have h2 := qBS_le 24 (qS 2147483647 s)
  have h3 := qFS_le (qBS 24 (qS 2147483647 s))
  have h4 := qBS_le 24 (qFS (qBS 24 (qS 2147483647 s)))
  have h5 := qS_le 5 (qBS 24 (qFS (qBS 24 (qS 2147483647 s))))
  have h6 := qS_le 5 (qS 5 (qBS 24 (qFS (qBS 24 (qS 2147483647 s)))))
  show (qS 5 (qS 5 (qBS 24 (qFS (qBS 24 (qS 2147483647 s)))))).1.length ≤ _
  omega
theorem qAk_le (s : QSt) : (qAk s).2.1.length ≤ s.1.length := by
  have h1 := qS_le 9 s
  have h2 := qBS_le 24 (qS 9 s)
  have h3 := qBS_le 40 (qBS 24 (qS 9 s))
  have h4 := qBS_le 40 (qBS 40 (qBS 24 (qS 9 s)))
  have h5 := qFS_le (qBS 40 (qBS 40 (qBS 24 (qS 9 s))))
  have h6 := qBS_le 24 (qBS 24 (qS 9 s))
  have h7 := qS_le 32 (qBS 24 (qBS 24 (qS 9 s)))
  simp only [qAk]
  split
  · simp only []; omega
  · split
    · simp only []; omega
    · split <;> (simp only []; omega)
theorem qS_back {n m : Nat} (h : n ≤ m) (hm : m < 9223372036854775808) (r : List UInt8) (ok : Bool) : qV (wNum n ++ r) = (n : Int) ∧ qS m (wNum n ++ r, ok) = (r, ok) := by
  have hr := rdNum_wNum (n := n) zo r
  refine ⟨?_, ?_⟩
  · rw [qV, qN, hr]; exact wr_i64 (x := (n : Int)) zo zo
  · simp only [qS, qOk, rest, hr]; simp [h]
theorem qB_back {x : List UInt8} {m : Nat} (h : x.length ≤ m) (hm : m < 18446744073709551616) (r : List UInt8) (ok : Bool) : qB m (wBytes x ++ r) = x ∧ qBS m (wBytes x ++ r, ok) = (r, ok) := by
  have hr := rdBytes_wB' (r := r) h hm
  exact ⟨by rw [qB, hr], by simp only [qBS, qBR, qBk, hr]; simp⟩
theorem qF_back (x : Bool) (r : List UInt8) (ok : Bool) : qFV (wFlag x ++ r) = x ∧ qFS (wFlag x ++ r, ok) = (r, ok) := by
  have hr := rdFlag_back (x := x) (r := r)
  exact ⟨by rw [qFV, hr], by simp only [qFS, restF, hr]; simp⟩
theorem qMv_back {a : MvV} (h : mayMv a = true) (r : List UInt8) (ok : Bool) : qMv (mvW a ++ r, ok) = (a, (r, ok)) := by
  obtain ⟨n, f, t, e, og, g⟩ := a
  obtain ⟨g1, g2, g3, g4, g5, g6, g7, g8⟩ := mayMv_b h
  obtain ⟨n, rfl⟩ := Int.eq_ofNat_of_zero_le (show 0 ≤ n by omega)
  obtain ⟨og, rfl⟩ := Int.eq_ofNat_of_zero_le (show 0 ≤ og by omega)
  obtain ⟨g, rfl⟩ := Int.eq_ofNat_of_zero_le (show 0 ≤ g by omega)
  simp only [mvW, List.append_assoc, Int.toNat_natCast, qMv]
  obtain ⟨e1, e2⟩ := qS_back (n := n) (m := 2147483647) zo zq (wBytes f ++ (wFlag e ++ (wBytes t ++ (wNum og ++ (wNum g ++ r))))) ok
  rw [e1, e2]; simp only []
  obtain ⟨e1, e2⟩ := qB_back (x := f) (m := 24) zo zq (wFlag e ++ (wBytes t ++ (wNum og ++ (wNum g ++ r)))) ok
  rw [e1, e2]; simp only []
  obtain ⟨e1, e2⟩ := qF_back e (wBytes t ++ (wNum og ++ (wNum g ++ r))) ok
  rw [e1, e2]; simp only []
  obtain ⟨e1, e2⟩ := qB_back (x := t) (m := 24) zo zq (wNum og ++ (wNum g ++ r)) ok
  rw [e1, e2]; simp only []
  obtain ⟨e1, e2⟩ := qS_back (n := og) (m := 5) zo zq (wNum g ++ r) ok
  rw [e1, e2]; simp only []
  obtain ⟨e1, e2⟩ := qS_back (n := g) (m := 5) zo zq r ok
  rw [e1, e2]
theorem qAk_back {a : AkV} (h : mayAk a = true) (r : List UInt8) (ok : Bool) : qAk (akW a ++ r, ok) = (a, (r, ok)) := by
  obtain ⟨k, key, to, val, was, no, most⟩ := a
  obtain ⟨g1, g2, g3, g4, g5, g6, g7, g8⟩ := mayAk_b h
  obtain ⟨k, rfl⟩ := Int.eq_ofNat_of_zero_le (show 0 ≤ k by omega)
  obtain ⟨most, rfl⟩ := Int.eq_ofNat_of_zero_le (show 0 ≤ most by omega)
  have hl : ∀ {l : List UInt8}, l.isEmpty = true → l = [] := fun {l} h => by cases l <;> simp_all
  have h1 : k = 1 ∨ k = 2 ∨ k = 3 ∨ k = 4 ∨ k = 5 := by omega
  rcases h1 with rfl | rfl | rfl | rfl | rfl
  · simp only [mayAk] at h
    rw [if_pos zq] at h
    simp only [Bool.and_eq_true, decide_eq_true_eq, Bool.not_eq_true'] at h
    obtain ⟨⟨⟨⟨⟨h0, h1⟩, h2⟩, h3⟩, h4⟩, h5⟩ := h
    obtain rfl := hl h1; obtain rfl := hl h2; obtain rfl := hl h5; subst h3; obtain rfl : most = 0 := by omega
    have ea : akW (((1 : Nat) : Int), key, [], [], [], false, ((0 : Nat) : Int)) ++ r = wNum 1 ++ (wBytes key ++ r) := by simp [akW, nmT, optW]
    rw [ea, qAk]
    obtain ⟨e1, e2⟩ := qS_back (n := 1) (m := 9) zq zq (wBytes key ++ r) ok
    obtain ⟨e3, e4⟩ := qB_back (x := key) (m := 24) zo zq r ok
    simp only [e1, e2, e3, e4]; rfl
  · simp only [mayAk] at h
    rw [if_neg zq, if_pos zq] at h
    simp only [Bool.and_eq_true, decide_eq_true_eq, Bool.not_eq_true'] at h
    obtain ⟨⟨⟨⟨⟨h0, h1⟩, h2⟩, h3⟩, h4⟩, h5⟩ := h
    obtain rfl := hl h1; obtain rfl := hl h2; subst h3; obtain rfl : most = 0 := by omega
    have ea : akW (((2 : Nat) : Int), key, [], val, [], false, ((0 : Nat) : Int)) ++ r = wNum 2 ++ (wBytes key ++ (wBytes val ++ r)) := by simp [akW, nmT, optW]
    rw [ea, qAk]
    obtain ⟨e1, e2⟩ := qS_back (n := 2) (m := 9) zq zq (wBytes key ++ (wBytes val ++ r)) ok
    obtain ⟨e3, e4⟩ := qB_back (x := key) (m := 24) zo zq (wBytes val ++ r) ok
    obtain ⟨e5, e6⟩ := qB_back (x := val) (m := 40) zo zq r ok
    simp only [e1, e2, e3, e4, e5, e6]; rfl
  · simp only [mayAk] at h
    rw [if_pos zq] at h
    simp only [Bool.and_eq_true, decide_eq_true_eq, Bool.not_eq_true'] at h
    obtain ⟨⟨⟨⟨⟨h0, h1⟩, h2⟩, h3⟩, h4⟩, h5⟩ := h
    obtain rfl := hl h1; obtain rfl := hl h2; obtain rfl := hl h5; subst h3; obtain rfl : most = 0 := by omega
    have ea : akW (((3 : Nat) : Int), key, [], [], [], false, ((0 : Nat) : Int)) ++ r = wNum 3 ++ (wBytes key ++ r) := by simp [akW, nmT, optW]
    rw [ea, qAk]
    obtain ⟨e1, e2⟩ := qS_back (n := 3) (m := 9) zq zq (wBytes key ++ r) ok
    obtain ⟨e3, e4⟩ := qB_back (x := key) (m := 24) zo zq r ok
    simp only [e1, e2, e3, e4]; rfl
  · simp only [mayAk] at h
    rw [if_neg zq, if_neg zq, if_pos zq] at h
    simp only [Bool.and_eq_true, decide_eq_true_eq, Bool.not_eq_true'] at h
    obtain ⟨⟨⟨⟨⟨h0, h1⟩, h2⟩, h3⟩, h4⟩, h5⟩ := h
    obtain rfl := hl h4; obtain rfl : most = 0 := by omega
    have ea : akW (((4 : Nat) : Int), key, [], val, was, no, ((0 : Nat) : Int)) ++ r = wNum 4 ++ (wBytes key ++ (wBytes val ++ (wBytes was ++ (wFlag no ++ r)))) := by simp [akW, nmT, optW]
    rw [ea, qAk]
    obtain ⟨e1, e2⟩ := qS_back (n := 4) (m := 9) zq zq (wBytes key ++ (wBytes val ++ (wBytes was ++ (wFlag no ++ r)))) ok
    obtain ⟨e3, e4⟩ := qB_back (x := key) (m := 24) zo zq (wBytes val ++ (wBytes was ++ (wFlag no ++ r))) ok
    obtain ⟨e5, e6⟩ := qB_back (x := val) (m := 40) zo zq (wBytes was ++ (wFlag no ++ r)) ok
    obtain ⟨e7, e8⟩ := qB_back (x := was) (m := 40) zo zq (wFlag no ++ r) ok
    obtain ⟨e9, e10⟩ := qF_back no r ok
    simp only [e1, e2, e3, e4, e5, e6, e7, e8, e9, e10]; rfl
  · simp only [mayAk] at h
    rw [if_neg zq, if_neg zq, if_neg zq, if_pos zq] at h
    simp only [Bool.and_eq_true, decide_eq_true_eq, Bool.not_eq_true'] at h
    obtain ⟨⟨⟨⟨⟨⟨h0, h1⟩, h2⟩, h3⟩, h4⟩, h5⟩, h6⟩ := h
    obtain rfl := hl h4; obtain rfl := hl h5; subst h6
    have ea : akW (((5 : Nat) : Int), key, to, [], [], false, (most : Int)) ++ r = wNum 5 ++ (wBytes key ++ (wBytes to ++ (wNum most ++ r))) := by simp [akW, nmT, optW]
    rw [ea, qAk]
    obtain ⟨e1, e2⟩ := qS_back (n := 5) (m := 9) zq zq (wBytes key ++ (wBytes to ++ (wNum most ++ r))) ok
    obtain ⟨e3, e4⟩ := qB_back (x := key) (m := 24) zo zq (wBytes to ++ (wNum most ++ r)) ok
    obtain ⟨e5, e6⟩ := qB_back (x := to) (m := 24) zo zq (wNum most ++ r) ok
    obtain ⟨e7, e8⟩ := qS_back (n := most) (m := 32) zo zq r ok
    simp only [e1, e2, e3, e4, e5, e6, e7, e8]; rfl
end Go.Proofs.YtogafjlbpodgjaaGreat
