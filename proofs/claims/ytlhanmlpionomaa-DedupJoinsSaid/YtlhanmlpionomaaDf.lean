/- A part of the proof: steps and lemmas for the walks through the given program. -/
import Derived.Test.YtlhanmlpionomaaDe
namespace Go.Proofs.Ytlhanmlpionomaa
open Go.Vc
set_option linter.unusedVariables false
set_option linter.unusedSimpArgs false
set_option maxRecDepth 100000

theorem rdList_back {α : Type} {ρ : List UInt8 → Except Int (α × List UInt8)} {sp : α → List UInt8} : ∀ (xs : List α) (r : List UInt8), (∀ x ∈ xs, ∀ r, ρ (sp x ++ r) = .ok (x, r)) → rdList ρ xs.length ((xs.map sp).flatten ++ r) = .ok (xs, r)
  | [], r, _ => by simp [rdList]
  | x :: xs, r, h => by
    have h1 := rdList_back xs r (fun y hy => h y (List.mem_cons_of_mem _ hy))
    simp only [List.map_cons, List.flatten_cons, List.length_cons, rdList, List.append_assoc]
    rw [h x List.mem_cons_self]
    simp only []
    rw [h1]
theorem rdBytes_wB {x r : List UInt8} {most : Nat} (hl : x.length ≤ most) (hm : most < 18446744073709551616) : rdBytes most (wBytes x ++ r) = .ok (x, r) := by
  rw [rdBytes, tryRd, wBytes, List.append_assoc, rdNum_wNum (by omega)]
  simp only [hl, if_true]
  rw [rdSome, if_pos (by simp)]
  simp
def rdPr (l : List UInt8) : Except Int (PrV × List UInt8) := match rdBytes 24 l with
  | .error _ => .error 4
  | .ok (k, l1) => match rdBytes 40 l1 with
    | .error _ => .error 4
    | .ok (v, l2) => .ok ((k, v), l2)
theorem rdPr_back {p : PrV} {r : List UInt8} (h1 : p.1.length ≤ 24) (h2 : p.2.length ≤ 40) : rdPr (spPr p ++ r) = .ok (p, r) := by
  rw [rdPr, spPr, List.append_assoc, rdBytes_wB h1 (by decide)]
  simp only []
  rw [rdBytes_wB h2 (by decide)]
def rdLn (l : List UInt8) : Except Int (LnV × List UInt8) := match rdNum l with
  | none => .error 4
  | some (c, l1) => match rdNum l1 with
    | none => .error 4
    | some (n, l2) => match rdNum l2 with
      | none => .error 4
      | some (e, l3) => match tryRd (rdList rdPr) 32 l3 with
        | .error _ => .error 4
        | .ok (ps, l4) => match rdBytes 25 l4 with
          | .error _ => .error 4
          | .ok (nx, l5) => if c ≤ 4 ∧ n ≤ 2147483647 ∧ e ≤ 13 then .ok (((c : Int), (n : Int), (e : Int), ps, nx), l5) else .error 4
theorem tryPr_back {ps : List PrV} {r : List UInt8} (h : ps.length ≤ 32) (h2 : ∀ p ∈ ps, p.1.length ≤ 24 ∧ p.2.length ≤ 40) : tryRd (rdList rdPr) 32 (wList spPr ps ++ r) = .ok (ps, r) := by
  rw [tryRd, wList, List.append_assoc, rdNum_wNum (by omega)]
  simp only [h, if_true]
  exact rdList_back ps r fun x hx r => rdPr_back (h2 x hx).1 (h2 x hx).2
def okLn (x : LnV) : Prop := (0 ≤ x.1 ∧ x.1 ≤ 4) ∧ (0 ≤ x.2.1 ∧ x.2.1 ≤ 2147483647) ∧ (0 ≤ x.2.2.1 ∧ x.2.2.1 ≤ 13) ∧ x.2.2.2.1.length ≤ 32 ∧ x.2.2.2.2.length ≤ 25 ∧ ∀ p ∈ x.2.2.2.1, p.1.length ≤ 24 ∧ p.2.length ≤ 40
theorem rdLn_back {x : LnV} {r : List UInt8} (h : okLn x) : rdLn (spLn x ++ r) = .ok (x, r) := by
  obtain ⟨c, n, e, ps, nx⟩ := x
  obtain ⟨⟨h1, h2⟩, ⟨h3, h4⟩, ⟨h5, h6⟩, h7, h8, h9⟩ := h
  simp only at h1 h2 h3 h4 h5 h6 h7 h8 h9
  obtain ⟨c, rfl⟩ := Int.eq_ofNat_of_zero_le h1
  obtain ⟨n, rfl⟩ := Int.eq_ofNat_of_zero_le h3
  obtain ⟨e, rfl⟩ := Int.eq_ofNat_of_zero_le h5
  simp only [spLn, List.append_assoc, rdLn, Int.toNat_natCast]
  rw [rdNum_wNum (by omega)]
  simp only []
  rw [rdNum_wNum (by omega)]
  simp only []
  rw [rdNum_wNum (by omega)]
  simp only []
  rw [tryPr_back h7 h9]
  simp only []
  rw [rdBytes_wB h8 (by decide)]
  simp only []
  rw [if_pos (by omega)]
theorem okLn_tb {S : TbS} (hok : TbOk S) {c : Int} (h1 : 0 ≤ c) (h2 : c ≤ 4) : okLn (lnK S c) := by
  obtain ⟨⟨g1, g2⟩, g3, g4, g5⟩ := mayAn_iff.1 (ansS_may hok c)
  exact ⟨⟨h1, h2⟩, numS_rng hok c, ⟨g1, g2⟩, g3, g4, fun p hp => ⟨(g5 p hp).2.1, (g5 p hp).2.2⟩⟩
theorem tbW_back {S : TbS} (hok : TbOk S) (r : List UInt8) : tryRd (rdList rdLn) 4 (tbW S ++ r) = .ok ((ksS S).map (lnK S), r) := by
  have h4 : (ksS S).length ≤ 4 := ksP_len _
  rw [tryRd, tbW, wList, List.append_assoc, rdNum_wNum (by rw [List.length_map]; omega)]
  simp only [List.length_map, h4, if_true]
  have := rdList_back (ρ := rdLn) (sp := spLn) ((ksS S).map (lnK S)) r (by
    intro x hx r
    obtain ⟨c, hc, rfl⟩ := List.mem_map.1 hx
    have := ks_rng S c hc
    exact rdLn_back (okLn_tb hok (by omega) (by omega)))
  rw [List.length_map] at this
  exact this
theorem some_eq {S : TbS} {c : Int} (h : (S c).isSome = true) : S c = some (numS S c, ansS S c) := by
  obtain ⟨x, hx⟩ := Option.isSome_iff_exists.1 h
  simp [numS, ansS, hx]
theorem tbW_inj {S O : TbS} (h1 : TbOk S) (h2 : TbOk O) : tbW S = tbW O ↔ S = O := by
  constructor
  · intro h
    have a := tbW_back h1 []
    rw [h, tbW_back h2 []] at a
    have a : (ksS O).map (lnK O) = (ksS S).map (lnK S) := by
      injection a with a; injection a
    have k : ksS O = ksS S := by
      have := congrArg (List.map (fun x : LnV => x.1)) a
      simpa [List.map_map, Function.comp_def, lnK] using this
    funext c
    by_cases hc : (S c).isSome = true
    · have m1 : c ∈ ksS S := (ksS_mem h1).2 hc
      have m2 : c ∈ ksS O := k ▸ m1
      have ho := (ksS_mem h2).1 m2
      rw [k] at a
      have e := (List.map_inj_left.1 a) c m1
      simp only [lnK, Prod.mk.injEq, true_and] at e
      rw [some_eq hc, some_eq ho, e.1, e.2]
    · have m1 : ¬ c ∈ ksS S := fun m => hc ((ksS_mem h1).1 m)
      have ho : ¬ (O c).isSome = true := fun m => m1 (k ▸ (ksS_mem h2).2 m)
      rw [Bool.not_eq_true, Option.isSome_eq_false_iff, Option.isNone_iff_eq_none] at hc ho
      rw [hc, ho]
  · rintro rfl; rfl
theorem eqW {S O : TbS} (h1 : TbOk S) (h2 : TbOk O) : decide (tbW S = tbW O) = eqT S O := by
  rw [Bool.eq_iff_iff, decide_eq_true_eq, tbW_inj h1 h2, eqT_iff h1 h2]
theorem TSame_c {w : World} {F G : Nat → Prop} {b bm bo bmo : Nat} {S O : TbS} (HB1 : Blk w b [.map (some bm)] 65) (HT1 : TbI w F bm S) (HB2 : Blk w bo [.map (some bmo)] 65) (HT2 : TbI w G bmo O) (okS : TbOk S) (okO : TbOk O) :
    CallsR Try.prog 24 #[.pointer (some ⟨b, 0, none⟩), .pointer (some ⟨bo, 0, none⟩)] w (fun o w' => o = .bool (eqT S O) ∧ Ext w w') := by
  refine enter 23 Try.func24 rfl rfl (by simp) ?_
  refine c_seq ?_
  have E := Keep.refl (K := NoK) w
  refine wp_reg (by decide +kernel) ?_
  refine l_v (v_assign rfl) ?_
  refine l_nil ?_
  refine n_then ?_
  refine c_seq ?_
  refine c_seq ?_
  refine wp_reg (by decide +kernel) ?_
  refine l_v (v_move (t := .pointer _) rfl) ?_
  refine l_to (to_f1 (by kernel_rfl) (show _ = (Value.pointer _) from rfl) (CallsR.mono (there_c HB1) ?_))
  rintro _ w101 ⟨rfl, e101⟩
  have zs_e101 := e101.size
  replace E := E.trans (Ext.keep e101)
  replace HB1 := HB1.ext e101
  replace HB2 := HB2.ext e101
  replace HT1 := HT1.ext e101
  replace HT2 := HT2.ext e101
  refine l_v (v_not rfl) ?_
  refine l_v (v_move (t := .bool _) rfl) ?_
  refine l_gt rfl rfl (OpTo.of_v (v_move (t := .pointer _) rfl) ?_)
  refine l_gt rfl rfl (to_f1 (by kernel_rfl) (show _ = (Value.pointer _) from rfl) (CallsR.mono (there_c HB2) ?_))
  rintro _ w102 ⟨rfl, e102⟩
  have zs_e102 := e102.size
  replace E := E.trans (Ext.keep e102)
  replace HB1 := HB1.ext e102
  replace HB2 := HB2.ext e102
  replace HT1 := HT1.ext e102
  replace HT2 := HT2.ext e102
  refine l_gt rfl rfl (OpTo.of_v (v_not rfl) ?_)
  refine l_v (v_orT rfl rfl) ?_
  refine l_nil ?_
  refine n_then ?_
  refine c_cond rfl rfl (fun h0 => ?_) (fun h0 => ?_)
  · skip
    cases h0
  · skip
    refine c_skip ?_
    refine n_then ?_
    refine c_seq ?_
    refine wp_reg (by decide +kernel) ?_
    refine l_v (v_move (t := .pointer _) rfl) ?_
    refine l_to (to_f1 (by kernel_rfl) (show _ = (Value.pointer _) from rfl) (CallsR.mono (TBytes_c HB1 HT1 okS) ?_))
    rintro _ w2 ⟨⟨a2, c2, rfl, HS2⟩, e2⟩
    have zs_e2 := e2.size
    replace E := E.trans (Ext.keep e2)
    replace HB1 := HB1.ext e2
    replace HB2 := HB2.ext e2
    replace HT1 := HT1.ext e2
    replace HT2 := HT2.ext e2
    refine l_v (v_move (t := .pointer _) rfl) ?_
    refine l_to (to_f1 (by kernel_rfl) (show _ = (Value.pointer _) from rfl) (CallsR.mono (TBytes_c HB2 HT2 okO) ?_))
    rintro _ w3 ⟨⟨a3, c3, rfl, HS3⟩, e3⟩
    have zs_e3 := e3.size
    replace E := E.trans (Ext.keep e3)
    replace HB1 := HB1.ext e3
    replace HB2 := HB2.ext e3
    replace HT1 := HT1.ext e3
    replace HT2 := HT2.ext e3
    replace HS2 := HS2.ext e3
    refine l_to (to_f2 (by kernel_rfl) (show _ = (Value.slice _ _ _) from rfl) (show _ = (Value.slice _ _ _) from rfl) (CallsR.mono (Equal_c HS2 HS3) ?_))
    rintro _ w103 ⟨rfl, e103⟩
    have zs_e103 := e103.size
    replace E := E.trans (Ext.keep e103)
    replace HB1 := HB1.ext e103
    replace HB2 := HB2.ext e103
    replace HT1 := HT1.ext e103
    replace HT2 := HT2.ext e103
    replace HS2 := HS2.ext e103
    replace HS3 := HS3.ext e103
    refine l_v (v_assign (t := .bool _) rfl) ?_
    refine l_nil ?_
    refine n_then ?_
    refine c_ret ?_
    refine ret1v rfl (by decide) (show _ = (Value.bool _) from rfl) ?_
    rw [eqW okS okO]
    exact ⟨rfl, E⟩
end Go.Proofs.Ytlhanmlpionomaa

namespace Go.Proofs.Ytlhanmlpionomaa
open Go.Vc
set_option linter.unusedVariables false
set_option linter.unusedSimpArgs false
set_option maxRecDepth 100000

def S0 : TbS := fun _ => none
def S1 : TbS := updS S0 1 (5, (6, [], []))
def S2 : TbS := updS S0 1 (7, an0)
theorem S1_ok : TbOk S1 := putN_ok (S := S0) (c := 1) (n := 5) (a := (6, [], [])) ok_new
theorem S2_ok : TbOk S2 := putN_ok (S := S0) (c := 1) (n := 7) (a := an0) ok_new
theorem look_k {S : TbS} {c n : Int} {r : AnV × Int × Int} {w : World} {F : Nat → Prop} {b bm : Nat} (h : lookN S c n = r) (HB1 : Blk w b [.map (some bm)] 65) (HT0 : TbI w F bm S) (hok : TbOk S) : CallsR Try.prog 13 #[.pointer (some ⟨b, 0, none⟩), .int .i64 c, .int .i64 n] w (fun o w' => (∃ a1 c1 a2 c2, o = .tuple #[.agg #[.int .i64 r.1.1, .slice a1 r.1.2.1.length c1, .slice a2 r.1.2.2.length c2], .int .i64 r.2.1, .int .i64 r.2.2] ∧ AgV tAn w' (fun i => w.heap.size ≤ i ∧ i < w'.heap.size) (.agg #[.int .i64 r.1.1, .slice a1 r.1.2.1.length c1, .slice a2 r.1.2.2.length c2]) r.1) ∧ Ext w w') := by
  have h2 := Look_c (c := c) (n := n) HB1 HT0 hok
  rw [h] at h2
  refine CallsR.mono h2 fun o w' h => ⟨?_, h.2⟩
  obtain ⟨⟨v, rfl, h3⟩, _⟩ := h
  have h3 : AgV tAn _ _ _ _ := AgV.imp imp_an h3
  obtain ⟨a1, c1, a2, c2, rfl, _⟩ := h3.an
  exact ⟨a1, c1, a2, c2, rfl, h3.mono fun i hi h => ⟨h, hi⟩⟩
theorem put_k {S : TbS} {c n : Int} {a : AnV} {r : Int × TbS} {w : World} {F G : Nat → Prop} {b bm n2 : Nat} {v : Value} (h : putN S c n a = r) (HB1 : Blk w b [.map (some bm)] 65) (HT0 : TbI w F bm S) (hF : ∀ i, F i → n2 ≤ i) (hm : bm < n2) (h2 : n2 ≤ w.heap.size) (hbm : b ≠ bm) (HG1 : AgV tAn w G v a) (hi : I64 n) : CallsR Try.prog 27 #[.pointer (some ⟨b, 0, none⟩), .int .i64 c, .int .i64 n, v] w (fun o w' => (o = .int .i64 r.1 ∧ TbI w' (fun i => n2 ≤ i ∧ i < w'.heap.size) bm r.2) ∧ Keep (fun i => i = bm) w w') := by
  subst h
  refine CallsR.mono (Put_c HB1 HT0 (fun i h => by have := hF i h; omega) hbm HG1 hi) fun o w' h => ⟨⟨h.1.1, h.1.2.mono fun i hi h => ⟨?_, hi⟩⟩, h.2⟩
  rcases h with h | h
  · exact hF i h
  · omega
theorem join_k {w : World} {F G : Nat → Prop} {b bm bo bmo n2 : Nat} {S O J : TbS} (h : joinS S O = J) (HB1 : Blk w b [.map (some bm)] 65) (HT1 : TbI w F bm S) (HB2 : Blk w bo [.map (some bmo)] 65) (HT2 : TbI w G bmo O) (okS : TbOk S) (okO : TbOk O) (hne : bm ≠ bmo) (hm : bm < n2) (hF : ∀ i, F i → n2 ≤ i) (hG : ∀ i, G i → n2 ≤ i) :
    CallsR Try.prog 29 #[.pointer (some ⟨b, 0, none⟩), .pointer (some ⟨bo, 0, none⟩)] w (fun o w' => (o = .int .i64 0 ∧ TbI w' (fun i => n2 ≤ i ∧ i < w'.heap.size) bm J) ∧ Keep (fun i => i = bm) w w') := by
  subst h
  exact CallsR.mono (TJoin_c HB1 HT1 HB2 HT2 okS okO hne (fun i h => by have := hF i h; omega) (fun i h => by have := hG i h; omega)) fun o w' h => ⟨⟨h.1.1, h.1.2.mono fun i hi h => ⟨h.elim (hF i) (hG i), hi⟩⟩, h.2⟩
theorem ag0 {w : World} {e : Int} (he : I64 e) : AgV tAn w NoK (.agg #[.int .i64 e, .slice none 0 0, .slice none 0 0]) (e, [], []) := AgV.mkAn (SlV.nil _ _ _) (SlV.nil _ _ _) he
theorem lk1 : lookN S0 1 5 = (an0, 1, 0) := rfl
theorem lk2 : lookN S1 1 5 = ((6, [], []), 2, 0) := rfl
theorem lk3 : lookN S1 1 4 = (an0, 3, 0) := rfl
theorem lk4 : lookN S1 1 6 = (an0, 1, 0) := rfl
theorem pt1 : putN S0 1 5 (6, [], []) = (0, S1) := rfl
theorem pt2 : putN S1 1 5 (0, [], []) = (9, S1) := rfl
theorem pt3 : putN S1 5 1 (0, [], []) = (2, S1) := rfl
theorem pt4 : putN S1 1 0 (0, [], []) = (2, S1) := rfl
theorem pt5 : putN S1 1 6 (14, [], []) = (2, S1) := rfl
theorem pt6 : putN S0 1 7 (0, [], []) = (0, S2) := rfl
theorem jn1 : joinS S1 S2 = S2 := by
  funext c
  by_cases h : c = 1
  · subst h; rfl
  · have h1 : S1 c = none := by simp [S1, S0, updS, h]
    have h2 : S2 c = none := by simp [S2, S0, updS, h]
    simp [joinS, numS, h1, h2]
theorem eq2 : eqT S2 S2 = true := (eqT_iff S2_ok S2_ok).2 rfl
set_option maxHeartbeats 8000000 in
theorem known_c {w : World} : CallsR Try.prog 11 #[] w (fun o w' => o = .bool true ∧ Ext w w') := by
  refine enter 148 Try.func11 rfl rfl (by simp) ?_
  refine c_seq ?_
  have E := Keep.refl (K := NoK) w
  refine wp_reg (by decide +kernel) ?_
  refine l_v (v_assign rfl) ?_
  refine l_nil ?_
  refine n_then ?_
  refine c_seq ?_
  refine wp_reg (by decide +kernel) ?_
  refine l_to (to_f0 (by kernel_rfl) (CallsR.mono (New_c) ?_))
  rintro _ w24 ⟨b1, m1, rfl, hm1, hb1, hn1, HB1, HT1, e24⟩
  have zs_e24 := e24.size
  have zb1 := HB1.lt
  have zm1 := HT1.lt
  replace E := E.trans (Ext.keep e24)
  refine l_to (to_f0 (by kernel_rfl) (CallsR.mono (New_c) ?_))
  rintro _ w25 ⟨b2, m2, rfl, hm2, hb2, hn2, HB2, HT2, e25⟩
  have zs_e25 := e25.size
  have zb2 := HB2.lt
  have zm2 := HT2.lt
  have zm1b : m1 < w25.heap.size := by omega
  replace HT1 : TbI _ NoK m1 S0 := HT1
  replace HT2 : TbI _ NoK m2 S0 := HT2
  replace E := E.trans (Ext.keep e25)
  replace HB1 := HB1.ext e25
  replace HT1 := HT1.ext e25
  refine l_v (v_assign (t := .pointer _) rfl) ?_
  refine l_v (v_assign (t := .pointer _) rfl) ?_
  refine l_nil ?_
  refine n_then ?_
  refine c_seq ?_
  refine c_seq ?_
  refine wp_reg (by decide +kernel) ?_
  refine l_v (v_move (t := .pointer _) rfl) ?_
  refine l_v (OpVat.as (b := false) (v_peql (et := 65) (by kernel_rfl) rfl rfl) rfl) ?_
  refine l_v (v_move (t := .bool _) rfl) ?_
  refine l_gt rfl rfl (OpTo.of_v (v_move (t := .pointer _) rfl) ?_)
  refine l_gt rfl rfl (OpTo.of_v (OpVat.as (b := false) (v_peql (et := 65) (by kernel_rfl) rfl rfl) rfl) ?_)
  refine l_v (v_orT rfl rfl) ?_
  refine l_nil ?_
  refine n_then ?_
  refine c_cond rfl rfl (fun hnil => ?_) (fun hnil => ?_)
  · skip
    cases hnil
  · skip
    refine c_skip ?_
    refine n_then ?_
    refine c_seq ?_
    refine wp_reg (by decide +kernel) ?_
    refine l_v (v_build (pl := [(0, 1), (1, 1), (2, 1)]) (z := .agg #[.int .i64 0, .slice none 0 0, .slice none 0 0]) (zl := [.int .i64 0, .slice none 0 0, .slice none 0 0]) (by kernel_rfl) (by unfold kZero; kernel_rfl) rfl rfl (cells := [_, _, _]) rfl) ?_
    refine l_to (to_alloc (z := (.agg #[.int .i64 0, .slice none 0 0, .slice none 0 0])) (by unfold kZero; kernel_rfl) ?_)
    rintro b3 w3 zb3 HB3 e3 z3
    have zs_e3 := e3.size
    replace E := E.trans (Ext.keep e3)
    replace HB1 := HB1.ext e3
    replace HT1 := HT1.ext e3
    replace HB2 := HB2.ext e3
    replace HT2 := HT2.ext e3
    try simp only [Value.cells] at HB3
    refine l_to (to_storeA (n := 3) rfl rfl (show _ = (Value.agg _) from rfl) (by kernel_rfl) rfl (by first | (simp [slice_one]; done) | (simp only [List.forall_mem_cons, List.cons_append, List.nil_append]; repeat' (first | exact rfl | apply And.intro | (intro u hu; cases hu; done)))) HB3 (by first | exact of_decide_eq_true rfl | (simp; done) | decide | (simp only [List.length_set, hlen]; exact of_decide_eq_true rfl)) ?_)
    rintro w103 HB3 k103 z103
    have zs_k103 := k103.size
    replace E := E.step k103 (by intro i hi he; (try dsimp only [NoK] at hi he ⊢); first | exact he.elim | omega | exact he)
    replace HB1 := HB1.keep k103 (by intro h; (try dsimp only at h); first | omega)
    replace HT1 := HT1.keep k103 (by intro i _ hi he; (try dsimp only [NoK, AllB] at hi he); first | exact hi.elim | exact he.elim | omega | (rcases hi with hi | hi <;> omega) | (rcases he with he | he <;> omega))
    replace HB2 := HB2.keep k103 (by intro h; (try dsimp only at h); first | omega)
    replace HT2 := HT2.keep k103 (by intro i _ hi he; (try dsimp only [NoK, AllB] at hi he); first | exact hi.elim | exact he.elim | omega | (rcases hi with hi | hi <;> omega) | (rcases he with he | he <;> omega))
    refine l_nil ?_
    refine n_then ?_
    refine c_seq ?_
    refine wp_reg (by decide +kernel) ?_
    refine l_v (v_move (t := .pointer _) rfl) ?_
    refine l_to (to_f3 (by kernel_rfl) (show _ = (Value.pointer _) from rfl) (show _ = (Value.int _ _) from rfl) (show _ = (Value.int _ _) from rfl) (CallsR.mono (look_k lk1 HB1 HT1 ok_new) ?_))
    rintro _ w35 ⟨⟨a35, c35, a36, c36, rfl, HG35⟩, e35⟩
    have zs_e35 := e35.size
    replace E := E.trans (Ext.keep e35)
    replace HB1 := HB1.ext e35
    replace HT1 := HT1.ext e35
    replace HB2 := HB2.ext e35
    replace HT2 := HT2.ext e35
    replace HB3 := HB3.ext e35
    refine l_v (v_move (t := .tuple _) rfl) ?_
    refine l_v (v_extract (t := .agg _) rfl rfl) ?_
    refine l_v (v_extract (t := .int _ _) rfl rfl) ?_
    refine l_v (v_extract (t := .int _ _) rfl rfl) ?_
    refine l_to (to_alloc (z := (.agg #[.int .i64 0, .slice none 0 0, .slice none 0 0])) (by unfold kZero; kernel_rfl) ?_)
    rintro b4 w4 zb4 HB4 e4 z4
    have zs_e4 := e4.size
    replace E := E.trans (Ext.keep e4)
    replace HB1 := HB1.ext e4
    replace HT1 := HT1.ext e4
    replace HB2 := HB2.ext e4
    replace HT2 := HT2.ext e4
    replace HB3 := HB3.ext e4
    try simp only [Value.cells] at HB4
    refine l_to (to_storeA (n := 3) rfl rfl (show _ = (Value.agg _) from rfl) (by kernel_rfl) rfl (by first | (simp [slice_one]; done) | (simp only [List.forall_mem_cons, List.cons_append, List.nil_append]; repeat' (first | exact rfl | apply And.intro | (intro u hu; cases hu; done)))) HB4 (by first | exact of_decide_eq_true rfl | (simp; done) | decide | (simp only [List.length_set, hlen]; exact of_decide_eq_true rfl)) ?_)
    rintro w104 HB4 k104 z104
    have zs_k104 := k104.size
    replace E := E.step k104 (by intro i hi he; (try dsimp only [NoK] at hi he ⊢); first | exact he.elim | omega | exact he)
    replace HB1 := HB1.keep k104 (by intro h; (try dsimp only at h); first | omega)
    replace HT1 := HT1.keep k104 (by intro i _ hi he; (try dsimp only [NoK, AllB] at hi he); first | exact hi.elim | exact he.elim | omega | (rcases hi with hi | hi <;> omega) | (rcases he with he | he <;> omega))
    replace HB2 := HB2.keep k104 (by intro h; (try dsimp only at h); first | omega)
    replace HT2 := HT2.keep k104 (by intro i _ hi he; (try dsimp only [NoK, AllB] at hi he); first | exact hi.elim | exact he.elim | omega | (rcases hi with hi | hi <;> omega) | (rcases he with he | he <;> omega))
    replace HB3 := HB3.keep k104 (by intro h; (try dsimp only at h); first | omega)
    refine l_v (v_assign (t := .int _ _) rfl) ?_
    refine l_v (v_assign (t := .int _ _) rfl) ?_
    refine l_nil ?_
    refine n_then ?_
    refine c_seq ?_
    refine wp_reg (by decide +kernel) ?_
    refine l_v (v_move (t := .pointer _) rfl) ?_
    refine l_v (v_loadA (by kernel_rfl) rfl (by first | exact HB4.pv | exact HB3.pv | exact HB2.pv | exact HB1.pv | assumption) rfl) ?_
    refine l_to (to_f4 (by kernel_rfl) (show _ = (Value.pointer _) from rfl) (show _ = (Value.int _ _) from rfl) (show _ = (Value.int _ _) from rfl) (show _ = (Value.agg _) from rfl) (CallsR.mono (put_k (n2 := w25.heap.size) pt1 HB1 HT1 (fun i h => h.elim) zm1b (by omega) hn1 (ag0 (e := 6) ⟨by decide, by decide⟩) ⟨by decide, by decide⟩) ?_))
    rintro _ w41 ⟨⟨rfl, HT1⟩, k41⟩
    have zs_k41 := k41.size
    replace E := E.step k41 (by intro i hi he; (try dsimp only [NoK] at hi he ⊢); first | exact he.elim | omega | exact he)
    replace HB1 := HB1.keep k41 (by intro h; (try dsimp only at h); first | omega)
    replace HB2 := HB2.keep k41 (by intro h; (try dsimp only at h); first | omega)
    replace HT2 := HT2.keep k41 (by intro i _ hi he; (try dsimp only [NoK, AllB] at hi he); first | exact hi.elim | exact he.elim | omega | (rcases hi with hi | hi <;> omega) | (rcases he with he | he <;> omega))
    replace HB3 := HB3.keep k41 (by intro h; (try dsimp only at h); first | omega)
    replace HB4 := HB4.keep k41 (by intro h; (try dsimp only at h); first | omega)
    refine l_v (v_assign (t := .int _ _) rfl) ?_
    refine l_nil ?_
    refine n_then ?_
    refine c_seq ?_
    refine wp_reg (by decide +kernel) ?_
    refine l_v (v_move (t := .pointer _) rfl) ?_
    refine l_to (to_f3 (by kernel_rfl) (show _ = (Value.pointer _) from rfl) (show _ = (Value.int _ _) from rfl) (show _ = (Value.int _ _) from rfl) (CallsR.mono (look_k lk2 HB1 HT1 S1_ok) ?_))
    rintro _ w44 ⟨⟨a440, c440, a441, c441, rfl, HG44⟩, e44⟩
    have zs_e44 := e44.size
    replace E := E.trans (Ext.keep e44)
    replace HB1 := HB1.ext e44
    replace HB2 := HB2.ext e44
    replace HT2 := HT2.ext e44
    replace HB3 := HB3.ext e44
    replace HB4 := HB4.ext e44
    replace HT1 := HT1.ext e44
    refine l_v (v_move (t := .tuple _) rfl) ?_
    refine l_v (v_extract (t := .agg _) rfl rfl) ?_
    refine l_v (v_extract (t := .int _ _) rfl rfl) ?_
    refine l_v (v_extract (t := .int _ _) rfl rfl) ?_
    refine l_to (to_alloc (z := (.agg #[.int .i64 0, .slice none 0 0, .slice none 0 0])) (by unfold kZero; kernel_rfl) ?_)
    rintro b5 wb5 zb25 HB25 e25 z25
    have zs_e25 := e25.size
    replace E := E.trans (Ext.keep e25)
    replace HB1 := HB1.ext e25
    replace HB2 := HB2.ext e25
    replace HT2 := HT2.ext e25
    replace HB3 := HB3.ext e25
    replace HB4 := HB4.ext e25
    replace HT1 := HT1.ext e25
    replace HG44 := HG44.ext e25
    try simp only [Value.cells] at HB25
    refine l_to (to_storeA (n := 3) rfl rfl (show _ = (Value.agg _) from rfl) (by kernel_rfl) rfl (by first | (simp [slice_one]; done) | (simp only [List.forall_mem_cons, List.cons_append, List.nil_append]; repeat' (first | exact rfl | apply And.intro | (intro u hu; cases hu; done)))) HB25 (by first | exact of_decide_eq_true rfl | (simp; done) | decide | (simp only [List.length_set, hlen]; exact of_decide_eq_true rfl)) ?_)
    rintro ws5 HB25 k35 z35
    have zs_k35 := k35.size
    replace E := E.step k35 (by intro i hi he; (try dsimp only [NoK] at hi he ⊢); first | exact he.elim | omega | exact he)
    replace HB1 := HB1.keep k35 (by intro h; (try dsimp only at h); first | omega)
    replace HB2 := HB2.keep k35 (by intro h; (try dsimp only at h); first | omega)
    replace HT2 := HT2.keep k35 (by intro i _ hi he; (try dsimp only [NoK, AllB] at hi he); first | exact hi.elim | exact he.elim | omega | (rcases hi with hi | hi <;> omega) | (rcases he with he | he <;> omega))
    replace HB3 := HB3.keep k35 (by intro h; (try dsimp only at h); first | omega)
    replace HB4 := HB4.keep k35 (by intro h; (try dsimp only at h); first | omega)
    replace HT1 := HT1.keep k35 (by intro i _ hi he; (try dsimp only [NoK, AllB] at hi he); first | exact hi.elim | exact he.elim | omega | (rcases hi with hi | hi <;> omega) | (rcases he with he | he <;> omega))
    replace HG44 := HG44.keep k35 (by intro i _ hi he; (try dsimp only [NoK, AllB] at hi he); first | exact hi.elim | exact he.elim | omega | (rcases hi with hi | hi <;> omega) | (rcases he with he | he <;> omega))
    refine l_v (v_assign (t := .int _ _) rfl) ?_
    refine l_v (v_assign (t := .int _ _) rfl) ?_
    refine l_nil ?_
    refine n_then ?_
    refine c_seq ?_
    refine wp_reg (by decide +kernel) ?_
    refine l_v (v_move (t := .pointer _) rfl) ?_
    refine l_to (to_f3 (by kernel_rfl) (show _ = (Value.pointer _) from rfl) (show _ = (Value.int _ _) from rfl) (show _ = (Value.int _ _) from rfl) (CallsR.mono (look_k lk3 HB1 HT1 S1_ok) ?_))
    rintro _ w50 ⟨⟨a500, c500, a501, c501, rfl, HG50⟩, e50⟩
    have zs_e50 := e50.size
    replace E := E.trans (Ext.keep e50)
    replace HB1 := HB1.ext e50
    replace HB2 := HB2.ext e50
    replace HT2 := HT2.ext e50
    replace HB3 := HB3.ext e50
    replace HB4 := HB4.ext e50
    replace HT1 := HT1.ext e50
    replace HG44 := HG44.ext e50
    replace HB25 := HB25.ext e50
    refine l_v (v_move (t := .tuple _) rfl) ?_
    refine l_v (v_extract (t := .agg _) rfl rfl) ?_
    refine l_v (v_extract (t := .int _ _) rfl rfl) ?_
    refine l_v (v_extract (t := .int _ _) rfl rfl) ?_
    refine l_to (to_alloc (z := (.agg #[.int .i64 0, .slice none 0 0, .slice none 0 0])) (by unfold kZero; kernel_rfl) ?_)
    rintro b6 wb6 zb26 HB26 e26 z26
    have zs_e26 := e26.size
    replace E := E.trans (Ext.keep e26)
    replace HB1 := HB1.ext e26
    replace HB2 := HB2.ext e26
    replace HT2 := HT2.ext e26
    replace HB3 := HB3.ext e26
    replace HB4 := HB4.ext e26
    replace HT1 := HT1.ext e26
    replace HG44 := HG44.ext e26
    replace HB25 := HB25.ext e26
    try simp only [Value.cells] at HB26
    refine l_to (to_storeA (n := 3) rfl rfl (show _ = (Value.agg _) from rfl) (by kernel_rfl) rfl (by first | (simp [slice_one]; done) | (simp only [List.forall_mem_cons, List.cons_append, List.nil_append]; repeat' (first | exact rfl | apply And.intro | (intro u hu; cases hu; done)))) HB26 (by first | exact of_decide_eq_true rfl | (simp; done) | decide | (simp only [List.length_set, hlen]; exact of_decide_eq_true rfl)) ?_)
    rintro ws6 HB26 k36 z36
    have zs_k36 := k36.size
    replace E := E.step k36 (by intro i hi he; (try dsimp only [NoK] at hi he ⊢); first | exact he.elim | omega | exact he)
    replace HB1 := HB1.keep k36 (by intro h; (try dsimp only at h); first | omega)
    replace HB2 := HB2.keep k36 (by intro h; (try dsimp only at h); first | omega)
    replace HT2 := HT2.keep k36 (by intro i _ hi he; (try dsimp only [NoK, AllB] at hi he); first | exact hi.elim | exact he.elim | omega | (rcases hi with hi | hi <;> omega) | (rcases he with he | he <;> omega))
    replace HB3 := HB3.keep k36 (by intro h; (try dsimp only at h); first | omega)
    replace HB4 := HB4.keep k36 (by intro h; (try dsimp only at h); first | omega)
    replace HT1 := HT1.keep k36 (by intro i _ hi he; (try dsimp only [NoK, AllB] at hi he); first | exact hi.elim | exact he.elim | omega | (rcases hi with hi | hi <;> omega) | (rcases he with he | he <;> omega))
    replace HG44 := HG44.keep k36 (by intro i _ hi he; (try dsimp only [NoK, AllB] at hi he); first | exact hi.elim | exact he.elim | omega | (rcases hi with hi | hi <;> omega) | (rcases he with he | he <;> omega))
    replace HB25 := HB25.keep k36 (by intro h; (try dsimp only at h); first | omega)
    refine l_v (v_assign (t := .int _ _) rfl) ?_
    refine l_v (v_assign (t := .int _ _) rfl) ?_
    refine l_nil ?_
    refine n_then ?_
    refine c_seq ?_
    refine wp_reg (by decide +kernel) ?_
    refine l_v (v_move (t := .pointer _) rfl) ?_
    refine l_to (to_f3 (by kernel_rfl) (show _ = (Value.pointer _) from rfl) (show _ = (Value.int _ _) from rfl) (show _ = (Value.int _ _) from rfl) (CallsR.mono (look_k lk4 HB1 HT1 S1_ok) ?_))
    rintro _ w56 ⟨⟨a560, c560, a561, c561, rfl, HG56⟩, e56⟩
    have zs_e56 := e56.size
    replace E := E.trans (Ext.keep e56)
    replace HB1 := HB1.ext e56
    replace HB2 := HB2.ext e56
    replace HT2 := HT2.ext e56
    replace HB3 := HB3.ext e56
    replace HB4 := HB4.ext e56
    replace HT1 := HT1.ext e56
    replace HG44 := HG44.ext e56
    replace HB25 := HB25.ext e56
    replace HB26 := HB26.ext e56
    refine l_v (v_move (t := .tuple _) rfl) ?_
    refine l_v (v_extract (t := .agg _) rfl rfl) ?_
    refine l_v (v_extract (t := .int _ _) rfl rfl) ?_
    refine l_v (v_extract (t := .int _ _) rfl rfl) ?_
    refine l_to (to_alloc (z := (.agg #[.int .i64 0, .slice none 0 0, .slice none 0 0])) (by unfold kZero; kernel_rfl) ?_)
    rintro b7 wb7 zb27 HB27 e27 z27
    have zs_e27 := e27.size
    replace E := E.trans (Ext.keep e27)
    replace HB1 := HB1.ext e27
    replace HB2 := HB2.ext e27
    replace HT2 := HT2.ext e27
    replace HB3 := HB3.ext e27
    replace HB4 := HB4.ext e27
    replace HT1 := HT1.ext e27
    replace HG44 := HG44.ext e27
    replace HB25 := HB25.ext e27
    replace HB26 := HB26.ext e27
    try simp only [Value.cells] at HB27
    refine l_to (to_storeA (n := 3) rfl rfl (show _ = (Value.agg _) from rfl) (by kernel_rfl) rfl (by first | (simp [slice_one]; done) | (simp only [List.forall_mem_cons, List.cons_append, List.nil_append]; repeat' (first | exact rfl | apply And.intro | (intro u hu; cases hu; done)))) HB27 (by first | exact of_decide_eq_true rfl | (simp; done) | decide | (simp only [List.length_set, hlen]; exact of_decide_eq_true rfl)) ?_)
    rintro ws7 HB27 k37 z37
    have zs_k37 := k37.size
    replace E := E.step k37 (by intro i hi he; (try dsimp only [NoK] at hi he ⊢); first | exact he.elim | omega | exact he)
    replace HB1 := HB1.keep k37 (by intro h; (try dsimp only at h); first | omega)
    replace HB2 := HB2.keep k37 (by intro h; (try dsimp only at h); first | omega)
    replace HT2 := HT2.keep k37 (by intro i _ hi he; (try dsimp only [NoK, AllB] at hi he); first | exact hi.elim | exact he.elim | omega | (rcases hi with hi | hi <;> omega) | (rcases he with he | he <;> omega))
    replace HB3 := HB3.keep k37 (by intro h; (try dsimp only at h); first | omega)
    replace HB4 := HB4.keep k37 (by intro h; (try dsimp only at h); first | omega)
    replace HT1 := HT1.keep k37 (by intro i _ hi he; (try dsimp only [NoK, AllB] at hi he); first | exact hi.elim | exact he.elim | omega | (rcases hi with hi | hi <;> omega) | (rcases he with he | he <;> omega))
    replace HG44 := HG44.keep k37 (by intro i _ hi he; (try dsimp only [NoK, AllB] at hi he); first | exact hi.elim | exact he.elim | omega | (rcases hi with hi | hi <;> omega) | (rcases he with he | he <;> omega))
    replace HB25 := HB25.keep k37 (by intro h; (try dsimp only at h); first | omega)
    replace HB26 := HB26.keep k37 (by intro h; (try dsimp only at h); first | omega)
    refine l_v (v_assign (t := .int _ _) rfl) ?_
    refine l_v (v_assign (t := .int _ _) rfl) ?_
    refine l_nil ?_
    refine n_then ?_
    refine c_seq ?_
    refine wp_reg (by decide +kernel) ?_
    refine l_v (v_move (t := .pointer _) rfl) ?_
    refine l_v (v_build (pl := [(0, 1), (1, 1), (2, 1)]) (z := .agg #[.int .i64 0, .slice none 0 0, .slice none 0 0]) (zl := [.int .i64 0, .slice none 0 0, .slice none 0 0]) (by kernel_rfl) (by unfold kZero; kernel_rfl) rfl rfl (cells := [_, _, _]) rfl) ?_
    refine l_to (to_f4 (by kernel_rfl) (show _ = (Value.pointer _) from rfl) (show _ = (Value.int _ _) from rfl) (show _ = (Value.int _ _) from rfl) (show _ = (Value.agg _) from rfl) (CallsR.mono (put_k (n2 := w25.heap.size) pt2 HB1 HT1 (fun i h => h.1) zm1b (by omega) hn1 (ag0 (e := 0) ⟨by decide, by decide⟩) ⟨by decide, by decide⟩) ?_))
    rintro _ w62 ⟨⟨rfl, HT1⟩, k62⟩
    have zs_k62 := k62.size
    replace E := E.step k62 (by intro i hi he; (try dsimp only [NoK] at hi he ⊢); first | exact he.elim | omega | exact he)
    replace HB1 := HB1.keep k62 (by intro h; (try dsimp only at h); first | omega)
    replace HB2 := HB2.keep k62 (by intro h; (try dsimp only at h); first | omega)
    replace HT2 := HT2.keep k62 (by intro i _ hi he; (try dsimp only [NoK, AllB] at hi he); first | exact hi.elim | exact he.elim | omega | (rcases hi with hi | hi <;> omega) | (rcases he with he | he <;> omega))
    replace HB3 := HB3.keep k62 (by intro h; (try dsimp only at h); first | omega)
    replace HB4 := HB4.keep k62 (by intro h; (try dsimp only at h); first | omega)
    replace HG44 := HG44.keep k62 (by intro i _ hi he; (try dsimp only [NoK, AllB] at hi he); first | exact hi.elim | exact he.elim | omega | (rcases hi with hi | hi <;> omega) | (rcases he with he | he <;> omega))
    replace HB25 := HB25.keep k62 (by intro h; (try dsimp only at h); first | omega)
    replace HB26 := HB26.keep k62 (by intro h; (try dsimp only at h); first | omega)
    replace HB27 := HB27.keep k62 (by intro h; (try dsimp only at h); first | omega)
    refine l_v (v_move (t := .pointer _) rfl) ?_
    refine l_v (v_build (pl := [(0, 1), (1, 1), (2, 1)]) (z := .agg #[.int .i64 0, .slice none 0 0, .slice none 0 0]) (zl := [.int .i64 0, .slice none 0 0, .slice none 0 0]) (by kernel_rfl) (by unfold kZero; kernel_rfl) rfl rfl (cells := [_, _, _]) rfl) ?_
    refine l_to (to_f4 (by kernel_rfl) (show _ = (Value.pointer _) from rfl) (show _ = (Value.int _ _) from rfl) (show _ = (Value.int _ _) from rfl) (show _ = (Value.agg _) from rfl) (CallsR.mono (put_k (n2 := w25.heap.size) pt3 HB1 HT1 (fun i h => h.1) zm1b (by omega) hn1 (ag0 (e := 0) ⟨by decide, by decide⟩) ⟨by decide, by decide⟩) ?_))
    rintro _ w65 ⟨⟨rfl, HT1⟩, k65⟩
    have zs_k65 := k65.size
    replace E := E.step k65 (by intro i hi he; (try dsimp only [NoK] at hi he ⊢); first | exact he.elim | omega | exact he)
    replace HB1 := HB1.keep k65 (by intro h; (try dsimp only at h); first | omega)
    replace HB2 := HB2.keep k65 (by intro h; (try dsimp only at h); first | omega)
    replace HT2 := HT2.keep k65 (by intro i _ hi he; (try dsimp only [NoK, AllB] at hi he); first | exact hi.elim | exact he.elim | omega | (rcases hi with hi | hi <;> omega) | (rcases he with he | he <;> omega))
    replace HB3 := HB3.keep k65 (by intro h; (try dsimp only at h); first | omega)
    replace HB4 := HB4.keep k65 (by intro h; (try dsimp only at h); first | omega)
    replace HG44 := HG44.keep k65 (by intro i _ hi he; (try dsimp only [NoK, AllB] at hi he); first | exact hi.elim | exact he.elim | omega | (rcases hi with hi | hi <;> omega) | (rcases he with he | he <;> omega))
    replace HB25 := HB25.keep k65 (by intro h; (try dsimp only at h); first | omega)
    replace HB26 := HB26.keep k65 (by intro h; (try dsimp only at h); first | omega)
    replace HB27 := HB27.keep k65 (by intro h; (try dsimp only at h); first | omega)
    refine l_v (v_move (t := .pointer _) rfl) ?_
    refine l_v (v_build (pl := [(0, 1), (1, 1), (2, 1)]) (z := .agg #[.int .i64 0, .slice none 0 0, .slice none 0 0]) (zl := [.int .i64 0, .slice none 0 0, .slice none 0 0]) (by kernel_rfl) (by unfold kZero; kernel_rfl) rfl rfl (cells := [_, _, _]) rfl) ?_
    refine l_to (to_f4 (by kernel_rfl) (show _ = (Value.pointer _) from rfl) (show _ = (Value.int _ _) from rfl) (show _ = (Value.int _ _) from rfl) (show _ = (Value.agg _) from rfl) (CallsR.mono (put_k (n2 := w25.heap.size) pt4 HB1 HT1 (fun i h => h.1) zm1b (by omega) hn1 (ag0 (e := 0) ⟨by decide, by decide⟩) ⟨by decide, by decide⟩) ?_))
    rintro _ w68 ⟨⟨rfl, HT1⟩, k68⟩
    have zs_k68 := k68.size
    replace E := E.step k68 (by intro i hi he; (try dsimp only [NoK] at hi he ⊢); first | exact he.elim | omega | exact he)
    replace HB1 := HB1.keep k68 (by intro h; (try dsimp only at h); first | omega)
    replace HB2 := HB2.keep k68 (by intro h; (try dsimp only at h); first | omega)
    replace HT2 := HT2.keep k68 (by intro i _ hi he; (try dsimp only [NoK, AllB] at hi he); first | exact hi.elim | exact he.elim | omega | (rcases hi with hi | hi <;> omega) | (rcases he with he | he <;> omega))
    replace HB3 := HB3.keep k68 (by intro h; (try dsimp only at h); first | omega)
    replace HB4 := HB4.keep k68 (by intro h; (try dsimp only at h); first | omega)
    replace HG44 := HG44.keep k68 (by intro i _ hi he; (try dsimp only [NoK, AllB] at hi he); first | exact hi.elim | exact he.elim | omega | (rcases hi with hi | hi <;> omega) | (rcases he with he | he <;> omega))
    replace HB25 := HB25.keep k68 (by intro h; (try dsimp only at h); first | omega)
    replace HB26 := HB26.keep k68 (by intro h; (try dsimp only at h); first | omega)
    replace HB27 := HB27.keep k68 (by intro h; (try dsimp only at h); first | omega)
    refine l_v (v_move (t := .pointer _) rfl) ?_
    refine l_v (v_build (pl := [(0, 1), (1, 1), (2, 1)]) (z := .agg #[.int .i64 0, .slice none 0 0, .slice none 0 0]) (zl := [.int .i64 0, .slice none 0 0, .slice none 0 0]) (by kernel_rfl) (by unfold kZero; kernel_rfl) rfl rfl (cells := [_, _, _]) rfl) ?_
    refine l_to (to_f4 (by kernel_rfl) (show _ = (Value.pointer _) from rfl) (show _ = (Value.int _ _) from rfl) (show _ = (Value.int _ _) from rfl) (show _ = (Value.agg _) from rfl) (CallsR.mono (put_k (n2 := w25.heap.size) pt5 HB1 HT1 (fun i h => h.1) zm1b (by omega) hn1 (ag0 (e := 14) ⟨by decide, by decide⟩) ⟨by decide, by decide⟩) ?_))
    rintro _ w71 ⟨⟨rfl, HT1⟩, k71⟩
    have zs_k71 := k71.size
    replace E := E.step k71 (by intro i hi he; (try dsimp only [NoK] at hi he ⊢); first | exact he.elim | omega | exact he)
    replace HB1 := HB1.keep k71 (by intro h; (try dsimp only at h); first | omega)
    replace HB2 := HB2.keep k71 (by intro h; (try dsimp only at h); first | omega)
    replace HT2 := HT2.keep k71 (by intro i _ hi he; (try dsimp only [NoK, AllB] at hi he); first | exact hi.elim | exact he.elim | omega | (rcases hi with hi | hi <;> omega) | (rcases he with he | he <;> omega))
    replace HB3 := HB3.keep k71 (by intro h; (try dsimp only at h); first | omega)
    replace HB4 := HB4.keep k71 (by intro h; (try dsimp only at h); first | omega)
    replace HG44 := HG44.keep k71 (by intro i _ hi he; (try dsimp only [NoK, AllB] at hi he); first | exact hi.elim | exact he.elim | omega | (rcases hi with hi | hi <;> omega) | (rcases he with he | he <;> omega))
    replace HB25 := HB25.keep k71 (by intro h; (try dsimp only at h); first | omega)
    replace HB26 := HB26.keep k71 (by intro h; (try dsimp only at h); first | omega)
    replace HB27 := HB27.keep k71 (by intro h; (try dsimp only at h); first | omega)
    refine l_v (v_assign (t := .int _ _) rfl) ?_
    refine l_v (v_assign (t := .int _ _) rfl) ?_
    refine l_v (v_assign (t := .int _ _) rfl) ?_
    refine l_v (v_assign (t := .int _ _) rfl) ?_
    refine l_nil ?_
    refine n_then ?_
    refine c_seq ?_
    refine wp_reg (by decide +kernel) ?_
    refine l_v (v_move (t := .pointer _) rfl) ?_
    refine l_v (v_build (pl := [(0, 1), (1, 1), (2, 1)]) (z := .agg #[.int .i64 0, .slice none 0 0, .slice none 0 0]) (zl := [.int .i64 0, .slice none 0 0, .slice none 0 0]) (by kernel_rfl) (by unfold kZero; kernel_rfl) rfl rfl (cells := [_, _, _]) rfl) ?_
    refine l_to (to_f4 (by kernel_rfl) (show _ = (Value.pointer _) from rfl) (show _ = (Value.int _ _) from rfl) (show _ = (Value.int _ _) from rfl) (show _ = (Value.agg _) from rfl) (CallsR.mono (put_k (n2 := w25.heap.size) pt6 HB2 HT2 (fun i h => h.elim) zm2 (by omega) hn2 (ag0 (e := 0) ⟨by decide, by decide⟩) ⟨by decide, by decide⟩) ?_))
    rintro _ w74 ⟨⟨rfl, HT2⟩, k74⟩
    have zs_k74 := k74.size
    replace E := E.step k74 (by intro i hi he; (try dsimp only [NoK] at hi he ⊢); first | exact he.elim | omega | exact he)
    replace HB1 := HB1.keep k74 (by intro h; (try dsimp only at h); first | omega)
    replace HB2 := HB2.keep k74 (by intro h; (try dsimp only at h); first | omega)
    replace HB3 := HB3.keep k74 (by intro h; (try dsimp only at h); first | omega)
    replace HB4 := HB4.keep k74 (by intro h; (try dsimp only at h); first | omega)
    replace HG44 := HG44.keep k74 (by intro i _ hi he; (try dsimp only [NoK, AllB] at hi he); first | exact hi.elim | exact he.elim | omega | (rcases hi with hi | hi <;> omega) | (rcases he with he | he <;> omega))
    replace HB25 := HB25.keep k74 (by intro h; (try dsimp only at h); first | omega)
    replace HB26 := HB26.keep k74 (by intro h; (try dsimp only at h); first | omega)
    replace HB27 := HB27.keep k74 (by intro h; (try dsimp only at h); first | omega)
    replace HT1 := HT1.keep k74 (by intro i _ hi he; (try dsimp only [NoK, AllB] at hi he); first | exact hi.elim | exact he.elim | omega | (rcases hi with hi | hi <;> omega) | (rcases he with he | he <;> omega))
    refine l_nil ?_
    refine n_then ?_
    refine c_seq ?_
    refine wp_reg (by decide +kernel) ?_
    refine l_v (v_move (t := .pointer _) rfl) ?_
    refine l_v (v_move (t := .pointer _) rfl) ?_
    refine l_to (to_f2 (by kernel_rfl) (show _ = (Value.pointer _) from rfl) (show _ = (Value.pointer _) from rfl) (CallsR.mono (join_k (n2 := w25.heap.size) jn1 HB1 HT1 HB2 HT2 S1_ok S2_ok (by omega) zm1b (fun i h => h.1) (fun i h => h.1)) ?_))
    rintro _ w77 ⟨⟨rfl, HT1⟩, k77⟩
    have zs_k77 := k77.size
    replace E := E.step k77 (by intro i hi he; (try dsimp only [NoK] at hi he ⊢); first | exact he.elim | omega | exact he)
    replace HB1 := HB1.keep k77 (by intro h; (try dsimp only at h); first | omega)
    replace HB2 := HB2.keep k77 (by intro h; (try dsimp only at h); first | omega)
    replace HB3 := HB3.keep k77 (by intro h; (try dsimp only at h); first | omega)
    replace HB4 := HB4.keep k77 (by intro h; (try dsimp only at h); first | omega)
    replace HG44 := HG44.keep k77 (by intro i _ hi he; (try dsimp only [NoK, AllB] at hi he); first | exact hi.elim | exact he.elim | omega | (rcases hi with hi | hi <;> omega) | (rcases he with he | he <;> omega))
    replace HB25 := HB25.keep k77 (by intro h; (try dsimp only at h); first | omega)
    replace HB26 := HB26.keep k77 (by intro h; (try dsimp only at h); first | omega)
    replace HB27 := HB27.keep k77 (by intro h; (try dsimp only at h); first | omega)
    replace HT2 := HT2.keep k77 (by intro i _ hi he; (try dsimp only [NoK, AllB] at hi he); first | exact hi.elim | exact he.elim | omega | (rcases hi with hi | hi <;> omega) | (rcases he with he | he <;> omega))
    refine l_v (v_assign (t := .int _ _) rfl) ?_
    refine l_nil ?_
    refine n_then ?_
    refine c_seq ?_
    refine wp_reg (by decide +kernel) ?_
    refine l_v (v_move (t := .pointer _) rfl) ?_
    refine l_to (to_f2 (by kernel_rfl) (show _ = (Value.pointer _) from rfl) (show _ = (Value.int _ _) from rfl) (CallsR.mono (Last_c HB1 HT1 S2_ok) ?_))
    rintro _ w80 ⟨rfl, e80⟩
    have zs_e80 := e80.size
    replace E := E.trans (Ext.keep e80)
    replace HB1 := HB1.ext e80
    replace HB2 := HB2.ext e80
    replace HB3 := HB3.ext e80
    replace HB4 := HB4.ext e80
    replace HG44 := HG44.ext e80
    replace HB25 := HB25.ext e80
    replace HB26 := HB26.ext e80
    replace HB27 := HB27.ext e80
    replace HT2 := HT2.ext e80
    replace HT1 := HT1.ext e80
    refine l_v (v_move (t := .tuple _) rfl) ?_
    refine l_v (v_extract (t := .int _ _) rfl rfl) ?_
    refine l_v (v_extract (t := .bool _) rfl rfl) ?_
    refine l_v (v_assign (t := .int _ _) rfl) ?_
    refine l_v (v_assign (t := .bool _) rfl) ?_
    refine l_nil ?_
    refine n_then ?_
    refine c_seq ?_
    refine wp_reg (by decide +kernel) ?_
    refine l_v (v_move (t := .pointer _) rfl) ?_
    refine l_v (v_move (t := .pointer _) rfl) ?_
    refine l_to (to_f2 (by kernel_rfl) (show _ = (Value.pointer _) from rfl) (show _ = (Value.pointer _) from rfl) (CallsR.mono (join_k (n2 := w25.heap.size) (joinS_self S2) HB2 HT2 HB1 HT1 S2_ok S2_ok (by omega) zm2 (fun i h => h.1) (fun i h => h.1)) ?_))
    rintro _ w85 ⟨⟨rfl, HT2⟩, k85⟩
    have zs_k85 := k85.size
    replace E := E.step k85 (by intro i hi he; (try dsimp only [NoK] at hi he ⊢); first | exact he.elim | omega | exact he)
    replace HB1 := HB1.keep k85 (by intro h; (try dsimp only at h); first | omega)
    replace HB2 := HB2.keep k85 (by intro h; (try dsimp only at h); first | omega)
    replace HB3 := HB3.keep k85 (by intro h; (try dsimp only at h); first | omega)
    replace HB4 := HB4.keep k85 (by intro h; (try dsimp only at h); first | omega)
    replace HG44 := HG44.keep k85 (by intro i _ hi he; (try dsimp only [NoK, AllB] at hi he); first | exact hi.elim | exact he.elim | omega | (rcases hi with hi | hi <;> omega) | (rcases he with he | he <;> omega))
    replace HB25 := HB25.keep k85 (by intro h; (try dsimp only at h); first | omega)
    replace HB26 := HB26.keep k85 (by intro h; (try dsimp only at h); first | omega)
    replace HB27 := HB27.keep k85 (by intro h; (try dsimp only at h); first | omega)
    replace HT1 := HT1.keep k85 (by intro i _ hi he; (try dsimp only [NoK, AllB] at hi he); first | exact hi.elim | exact he.elim | omega | (rcases hi with hi | hi <;> omega) | (rcases he with he | he <;> omega))
    refine l_nil ?_
    refine n_then ?_
    refine c_seq ?_
    refine wp_reg (by decide +kernel) ?_
    refine l_v (v_move (t := .int _ _) rfl) ?_
    refine l_to (to_f1 (by kernel_rfl) (show _ = (Value.int _ _) from rfl) (CallsR.mono (num_c) ?_))
    rintro _ w101 ⟨rfl, e101⟩
    have zs_e101 := e101.size
    replace E := E.trans (Ext.keep e101)
    replace HB1 := HB1.ext e101
    replace HB2 := HB2.ext e101
    replace HB3 := HB3.ext e101
    replace HB4 := HB4.ext e101
    replace HG44 := HG44.ext e101
    replace HB25 := HB25.ext e101
    replace HB26 := HB26.ext e101
    replace HB27 := HB27.ext e101
    replace HT1 := HT1.ext e101
    replace HT2 := HT2.ext e101
    refine l_v (v_move (t := .int _ _) rfl) ?_
    refine l_to (to_f1 (by kernel_rfl) (show _ = (Value.int _ _) from rfl) (CallsR.mono (num_c) ?_))
    rintro _ w102 ⟨rfl, e102⟩
    have zs_e102 := e102.size
    replace E := E.trans (Ext.keep e102)
    replace HB1 := HB1.ext e102
    replace HB2 := HB2.ext e102
    replace HB3 := HB3.ext e102
    replace HB4 := HB4.ext e102
    replace HG44 := HG44.ext e102
    replace HB25 := HB25.ext e102
    replace HB26 := HB26.ext e102
    replace HB27 := HB27.ext e102
    replace HT1 := HT1.ext e102
    replace HT2 := HT2.ext e102
    refine l_v (v_add rfl rfl (by first | exact wr_i64 (by omega) (by omega) | rfl)) ?_
    refine l_v (v_move (t := .int _ _) rfl) ?_
    refine l_to (to_f1 (by kernel_rfl) (show _ = (Value.int _ _) from rfl) (CallsR.mono (num_c) ?_))
    rintro _ w103 ⟨rfl, e103⟩
    have zs_e103 := e103.size
    replace E := E.trans (Ext.keep e103)
    replace HB1 := HB1.ext e103
    replace HB2 := HB2.ext e103
    replace HB3 := HB3.ext e103
    replace HB4 := HB4.ext e103
    replace HG44 := HG44.ext e103
    replace HB25 := HB25.ext e103
    replace HB26 := HB26.ext e103
    replace HB27 := HB27.ext e103
    replace HT1 := HT1.ext e103
    replace HT2 := HT2.ext e103
    refine l_v (v_add rfl rfl (by first | exact wr_i64 (by omega) (by omega) | rfl)) ?_
    refine l_v (OpVat.as (b := true) (v_eql rfl rfl) rfl) ?_
    refine l_v (v_move (t := .bool _) rfl) ?_
    refine l_gt rfl rfl (OpTo.of_v (v_move (t := .int _ _) rfl) ?_)
    refine l_gt rfl rfl (OpTo.of_v (OpVat.as (b := true) (v_eql rfl rfl) rfl) ?_)
    refine l_v (v_andT rfl rfl) ?_
    refine l_v (v_move (t := .bool _) rfl) ?_
    refine l_gt rfl rfl (OpTo.of_v (v_move (t := .int _ _) rfl) ?_)
    refine l_gt rfl rfl (OpTo.of_v (OpVat.as (b := true) (v_eql rfl rfl) rfl) ?_)
    refine l_v (v_andT rfl rfl) ?_
    refine l_v (v_move (t := .bool _) rfl) ?_
    refine l_gt rfl rfl (OpTo.of_v (v_loadA (by kernel_rfl) rfl (by first | exact HB27.pv | exact HB26.pv | exact HB25.pv | exact HB4.pv | exact HB3.pv | exact HB2.pv | exact HB1.pv | assumption) rfl) ?_)
    refine l_gt rfl rfl (OpTo.of_v (v_loadA (by kernel_rfl) rfl (by first | exact HB27.pv | exact HB26.pv | exact HB25.pv | exact HB4.pv | exact HB3.pv | exact HB2.pv | exact HB1.pv | assumption) rfl) ?_)
    refine l_gt rfl rfl (to_f2 (by kernel_rfl) (show _ = (Value.agg _) from rfl) (show _ = (Value.agg _) from rfl) (CallsR.mono (refSameAnswer_c HG44 (ag0 (e := 6) ⟨by decide, by decide⟩)) ?_))
    rintro _ w104 ⟨rfl, e104⟩
    have zs_e104 := e104.size
    replace E := E.trans (Ext.keep e104)
    replace HB1 := HB1.ext e104
    replace HB2 := HB2.ext e104
    replace HB3 := HB3.ext e104
    replace HB4 := HB4.ext e104
    replace HG44 := HG44.ext e104
    replace HB25 := HB25.ext e104
    replace HB26 := HB26.ext e104
    replace HB27 := HB27.ext e104
    replace HT1 := HT1.ext e104
    replace HT2 := HT2.ext e104
    refine l_v (v_andT rfl rfl) ?_
    refine l_v (v_move (t := .bool _) rfl) ?_
    refine l_gt rfl rfl (OpTo.of_v (v_move (t := .int _ _) rfl) ?_)
    refine l_gt rfl rfl (OpTo.of_v (OpVat.as (b := true) (v_eql rfl rfl) rfl) ?_)
    refine l_v (v_andT rfl rfl) ?_
    refine l_v (v_move (t := .bool _) rfl) ?_
    refine l_gt rfl rfl (OpTo.of_v (v_move (t := .int _ _) rfl) ?_)
    refine l_gt rfl rfl (OpTo.of_v (OpVat.as (b := true) (v_eql rfl rfl) rfl) ?_)
    refine l_v (v_andT rfl rfl) ?_
    refine l_v (v_move (t := .bool _) rfl) ?_
    refine l_gt rfl rfl (OpTo.of_v (v_move (t := .int _ _) rfl) ?_)
    refine l_gt rfl rfl (to_f1 (by kernel_rfl) (show _ = (Value.int _ _) from rfl) (CallsR.mono (num_c) ?_))
    rintro _ w105 ⟨rfl, e105⟩
    have zs_e105 := e105.size
    replace E := E.trans (Ext.keep e105)
    replace HB1 := HB1.ext e105
    replace HB2 := HB2.ext e105
    replace HB3 := HB3.ext e105
    replace HB4 := HB4.ext e105
    replace HG44 := HG44.ext e105
    replace HB25 := HB25.ext e105
    replace HB26 := HB26.ext e105
    replace HB27 := HB27.ext e105
    replace HT1 := HT1.ext e105
    replace HT2 := HT2.ext e105
    refine l_gt rfl rfl (OpTo.of_v (OpVat.as (b := true) (v_eql rfl rfl) rfl) ?_)
    refine l_v (v_andT rfl rfl) ?_
    refine l_v (v_move (t := .bool _) rfl) ?_
    refine l_gt rfl rfl (OpTo.of_v (v_move (t := .int _ _) rfl) ?_)
    refine l_gt rfl rfl (to_f1 (by kernel_rfl) (show _ = (Value.int _ _) from rfl) (CallsR.mono (num_c) ?_))
    rintro _ w106 ⟨rfl, e106⟩
    have zs_e106 := e106.size
    replace E := E.trans (Ext.keep e106)
    replace HB1 := HB1.ext e106
    replace HB2 := HB2.ext e106
    replace HB3 := HB3.ext e106
    replace HB4 := HB4.ext e106
    replace HG44 := HG44.ext e106
    replace HB25 := HB25.ext e106
    replace HB26 := HB26.ext e106
    replace HB27 := HB27.ext e106
    replace HT1 := HT1.ext e106
    replace HT2 := HT2.ext e106
    refine l_gt rfl rfl (OpTo.of_v (OpVat.as (b := true) (v_eql rfl rfl) rfl) ?_)
    refine l_v (v_andT rfl rfl) ?_
    refine l_v (v_move (t := .bool _) rfl) ?_
    refine l_gt rfl rfl (OpTo.of_v (v_move (t := .int _ _) rfl) ?_)
    refine l_gt rfl rfl (to_f1 (by kernel_rfl) (show _ = (Value.int _ _) from rfl) (CallsR.mono (num_c) ?_))
    rintro _ w107 ⟨rfl, e107⟩
    have zs_e107 := e107.size
    replace E := E.trans (Ext.keep e107)
    replace HB1 := HB1.ext e107
    replace HB2 := HB2.ext e107
    replace HB3 := HB3.ext e107
    replace HB4 := HB4.ext e107
    replace HG44 := HG44.ext e107
    replace HB25 := HB25.ext e107
    replace HB26 := HB26.ext e107
    replace HB27 := HB27.ext e107
    replace HT1 := HT1.ext e107
    replace HT2 := HT2.ext e107
    refine l_gt rfl rfl (OpTo.of_v (OpVat.as (b := true) (v_eql rfl rfl) rfl) ?_)
    refine l_v (v_andT rfl rfl) ?_
    refine l_v (v_move (t := .bool _) rfl) ?_
    refine l_gt rfl rfl (OpTo.of_v (v_move (t := .int _ _) rfl) ?_)
    refine l_gt rfl rfl (to_f1 (by kernel_rfl) (show _ = (Value.int _ _) from rfl) (CallsR.mono (num_c) ?_))
    rintro _ w108 ⟨rfl, e108⟩
    have zs_e108 := e108.size
    replace E := E.trans (Ext.keep e108)
    replace HB1 := HB1.ext e108
    replace HB2 := HB2.ext e108
    replace HB3 := HB3.ext e108
    replace HB4 := HB4.ext e108
    replace HG44 := HG44.ext e108
    replace HB25 := HB25.ext e108
    replace HB26 := HB26.ext e108
    replace HB27 := HB27.ext e108
    replace HT1 := HT1.ext e108
    replace HT2 := HT2.ext e108
    refine l_gt rfl rfl (OpTo.of_v (OpVat.as (b := true) (v_eql rfl rfl) rfl) ?_)
    refine l_v (v_andT rfl rfl) ?_
    refine l_v (v_move (t := .bool _) rfl) ?_
    refine l_gt rfl rfl (OpTo.of_v (v_move (t := .int _ _) rfl) ?_)
    refine l_gt rfl rfl (OpTo.of_v (OpVat.as (b := true) (v_eql rfl rfl) rfl) ?_)
    refine l_v (v_andT rfl rfl) ?_
    refine l_v (v_move (t := .bool _) rfl) ?_
    refine l_gt rfl rfl (OpTo.of_v (v_move (t := .bool _) rfl) ?_)
    refine l_v (v_andT rfl rfl) ?_
    refine l_v (v_move (t := .bool _) rfl) ?_
    refine l_gt rfl rfl (OpTo.of_v (v_move (t := .pointer _) rfl) ?_)
    refine l_gt rfl rfl (OpTo.of_v (v_move (t := .pointer _) rfl) ?_)
    refine l_gt rfl rfl (to_f2 (by kernel_rfl) (show _ = (Value.pointer _) from rfl) (show _ = (Value.pointer _) from rfl) (CallsR.mono (TSame_c HB1 HT1 HB2 HT2 S2_ok S2_ok) ?_))
    rintro _ w109 ⟨rfl, e109⟩
    have zs_e109 := e109.size
    replace E := E.trans (Ext.keep e109)
    replace HB1 := HB1.ext e109
    replace HB2 := HB2.ext e109
    replace HB3 := HB3.ext e109
    replace HB4 := HB4.ext e109
    replace HG44 := HG44.ext e109
    replace HB25 := HB25.ext e109
    replace HB26 := HB26.ext e109
    replace HB27 := HB27.ext e109
    replace HT1 := HT1.ext e109
    replace HT2 := HT2.ext e109
    refine l_v (v_andT rfl rfl) ?_
    refine l_v (v_assign (t := .bool _) rfl) ?_
    refine l_nil ?_
    refine n_then ?_
    refine c_ret ?_
    refine ret1v rfl (by decide) (show _ = (Value.bool _) from rfl) ?_
    exact ⟨congrArg Value.bool eq2, E⟩
end Go.Proofs.Ytlhanmlpionomaa
