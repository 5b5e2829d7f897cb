/- A part of the proof: steps and lemmas for the walks through the given program. -/
import Derived.Test.YtkaangdfpjkjpaaR34
import Derived.Test.YtkaangdfpjkjpaaGv
import Derived.Test.YtkaangdfpjkjpaaGe
namespace Go.Proofs.Ytkaangdfpjkjpaa
open Go.Vc
set_option linter.unusedVariables false
set_option linter.unusedSimpArgs false
set_option maxRecDepth 100000

def stripR (r : RgV) : RgV := (r.1, [], false, r.2.2.2)
theorem fixL_back : ∀ l, mayL l = true → fixL (l.map stripR) = l
  | [], _ => rfl
  | [r], h => by
    simp only [mayL, Bool.and_eq_true, Bool.not_eq_true'] at h
    obtain ⟨a, b, c, d⟩ := r
    have h1 : c = false := h.1.2
    have h2 : b = [] := List.isEmpty_iff.1 h.2
    subst h1; subst h2; rfl
  | r :: s :: l, h => by
    rw [mayL_two, Bool.and_eq_true] at h
    have h2 := fixL_back (s :: l) h.2
    have h1 := h.1
    simp only [oneOk, Bool.and_eq_true, decide_eq_true_eq] at h1
    simp only [List.map_cons] at h2 ⊢
    rw [fixL, h2]
    obtain ⟨a, b, c, d⟩ := r
    have e1 : b = s.1 := h1.2
    have e2 : c = true := h1.1.1.1.2
    rw [e1, e2]; rfl
theorem rdR_back {r : RgV} (h1 : r.1.length ≤ 24) (h2 : grpB r.2.2.2 = true) (t : List UInt8) : rdR (spR r ++ t) = .ok (stripR r, t) := by
  have hg := grpB_range h2
  have e1 : rdBytes 24 (spR r ++ t) = .ok (r.1, wNum r.2.2.2.toNat ++ t) := by
    rw [spR, rdBytes, tryRd, wBytes, List.append_assoc, List.append_assoc, rdNum_wNum (by omega)]
    simp only [h1, if_true]
    rw [rdSome, if_pos (by simp)]
    simp
  rw [rdR, e1]
  simp only []
  rw [rdNum_wNum (by omega)]
  simp only []
  rw [if_pos (by omega), stripR, show ((r.2.2.2.toNat : Nat) : Int) = r.2.2.2 by omega]
theorem rdList_mapB {α : Type} {ρ : List UInt8 → Except Int (α × List UInt8)} {sp : α → List UInt8} {f : α → α} : ∀ (xs : List α) (r : List UInt8), (∀ x ∈ xs, ∀ r, ρ (sp x ++ r) = .ok (f x, r)) → rdList ρ xs.length ((xs.map sp).flatten ++ r) = .ok (xs.map f, r)
  | [], r, _ => by simp [rdList]
  | x :: xs, r, h => by
    have h1 := rdList_mapB xs r (fun y hy => h y (List.mem_cons_of_mem _ hy))
    simp only [List.map_cons, List.flatten_cons, List.length_cons, rdList, List.append_assoc]
    rw [h x List.mem_cons_self]
    simp only []
    rw [h1]
theorem readM_back {m : MpV} (hm : mayM m = true) : readM (mapW m) = (m, 0) := by
  obtain ⟨e, rs⟩ := m
  obtain ⟨p1, p2, p3, p4, _, p6⟩ := mayM_parts hm
  simp only at p1 p2 p3 p4 p6
  have hl := mayM_lens hm
  simp only at hl
  have h1 : tryRd (rdList rdR) 16 (wList spR rs) = .ok (rs.map stripR, []) := by
    have h := rdList_mapB (ρ := rdR) (sp := spR) (f := stripR) rs [] (fun x hx r => rdR_back (hl x hx).1 (hl x hx).2.2 r)
    rw [List.append_nil] at h
    rw [tryRd, wList, rdNum_wNum (by omega)]
    simp only [p4, if_true]
    exact h
  rw [readM, mapW, rdNum_wNum (by omega)]
  simp only []
  rw [h1]
  simp only []
  have he : ((e.toNat : Nat) : Int) = e := by omega
  rw [fixL_back rs p6, he, if_pos ⟨trivial, by omega, hm⟩]
theorem back1_c {w : World} {F G H : Nat → Prop} {v u kv : Value} {m o : MpV} {k : List UInt8} (HG1 : AgV tMp w F v m) (HG2 : AgV tMp w G u o) (HS3 : Bv w H kv k) (hm : mayM m = true) (hs : splitM m k = (o, 0)) (he : m.1 < 2147483646) : CallsR Try.prog 46 #[v, u, kv] w (fun r w' => r = .bool true ∧ Ext w w') := by
  refine CallsR.mono (back_c HG1 HG2 HS3) fun r w' h => ⟨?_, h.2⟩
  obtain ⟨e, rs⟩ := m
  rw [h.1, back_ok hm hs he]
  simp [sameM]
theorem step_may {m o : MpV} {x : StV} (hm : mayM m = true) (h : stepM m x = (o, 0)) : mayM o = true ∧ o.1 = m.1 + 1 := by
  obtain ⟨e, rs⟩ := m
  unfold stepM at h
  split at h
  · exact split_may hm h
  split at h
  · exact union_may hm h
  split at h
  · exact give_may hm h
  · cases h
theorem RangesOne_c {w : World} {F G : Nat → Prop} {g : Int} {lv kv : Value} {xs : List StV} {k : List UInt8} (hg : -9223372036854775808 ≤ g ∧ g ≤ 9223372036854775807) (HS1 : SlV tSt w F lv xs) (HS2 : Bv w G kv k) : CallsR Try.prog 15 #[.int .i64 g, lv, kv] w (fun r w' => r = .bool true ∧ Ext w w') := by
  obtain ⟨a1, c1, rfl⟩ := HS1.shape
  obtain ⟨a2, c2, rfl⟩ := HS2.shape
  have hmx := HS1.len_max
  have hmx2 := HS2.len_max
  refine enter 134 Try.func15 rfl rfl (by simp) ?_
  refine c_seq ?_
  have E := Keep.refl (K := NoK) w
  replace HS1 := HS1.all
  replace HS2 := HS2.all
  refine wp_reg (by decide +kernel) ?_
  refine l_v (v_assign rfl) ?_
  refine l_nil ?_
  refine n_then ?_
  refine c_seq ?_
  refine c_seq ?_
  refine wp_reg (by decide +kernel) ?_
  refine l_to (to_f0 (by kernel_rfl) (CallsR.mono (known_c) ?_))
  rintro _ w3 ⟨rfl, e3⟩
  have zs_e3 := e3.size
  replace E := E.trans (Ext.keep e3)
  replace HS1 := HS1.ext e3
  replace HS2 := HS2.ext e3
  refine l_v (v_not rfl) ?_
  refine l_nil ?_
  refine n_then ?_
  refine c_cond rfl rfl (fun hk => ?_) (fun hk => ?_)
  · skip
    cases hk
  · skip
    by_cases hgg : grpB g = true
    · skip
      refine c_skip ?_
      refine n_then ?_
      refine c_seq ?_
      refine wp_reg (by decide +kernel) ?_
      refine l_v (v_move (t := .int _ _) rfl) ?_
      refine l_to (to_f1 (by kernel_rfl) (show _ = (Value.int _ _) from rfl) (CallsR.mono (New_c hg) ?_))
      rintro _ w4 ⟨⟨x4, rfl, HG4⟩, e4⟩
      have zs_e4 := e4.size
      rw [if_pos hgg] at HG4 ⊢
      replace HG4 : AgV tMp _ _ _ (1, [([], [], false, g)]) := HG4.all
      obtain ⟨a4, c4, rfl, HS4, he4⟩ := HG4.mp
      replace E := E.trans (Ext.keep e4)
      replace HS1 := HS1.ext e4
      replace HS2 := HS2.ext e4
      refine l_v (v_move (t := .tuple _) rfl) ?_
      refine l_v (v_extract (t := .agg _) rfl rfl) ?_
      refine l_v (v_extract (t := .int _ _) rfl rfl) ?_
      refine l_to (to_alloc (z := (.agg #[.int .i64 0, .slice none 0 0])) (by unfold kZero; kernel_rfl) ?_)
      rintro b7 w7 zb7 HB7 e7 z7
      have zs_e7 := e7.size
      replace E := E.trans (Ext.keep e7)
      replace HS1 := HS1.ext e7
      replace HS2 := HS2.ext e7
      replace HG4 := HG4.ext e7
      try simp only [Value.cells] at HB7
      refine l_to (to_storeA (n := 2) rfl rfl (show _ = (Value.agg _) from rfl) (by kernel_rfl) rfl (by first | (simp [slice_one]; done) | (simp only [List.forall_mem_cons, List.cons_append, List.nil_append]; repeat' (first | exact rfl | apply And.intro | (intro u hu; cases hu; done)))) HB7 (by first | exact of_decide_eq_true rfl | (simp; done) | decide) ?_)
      rintro w101 HX101 k101 z101
      have zs_k101 := k101.size
      replace E := E.step k101 (by intro i hi he; (try dsimp only [NoK] at hi he ⊢); first | exact he.elim | omega | exact he)
      replace HS1 := HS1.keep k101 (by intro i _ hi he; (try dsimp only [NoK, AllB] at hi he); first | exact hi.elim | exact he.elim | omega | (rcases hi with hi | hi <;> omega) | (rcases he with he | he <;> omega))
      replace HS2 := HS2.keep k101 (by intro i _ hi he; (try dsimp only [NoK, AllB] at hi he); first | exact hi.elim | exact he.elim | omega | (rcases hi with hi | hi <;> omega) | (rcases he with he | he <;> omega))
      replace HG4 := HG4.keep k101 (by intro i _ hi he; (try dsimp only [NoK, AllB] at hi he); first | exact hi.elim | exact he.elim | omega | (rcases hi with hi | hi <;> omega) | (rcases he with he | he <;> omega))
      replace HB7 := HX101
      clear HX101
      try simp only [List.set_cons_zero, List.set_cons_succ, setAt, List.take_zero, List.take_succ_cons, List.drop_zero, List.drop_succ_cons, List.nil_append, List.cons_append, List.append_nil, List.length_cons, List.length_nil, Nat.zero_add, Nat.reduceAdd, List.drop_nil] at HB7
      refine l_v (v_assign (t := .int _ _) rfl) ?_
      refine l_nil ?_
      refine n_then ?_
      refine c_seq ?_
      refine c_seq ?_
      refine wp_reg (by decide +kernel) ?_
      refine l_v (v_move (t := .int _ _) rfl) ?_
      refine l_to (to_f1 (by kernel_rfl) (show _ = (Value.int _ _) from rfl) (CallsR.mono (num_c) ?_))
      rintro _ w5 ⟨rfl, e5⟩
      have zs_e5 := e5.size
      replace E := E.trans (Ext.keep e5)
      replace HS1 := HS1.ext e5
      replace HS2 := HS2.ext e5
      replace HG4 := HG4.ext e5
      replace HB7 := HB7.ext e5
      refine l_v (v_neq rfl rfl) ?_
      refine l_v (v_move (t := .bool _) rfl) ?_
      refine l_g1 rfl rfl (fun hG => v_move (t := .slice _ _ _) rfl) ?_
      refine l_g1 rfl rfl (fun hG => v_len (et := 5) (by kernel_rfl) (gd hG rfl)) ?_
      refine l_g1 rfl rfl (fun hG => v_gtr (gd hG rfl) rfl) ?_
      refine l_v (v_or rfl rfl) ?_
      refine l_nil ?_
      refine n_then ?_
      refine c_cond rfl rfl (fun hc => ?_) (fun hc => ?_)
      · skip
        refine c_seq ?_
        refine wp_reg (by decide +kernel) ?_
        refine l_v (v_move (t := .int _ _) rfl) ?_
        refine l_to (to_f1 (by kernel_rfl) (show _ = (Value.int _ _) from rfl) (CallsR.mono (num_c) ?_))
        rintro _ w6 ⟨rfl, e6⟩
        have zs_e6 := e6.size
        replace E := E.trans (Ext.keep e6)
        replace HS1 := HS1.ext e6
        replace HS2 := HS2.ext e6
        replace HG4 := HG4.ext e6
        replace HB7 := HB7.ext e6
        refine l_v (v_eql rfl rfl) ?_
        refine l_v (v_move (t := .bool _) rfl) ?_
        refine l_g1 rfl rfl (fun hG => v_move (t := .slice _ _ _) rfl) ?_
        refine l_g1 rfl rfl (fun hG => v_len (et := 5) (by kernel_rfl) (gd hG rfl)) ?_
        refine l_g1 rfl rfl (fun hG => v_gtr (gd hG rfl) rfl) ?_
        refine l_v (v_or rfl rfl) ?_
        refine l_v (v_assign (t := .bool _) rfl) ?_
        refine l_nil ?_
        refine n_then ?_
        refine c_ret ?_
        refine r_then ?_
        refine ret1v rfl (by decide) (show _ = (Value.bool _) from rfl) ?_
        refine ⟨?_, E⟩
        simp at hc ⊢; omega
      · skip
        have HG1 : AgV tMp w5 (fun b => b ≠ b7 ∧ b < w5.heap.size) _ (1, [([], [], false, g)]) := HG4.mono fun b hb h => by omega
        refine c_skip ?_
        refine n_then ?_
        refine c_seq ?_
        refine c_seq ?_
        refine wp_reg (by decide +kernel) ?_
        refine l_v (v_assign rfl) ?_
        refine l_nil ?_
        refine n_then ?_
        refine c_block ?_
        refine c_loop (τ := Nat × MpV × List Value) [6, 9, 10, 11, 39, 40, 41, 42, 43, 44, 45, 46, 47, 48, 49, 50, 51, 52, 53, 54, 55, 56, 57, 58, 59, 60, 61, 62, 63, 64, 65, 66, 67, 68, 69, 70, 71, 72, 73, 74, 75, 76, 77, 78, 79, 80, 81, 82, 83, 84, 85, 86, 87, 88, 89, 90, 91, 92, 93, 94, 95, 96, 97, 98, 99, 100, 101, 102, 103, 104, 105, 106, 107] (fun (i, m, cs) => [(9, .int .i64 i)]) (fun (i, m, cs) W => Ext w W ∧ Keep (fun b => b7 ≤ b) w5 W ∧ i ≤ xs.length ∧ i ≤ 60 ∧ Blk W b7 cs 24 ∧ AgV tMp W (fun b => b ≠ b7 ∧ b < W.heap.size) (.agg cs.toArray) m ∧ mayM m = true ∧ m.1 ≤ 1 + i) (fun (i, m, cs) => 60 - i) (0, (1, [([], [], false, g)]), _) (by exact ⟨rfl, trivial⟩) (by exact ⟨E, Keep.refl _, Nat.zero_le _, Nat.zero_le _, HB7, HG1.mono (fun b hb h => ⟨h.1, hb⟩), new_may hgg, by simp⟩) ?_
        rintro ⟨i, m, cs⟩ w102 j ⟨E, EL1, h1, h2, HB7, HG1, hm, hmi⟩
        have zs_EL1 := EL1.size
        replace HS1 := HS1.keep EL1 (by intro i _ hi he; (try dsimp only [NoK, AllB] at hi he); first | exact hi.elim | exact he.elim | omega | (rcases hi with hi | hi <;> omega) | (rcases he with he | he <;> omega))
        replace HS2 := HS2.keep EL1 (by intro i _ hi he; (try dsimp only [NoK, AllB] at hi he); first | exact hi.elim | exact he.elim | omega | (rcases hi with hi | hi <;> omega) | (rcases he with he | he <;> omega))
        refine c_seq ?_
        refine c_seq ?_
        obtain ⟨e, rs⟩ := m
        obtain ⟨a5, c5, hq5, HS5, he5⟩ := HG1.mp
        obtain rfl : cs = [_, _] := congrArg Array.toList (Value.agg.inj hq5)
        simp only at hmi he5 HS5
        refine wp_reg (by decide +kernel) ?_
        refine l_v (v_move (t := .int _ _) rfl) ?_
        refine l_v (v_move (t := .slice _ _ _) rfl) ?_
        refine l_v (v_len (et := 59) (by kernel_rfl) rfl) ?_
        refine l_v (v_lss rfl rfl) ?_
        refine l_v (v_move (t := .bool _) rfl) ?_
        refine l_g1 rfl rfl (fun hG => v_move (t := .int _ _) rfl) ?_
        refine l_g1 rfl rfl (fun hG => v_lss (gd hG rfl) rfl) ?_
        refine l_v (v_and rfl rfl) ?_
        refine l_nil ?_
        refine n_then ?_
        refine c_cond rfl rfl (fun hlt => ?_) (fun hlt => ?_)
        · skip
          have hlt : i < xs.length ∧ i < 60 := by simp at hlt; omega
          obtain ⟨x, hx, hdx⟩ := getE (l := xs) (i := i) (by omega)
          obtain ⟨q1, cs1, rfl, hq1, _, HP1, hr1⟩ := HS1.el hx
          have HG2 : AgV tSt _ _ _ x := ⟨cs1, rfl, hr1⟩
          obtain ⟨b1, d1, rfl, HS9⟩ := tSt_cells hr1
          refine c_skip ?_
          refine n_then ?_
          refine c_seq ?_
          refine c_block ?_
          refine c_seq ?_
          refine c_seq ?_
          refine wp_reg (by decide +kernel) ?_
          refine l_v (v_move (t := .slice _ _ _) rfl) ?_
          refine l_v (v_move (t := .int _ _) rfl) ?_
          refine l_v (v_indexAddr (et := 59) (sz := 3) (k := i) (by kernel_rfl) (by kernel_rfl) rfl rfl (by first | rfl | omega) (by omega)) ?_
          refine l_v (v_fieldAddr (off := 2) (ft := 35) (by kernel_rfl) rfl) ?_
          refine l_v (v_load (by kernel_rfl) rfl (by first | exact HP1 2 _ rfl | exact HB7.pv 2 _ rfl | assumption)) ?_
          refine l_v (v_len (et := 5) (by kernel_rfl) rfl) ?_
          refine l_v (v_gtr rfl rfl) ?_
          refine l_nil ?_
          refine n_then ?_
          refine c_cond rfl rfl (fun hlong => ?_) (fun hlong => ?_)
          · skip
            refine c_seq ?_
            refine wp_reg (by decide +kernel) ?_
            refine l_v (v_assign rfl) ?_
            refine l_nil ?_
            refine n_then ?_
            refine c_ret ?_
            refine r_then ?_
            refine r_blk ?_
            refine r_then ?_
            refine r_then ?_
            refine r_blk ?_
            refine r_then ?_
            refine ret1v rfl (by decide) (show _ = (Value.bool _) from rfl) ?_
            exact ⟨rfl, E⟩
          · skip
            refine c_skip ?_
            refine n_then ?_
            refine c_seq ?_
            refine wp_any (by kernel_rfl) ?_
            have e103 : Ext w102 { w102 with drawn := w102.drawn + 1 } := Keep.drawn _ _
            generalize hw103 : ({ w102 with drawn := w102.drawn + 1 } : World) = w103 at e103 ⊢
            clear hw103
            have zs_e103 := e103.size
            replace E := E.trans (Ext.keep e103)
            replace HS1 := HS1.ext e103
            replace HS2 := HS2.ext e103
            replace HB7 := HB7.ext e103
            replace HG1 := HG1.ext e103
            replace EL1 := EL1.trans (Ext.keep e103)
            replace HP1 := HP1.ext e103
            replace HG2 := HG2.ext e103
            replace HS9 := HS9.ext e103
            refine r_cut 11 rfl (by decide +kernel) (by decide +kernel) (by decide +kernel) ?_
            refine wp_regJW (fun k => w103.heap.size ≤ k) (CJ (tMp) ((stepM (e, rs) x).1) (tU8) ([]) (.int .i64 (stepM (e, rs) x).2) ([.int .i64 0, .slice none 0 0] : List Value) 24 99 5 6 7 8 9 10 w103.heap.size) (by decide +kernel) (by decide +kernel) (fun vals done hd => CJ.start _ (by rfl) (by simp only [List.forall_mem_cons]; repeat' (first | exact rfl | apply And.intro | (intro u hu; cases hu; done))) (Nat.le_refl _) (fun h => absurd rfl h) (hd 5 (by decide)) (hd 6 (by decide)) (hd 7 (by decide)) (hd 8 (by decide)) (hd 9 (by decide))) ?_
            refine rj_v CJ.on (by decide) (fun done vals w hR hJ hdn hd => v_loadA (by kernel_rfl) rfl (by first | exact (HP1.keep hR (by intro h; (try dsimp only at h); (try simp only [add_block] at h); first | omega)) | exact (HB7.keep hR (by intro h; (try dsimp only at h); first | omega)).pv | assumption) rfl) ?_
            refine rj_v CJ.on (by decide) (fun done vals w hR hJ hdn hd => v_move (t := .slice _ _ _) rfl) ?_
            refine rj_v CJ.on (by decide) (fun done vals w hR hJ hdn hd => v_move (t := .int _ _) rfl) ?_
            refine rj_v CJ.on (by decide) (fun done vals w hR hJ hdn hd => v_indexAddr (et := 59) (sz := 3) (k := i) (by kernel_rfl) (by kernel_rfl) (hd 1 rfl) (hd 2 rfl) (by first | rfl | omega) (by omega)) ?_
            refine rj_v CJ.on (by decide) (fun done vals w hR hJ hdn hd => v_loadA (by kernel_rfl) (hd 3 rfl) (by first | exact (HP1.keep hR (by intro h; (try dsimp only at h); (try simp only [add_block] at h); first | omega)) | exact (HB7.keep hR (by intro h; (try dsimp only at h); first | omega)).pv | assumption) rfl) ?_
            refine rj_d (fun done vals w hR hcl hdk hJ hdn hd => by
                exact to_f2 (by kernel_rfl) (hd 0 rfl) (hd 4 rfl) (CallsR.mono (step_c (HG1.keep hR (by intro i _ hi he; (try dsimp only [NoK, AllB] at hi he); first | exact hi.elim | exact he.elim | omega | (rcases hi with hi | hi <;> omega) | (rcases he with he | he <;> omega))) (HG2.keep hR (by intro i _ hi he; (try dsimp only [NoK, AllB] at hi he); first | exact hi.elim | exact he.elim | omega | (rcases hi with hi | hi <;> omega) | (rcases he with he | he <;> omega)))) fun o w1 h => by
                  obtain ⟨⟨y, rfl, cs, rfl, hr⟩, e1⟩ := h
                  exact ⟨Ext.keep e1, hJ.call (by decide) (Bool.eq_false_iff.2 fun h => absurd (hdk.symm.trans (hcl 6 _ h rfl 5 rfl)) (by decide)) (Bool.eq_false_iff.2 fun h => absurd (hdk.symm.trans (hcl 6 _ (hcl 7 _ h rfl 6 rfl) rfl 5 rfl)) (by decide)) (Bool.eq_false_iff.2 fun h => absurd (hdk.symm.trans (hcl 6 _ (hcl 8 _ h rfl 6 rfl) rfl 5 rfl)) (by decide)) (Bool.eq_false_iff.2 fun h => absurd (hdk.symm.trans (hcl 6 _ (hcl 7 _ (hcl 10 _ h rfl 7 rfl) rfl 6 rfl) rfl 5 rfl)) (by decide)) e1 hr (Ty.len _ hr) (Ty.one _ hr)⟩)) ?_
            refine rj_d (fun done vals w hR hcl hdk hJ hdn hd => by
                obtain ⟨cs, hv, hj⟩ := hJ.mvd (by decide) (hdn 5 rfl)
                exact OpTo.of_v (v_move (t := .tuple #[.agg cs.toArray, .int .i64 (stepM (e, rs) x).2]) hv) ⟨Keep.refl _, hj⟩) ?_
            refine rj_d (fun done vals w hR hcl hdk hJ hdn hd => by
                obtain ⟨cs, hv, hj⟩ := hJ.x0d (by decide) (hdn 6 rfl)
                exact OpTo.of_v (v_extract (t := .agg cs.toArray) hv rfl) ⟨Keep.refl _, hj⟩) ?_
            refine rj_d (fun done vals w hR hcl hdk hJ hdn hd => by
                obtain ⟨cs, hv, hj⟩ := hJ.x1d (by decide) (hdn 6 rfl)
                exact OpTo.of_v (v_extract (t := .int .i64 (stepM (e, rs) x).2) hv rfl) ⟨Keep.refl _, hj⟩) ?_
            refine rj_d (fun done vals w hR hcl hdk hJ hdn hd => to_alloc (z := .agg #[.int .i64 0, .slice none 0 0]) (by unfold kZero; kernel_rfl) fun b w1 hb hB e hz => ⟨Ext.keep e, hJ.al (by decide) (Bool.eq_false_iff.2 fun h => absurd (hdk.symm.trans (hcl 10 _ h rfl 9 rfl)) (by decide)) hb hB e⟩) ?_
            refine rj_d (fun done vals w hR hcl hdk hJ hdn hd => by
                obtain ⟨b, cs, hb, hv, hn, hB, hl, ho⟩ := hJ.seen (hdn 7 rfl) (hdn 9 rfl) hdk
                exact to_storeA (n := 2) (hb) rfl (hv) (by kernel_rfl) (show cs.length = _ from hl) (show ∀ u ∈ cs, _ from ho) hB (of_decide_eq_true rfl) (fun w1 hB1 kk z => ⟨kk.mono (fun i _ h => by rw [h]; exact hn), hJ.st (by decide) (hdn 7 rfl) (hdn 9 rfl) hb hv (by rw [show cs.toArray.toList = cs from rfl, setAt_all (by rw [hl]; rfl)] at hB1; exact hB1) kk⟩)) ?_
            refine rj_nil (fun vals w104 k104 J104 => ?_)
            rintro _ - rfl _ - rfl _ - rfl _ - rfl _ - rfl v62 qp5 - v56 qp6 - v63 qp7 - v64 qp8 - v10 qp9 - _ - -
            have zs_k104 := k104.size
            obtain ⟨b10, cs10, qh5, qh6, qh7, qh8, qh9, zb10, HB10, HG10, -⟩ := J104.fin
            obtain rfl := qp5.trans qh5
            obtain rfl := qp6.trans qh6
            obtain rfl := qp7.trans qh7
            obtain rfl := qp8.trans qh8
            obtain rfl := qp9.trans qh9
            have zl10 := HB10.lt
            replace E := E.step k104 (by intro i hi he; (try dsimp only [NoK] at hi he ⊢); first | exact he.elim | omega | exact he)
            replace HS1 := HS1.keep k104 (by intro i _ hi he; (try dsimp only [NoK, AllB] at hi he); first | exact hi.elim | exact he.elim | omega | (rcases hi with hi | hi <;> omega) | (rcases he with he | he <;> omega))
            replace HS2 := HS2.keep k104 (by intro i _ hi he; (try dsimp only [NoK, AllB] at hi he); first | exact hi.elim | exact he.elim | omega | (rcases hi with hi | hi <;> omega) | (rcases he with he | he <;> omega))
            replace HB7 := HB7.keep k104 (by intro h; (try dsimp only at h); first | omega)
            replace HG1 := HG1.keep k104 (by intro i _ hi he; (try dsimp only [NoK, AllB] at hi he); first | exact hi.elim | exact he.elim | omega | (rcases hi with hi | hi <;> omega) | (rcases he with he | he <;> omega))
            replace EL1 := EL1.step k104 (by intro i hi he; (try dsimp only [NoK] at hi he ⊢); first | exact he.elim | omega | exact he)
            replace HP1 := HP1.keep k104 (by intro h; (try dsimp only at h); (try simp only [add_block] at h); first | omega)
            replace HG2 := HG2.keep k104 (by intro i _ hi he; (try dsimp only [NoK, AllB] at hi he); first | exact hi.elim | exact he.elim | omega | (rcases hi with hi | hi <;> omega) | (rcases he with he | he <;> omega))
            replace HS9 := HS9.keep k104 (by intro i _ hi he; (try dsimp only [NoK, AllB] at hi he); first | exact hi.elim | exact he.elim | omega | (rcases hi with hi | hi <;> omega) | (rcases he with he | he <;> omega))
            obtain ⟨a10, c10, hq10, HS10, he10⟩ := HG10.mp
            obtain rfl : cs10 = [_, _] := congrArg Array.toList (Value.agg.inj hq10)
            refine fin_nilJ ?_
            refine n_then ?_
            refine r_one (by decide +kernel) rfl ?_
            obtain ⟨o, f, hof⟩ : ∃ o f, stepM (e, rs) x = (o, f) := ⟨_, _, rfl⟩
            rw [hof] at HG10 HB10 he10
            rw [hof]
            simp only at HG10 HB10 he10
            refine l_v (v_assign (t := .int _ _) rfl) ?_
            refine l_nil ?_
            refine n_then ?_
            by_cases hf : f = 0
            · skip
              by_cases hx1 : x.1 = 1
              · skip
                refine c_seq ?_
                refine c_seq ?_
                refine wp_regd (NoK) (by kernel_rfl) (by decide +kernel) (by decide +kernel) ?_
                refine rt_v (fun vals w hR hd => v_move (t := .int _ _) rfl) ?_
                refine rt_vf (fun vals w hR hd => to_f1 (by kernel_rfl) (hd 0 rfl) (num_c)) ?_
                refine rt_v (fun vals w hR hd => OpVat.as (b := true) (v_eql (hd 1 rfl) rfl) (decide_eq_true hf)) ?_
                refine rt_v (fun vals w hR hd => v_move (t := .bool _) (hd 2 rfl)) ?_
                refine rt_hv rfl (fun vals w hd => hd 3 rfl) (fun vals w hR hd => v_fieldAddr (off := 0) (ft := 2) (by kernel_rfl) rfl) ?_
                refine rt_hv rfl (fun vals w hd => hd 3 rfl) (fun vals w hR hd => v_load (by kernel_rfl) (hd 4 rfl) (by first | exact (HB10.ext hR).pv 0 _ rfl | exact (HP1.ext hR) 0 _ rfl | exact (HB7.ext hR).pv 0 _ rfl | assumption)) ?_
                refine rt_hv rfl (fun vals w hd => hd 3 rfl) (fun vals w hR hd => v_fieldAddr (off := 0) (ft := 2) (by kernel_rfl) rfl) ?_
                refine rt_hv rfl (fun vals w hd => hd 3 rfl) (fun vals w hR hd => v_load (by kernel_rfl) (hd 6 rfl) (by first | exact (HB10.ext hR).pv 0 _ rfl | exact (HP1.ext hR) 0 _ rfl | exact (HB7.ext hR).pv 0 _ rfl | assumption)) ?_
                refine rt_hv rfl (fun vals w hd => hd 3 rfl) (fun vals w hR hd => v_add (hd 7 rfl) rfl (by first | exact wr_i64 (by omega) (by omega) | rfl)) ?_
                refine rt_hv rfl (fun vals w hd => hd 3 rfl) (fun vals w hR hd => OpVat.as (b := false) (v_neq (hd 5 rfl) (hd 8 rfl)) (by have h9 := (step_may hm (hf ▸ hof)).2; simp only at h9; simp [h9])) ?_
                refine rt_hv rfl (fun vals w hd => hd 3 rfl) (fun vals w hR hd => v_move (t := .bool _) (hd 9 rfl)) ?_
                refine rt_hv rfl (fun vals w hd => hd 10 rfl) (fun vals w hR hd => v_move (t := .slice _ _ _) rfl) ?_
                refine rt_hv rfl (fun vals w hd => hd 10 rfl) (fun vals w hR hd => v_move (t := .int _ _) rfl) ?_
                refine rt_hv rfl (fun vals w hd => hd 10 rfl) (fun vals w hR hd => v_indexAddr (et := 59) (sz := 3) (k := i) (by kernel_rfl) (by kernel_rfl) (hd 11 rfl) (hd 12 rfl) (by first | rfl | omega) (by omega)) ?_
                refine rt_hv rfl (fun vals w hd => hd 10 rfl) (fun vals w hR hd => v_fieldAddr (off := 0) (ft := 3) (by kernel_rfl) (hd 13 rfl)) ?_
                refine rt_hv rfl (fun vals w hd => hd 10 rfl) (fun vals w hR hd => v_load (by kernel_rfl) (hd 14 rfl) (by first | exact (HB10.ext hR).pv 0 _ rfl | exact (HP1.ext hR) 0 _ rfl | exact (HB7.ext hR).pv 0 _ rfl | assumption)) ?_
                refine rt_hv rfl (fun vals w hd => hd 10 rfl) (fun vals w hR hd => OpVat.as (b := true) (v_eql (hd 15 rfl) rfl) (decide_eq_true hx1)) ?_
                refine rt_hv rfl (fun vals w hd => hd 10 rfl) (fun vals w hR hd => v_move (t := .bool _) (hd 16 rfl)) ?_
                refine rt_hv rfl (fun vals w hd => hd 17 rfl) (fun vals w hR hd => v_loadA (by kernel_rfl) rfl (by first | exact (HB10.ext hR).pv | exact (HP1.ext hR) | exact (HB7.ext hR).pv | assumption) rfl) ?_
                refine rt_hv rfl (fun vals w hd => hd 17 rfl) (fun vals w hR hd => v_loadA (by kernel_rfl) rfl (by first | exact (HB10.ext hR).pv | exact (HP1.ext hR) | exact (HB7.ext hR).pv | assumption) rfl) ?_
                refine rt_hv rfl (fun vals w hd => hd 17 rfl) (fun vals w hR hd => v_move (t := .slice _ _ _) rfl) ?_
                refine rt_hv rfl (fun vals w hd => hd 17 rfl) (fun vals w hR hd => v_move (t := .int _ _) rfl) ?_
                refine rt_hv rfl (fun vals w hd => hd 17 rfl) (fun vals w hR hd => v_indexAddr (et := 59) (sz := 3) (k := i) (by kernel_rfl) (by kernel_rfl) (hd 20 rfl) (hd 21 rfl) (by first | rfl | omega) (by omega)) ?_
                refine rt_hv rfl (fun vals w hd => hd 17 rfl) (fun vals w hR hd => v_fieldAddr (off := 2) (ft := 35) (by kernel_rfl) (hd 22 rfl)) ?_
                refine rt_hv rfl (fun vals w hd => hd 17 rfl) (fun vals w hR hd => v_load (by kernel_rfl) (hd 23 rfl) (by first | exact (HB10.ext hR).pv 2 _ rfl | exact (HP1.ext hR) 2 _ rfl | exact (HB7.ext hR).pv 2 _ rfl | assumption)) ?_
                refine rt_hvf rfl (fun vals w hd => hd 17 rfl) (fun vals w hR hd => to_f3 (by kernel_rfl) (hd 18 rfl) (hd 19 rfl) (hd 24 rfl) (back1_c (HG1.ext hR) (HG10.ext hR) (HS9.ext hR) hm (by rw [stepM, if_pos hx1, hf] at hof; exact hof) (by simp only; omega))) ?_
                refine rt_hv rfl (fun vals w hd => hd 17 rfl) (fun vals w hR hd => v_not (hd 25 rfl)) ?_
                refine rt_hv rfl (fun vals w hd => hd 10 rfl) (fun vals w hR hd => v_andT (hd 17 rfl) (hd 26 rfl)) ?_
                refine rt_hv rfl (fun vals w hd => hd 3 rfl) (fun vals w hR hd => v_orT (hd 10 rfl) (hd 27 rfl)) ?_
                refine rt_v (fun vals w hR hd => v_andT (hd 3 rfl) (hd 28 rfl)) ?_
                refine rt_nil (fun w105 e105 => ?_)
                rintro _ rfl _ rfl _ rfl _ rfl _ rfl _ rfl _ rfl _ rfl _ rfl _ rfl _ rfl _ rfl _ rfl _ rfl _ rfl _ rfl _ rfl _ rfl _ rfl _ rfl _ rfl _ rfl _ rfl _ rfl _ rfl _ rfl _ rfl _ rfl _ rfl _ rfl
                have zs_e105 := e105.size
                replace E := E.trans (Ext.keep e105)
                replace HS1 := HS1.ext e105
                replace HS2 := HS2.ext e105
                replace HB7 := HB7.ext e105
                replace HG1 := HG1.ext e105
                replace EL1 := EL1.trans (Ext.keep e105)
                replace HP1 := HP1.ext e105
                replace HG2 := HG2.ext e105
                replace HS9 := HS9.ext e105
                replace HB10 := HB10.ext e105
                replace HG10 := HG10.ext e105
                refine fin_nil ?_
                refine n_then ?_
                refine c_cond rfl rfl (fun hb => ?_) (fun hb => ?_)
                · skip
                  cases hb
                · skip
                  refine c_skip ?_
                  refine n_then ?_
                  refine c_seq ?_
                  refine c_seq ?_
                  refine wp_reg (by decide +kernel) ?_
                  refine l_v (v_move (t := .int _ _) rfl) ?_
                  refine l_to (to_f1 (by kernel_rfl) (show _ = (Value.int _ _) from rfl) (CallsR.mono (num_c) ?_))
                  rintro _ w20 ⟨rfl, e20⟩
                  have zs_e20 := e20.size
                  replace E := E.trans (Ext.keep e20)
                  replace HS1 := HS1.ext e20
                  replace HS2 := HS2.ext e20
                  replace HB7 := HB7.ext e20
                  replace HG1 := HG1.ext e20
                  replace EL1 := EL1.trans (Ext.keep e20)
                  replace HP1 := HP1.ext e20
                  replace HG2 := HG2.ext e20
                  replace HS9 := HS9.ext e20
                  replace HB10 := HB10.ext e20
                  replace HG10 := HG10.ext e20
                  refine l_v (v_eql rfl rfl) ?_
                  refine l_nil ?_
                  refine n_then ?_
                  refine c_cond rfl rfl (fun hz => ?_) (fun hz => ?_)
                  · skip
                    have hmo := step_may hm (hf ▸ hof)
                    refine wp_reg (by decide +kernel) ?_
                    refine l_v (v_loadA (by kernel_rfl) rfl (by first | exact HB10.pv | exact HP1 | exact HB7.pv | assumption) rfl) ?_
                    refine l_to (to_storeA (n := 2) rfl rfl (show _ = (Value.agg _) from rfl) (by kernel_rfl) rfl (by first | (simp [slice_one]; done) | (simp only [List.forall_mem_cons, List.cons_append, List.nil_append]; repeat' (first | exact rfl | apply And.intro | (intro u hu; cases hu; done)))) HB7 (by first | exact of_decide_eq_true rfl | (simp; done) | decide) ?_)
                    rintro w106 HX106 k106 z106
                    have zs_k106 := k106.size
                    replace E := E.step k106 (by intro i hi he; (try dsimp only [NoK] at hi he ⊢); first | exact he.elim | omega | exact he)
                    replace HS1 := HS1.keep k106 (by intro i _ hi he; (try dsimp only [NoK, AllB] at hi he); first | exact hi.elim | exact he.elim | omega | (rcases hi with hi | hi <;> omega) | (rcases he with he | he <;> omega))
                    replace HS2 := HS2.keep k106 (by intro i _ hi he; (try dsimp only [NoK, AllB] at hi he); first | exact hi.elim | exact he.elim | omega | (rcases hi with hi | hi <;> omega) | (rcases he with he | he <;> omega))
                    replace HG1 := HG1.keep k106 (by intro i _ hi he; (try dsimp only [NoK, AllB] at hi he); first | exact hi.elim | exact he.elim | omega | (rcases hi with hi | hi <;> omega) | (rcases he with he | he <;> omega))
                    replace EL1 := EL1.step k106 (by intro i hi he; (try dsimp only [NoK] at hi he ⊢); first | exact he.elim | omega | exact he)
                    replace HP1 := HP1.keep k106 (by intro h; (try dsimp only at h); (try simp only [add_block] at h); first | omega)
                    replace HG2 := HG2.keep k106 (by intro i _ hi he; (try dsimp only [NoK, AllB] at hi he); first | exact hi.elim | exact he.elim | omega | (rcases hi with hi | hi <;> omega) | (rcases he with he | he <;> omega))
                    replace HS9 := HS9.keep k106 (by intro i _ hi he; (try dsimp only [NoK, AllB] at hi he); first | exact hi.elim | exact he.elim | omega | (rcases hi with hi | hi <;> omega) | (rcases he with he | he <;> omega))
                    replace HB10 := HB10.keep k106 (by intro h; (try dsimp only at h); first | omega)
                    replace HG10 := HG10.keep k106 (by intro i _ hi he; (try dsimp only [NoK, AllB] at hi he); first | exact hi.elim | exact he.elim | omega | (rcases hi with hi | hi <;> omega) | (rcases he with he | he <;> omega))
                    replace HB7 := HX106
                    clear HX106
                    try simp only [List.set_cons_zero, List.set_cons_succ, setAt, List.take_zero, List.take_succ_cons, List.drop_zero, List.drop_succ_cons, List.nil_append, List.cons_append, List.append_nil, List.length_cons, List.length_nil, Nat.zero_add, Nat.reduceAdd, List.drop_nil] at HB7
                    refine l_nil ?_
                    refine n_then ?_
                    refine c_seq ?_
                    refine wp_reg (by decide +kernel) ?_
                    refine l_v (v_loadA (by kernel_rfl) rfl (by first | exact HB10.pv | exact HP1 | exact HB7.pv | assumption) rfl) ?_
                    refine l_to (to_f1 (by kernel_rfl) (show _ = (Value.agg _) from rfl) (CallsR.mono (May_c HG10) ?_))
                    rintro _ w21 ⟨rfl, e21⟩
                    have zs_e21 := e21.size
                    replace E := E.trans (Ext.keep e21)
                    replace HS1 := HS1.ext e21
                    replace HS2 := HS2.ext e21
                    replace HB7 := HB7.ext e21
                    replace HG1 := HG1.ext e21
                    replace EL1 := EL1.trans (Ext.keep e21)
                    replace HP1 := HP1.ext e21
                    replace HG2 := HG2.ext e21
                    replace HS9 := HS9.ext e21
                    replace HB10 := HB10.ext e21
                    replace HG10 := HG10.ext e21
                    refine l_v (v_not rfl) ?_
                    refine l_v (v_move (t := .bool _) rfl) ?_
                    refine l_g1 rfl rfl (fun hG => v_loadA (by kernel_rfl) rfl (by first | exact HB10.pv | exact HP1 | exact HB7.pv | assumption) rfl) ?_
                    refine l_g1 rfl rfl (fun hG => v_move (t := .slice _ _ _) rfl) ?_
                    refine l_g1f rfl rfl (fun hG => to_f2 (by kernel_rfl) (gd hG rfl) (gd hG rfl) (single_c HG10 HS2 hmo.1)) ?_
                    rintro w22 e22
                    have zs_e22 := e22.size
                    replace E := E.trans (Ext.keep e22)
                    replace HS1 := HS1.ext e22
                    replace HS2 := HS2.ext e22
                    replace HB7 := HB7.ext e22
                    replace HG1 := HG1.ext e22
                    replace EL1 := EL1.trans (Ext.keep e22)
                    replace HP1 := HP1.ext e22
                    replace HG2 := HG2.ext e22
                    replace HS9 := HS9.ext e22
                    replace HB10 := HB10.ext e22
                    replace HG10 := HG10.ext e22
                    refine l_g1 rfl rfl (fun hG => v_not (gd hG rfl)) ?_
                    refine l_v (v_or rfl rfl) ?_
                    refine l_nil ?_
                    refine n_then ?_
                    refine c_cond rfl rfl (fun hy => ?_) (fun hy => ?_)
                    · skip
                      rw [hmo.1] at hy; cases hy
                    · skip
                      refine c_skip ?_
                      refine n_blk ?_
                      refine n_then ?_
                      refine wp_reg (by decide +kernel) ?_
                      refine l_v (v_move (t := .int _ _) rfl) ?_
                      refine l_v (v_add rfl rfl (by first | exact wr_i64 (by omega) (by omega) | rfl)) ?_
                      refine l_v (v_assign (t := .int _ _) rfl) ?_
                      refine l_nil ?_
                      refine n_then ?_
                      refine ⟨(i + 1, o, [.int .i64 o.1, .slice a10 o.2.length c10]), _, rfl, by (repeat (first | exact Off.of_over _ _ _ | refine Off.upd ?_ (by decide) _)), ⟨by first | rfl | exact congrArg (Value.int _) (by omega) | (simp; done), trivial⟩, ⟨E, EL1, ?_⟩, ?_⟩
                      · skip
                        exact ⟨by omega, by omega, HB7, HG10.mono fun b hb h => by omega, hmo.1, by have := hmo.2; simp only at this; omega⟩
                      · (dsimp only; omega)
                  · skip
                    exact absurd hf (dfalse hz)
              · skip
                refine c_seq ?_
                refine c_seq ?_
                refine wp_regd (NoK) (by kernel_rfl) (by decide +kernel) (by decide +kernel) ?_
                refine rt_v (fun vals w hR hd => v_move (t := .int _ _) rfl) ?_
                refine rt_vf (fun vals w hR hd => to_f1 (by kernel_rfl) (hd 0 rfl) (num_c)) ?_
                refine rt_v (fun vals w hR hd => OpVat.as (b := true) (v_eql (hd 1 rfl) rfl) (decide_eq_true hf)) ?_
                refine rt_v (fun vals w hR hd => v_move (t := .bool _) (hd 2 rfl)) ?_
                refine rt_hv rfl (fun vals w hd => hd 3 rfl) (fun vals w hR hd => v_fieldAddr (off := 0) (ft := 2) (by kernel_rfl) rfl) ?_
                refine rt_hv rfl (fun vals w hd => hd 3 rfl) (fun vals w hR hd => v_load (by kernel_rfl) (hd 4 rfl) (by first | exact (HB10.ext hR).pv 0 _ rfl | exact (HP1.ext hR) 0 _ rfl | exact (HB7.ext hR).pv 0 _ rfl | assumption)) ?_
                refine rt_hv rfl (fun vals w hd => hd 3 rfl) (fun vals w hR hd => v_fieldAddr (off := 0) (ft := 2) (by kernel_rfl) rfl) ?_
                refine rt_hv rfl (fun vals w hd => hd 3 rfl) (fun vals w hR hd => v_load (by kernel_rfl) (hd 6 rfl) (by first | exact (HB10.ext hR).pv 0 _ rfl | exact (HP1.ext hR) 0 _ rfl | exact (HB7.ext hR).pv 0 _ rfl | assumption)) ?_
                refine rt_hv rfl (fun vals w hd => hd 3 rfl) (fun vals w hR hd => v_add (hd 7 rfl) rfl (by first | exact wr_i64 (by omega) (by omega) | rfl)) ?_
                refine rt_hv rfl (fun vals w hd => hd 3 rfl) (fun vals w hR hd => OpVat.as (b := false) (v_neq (hd 5 rfl) (hd 8 rfl)) (by have h9 := (step_may hm (hf ▸ hof)).2; simp only at h9; simp [h9])) ?_
                refine rt_hv rfl (fun vals w hd => hd 3 rfl) (fun vals w hR hd => v_move (t := .bool _) (hd 9 rfl)) ?_
                refine rt_hv rfl (fun vals w hd => hd 10 rfl) (fun vals w hR hd => v_move (t := .slice _ _ _) rfl) ?_
                refine rt_hv rfl (fun vals w hd => hd 10 rfl) (fun vals w hR hd => v_move (t := .int _ _) rfl) ?_
                refine rt_hv rfl (fun vals w hd => hd 10 rfl) (fun vals w hR hd => v_indexAddr (et := 59) (sz := 3) (k := i) (by kernel_rfl) (by kernel_rfl) (hd 11 rfl) (hd 12 rfl) (by first | rfl | omega) (by omega)) ?_
                refine rt_hv rfl (fun vals w hd => hd 10 rfl) (fun vals w hR hd => v_fieldAddr (off := 0) (ft := 3) (by kernel_rfl) (hd 13 rfl)) ?_
                refine rt_hv rfl (fun vals w hd => hd 10 rfl) (fun vals w hR hd => v_load (by kernel_rfl) (hd 14 rfl) (by first | exact (HB10.ext hR).pv 0 _ rfl | exact (HP1.ext hR) 0 _ rfl | exact (HB7.ext hR).pv 0 _ rfl | assumption)) ?_
                refine rt_hv rfl (fun vals w hd => hd 10 rfl) (fun vals w hR hd => OpVat.as (b := false) (v_eql (hd 15 rfl) rfl) (decide_eq_false hx1)) ?_
                refine rt_hv rfl (fun vals w hd => hd 10 rfl) (fun vals w hR hd => v_move (t := .bool _) (hd 16 rfl)) ?_
                refine rt_skip (u := .bool false) rfl (fun vals w hd => hd 17 rfl) rfl ?_
                refine rt_skip (u := .bool false) rfl (fun vals w hd => hd 17 rfl) rfl ?_
                refine rt_skip (u := .bool false) rfl (fun vals w hd => hd 17 rfl) rfl ?_
                refine rt_skip (u := .bool false) rfl (fun vals w hd => hd 17 rfl) rfl ?_
                refine rt_skip (u := .bool false) rfl (fun vals w hd => hd 17 rfl) rfl ?_
                refine rt_skip (u := .bool false) rfl (fun vals w hd => hd 17 rfl) rfl ?_
                refine rt_skip (u := .bool false) rfl (fun vals w hd => hd 17 rfl) rfl ?_
                refine rt_skip (u := .bool false) rfl (fun vals w hd => hd 17 rfl) rfl ?_
                refine rt_skip (u := .bool false) rfl (fun vals w hd => hd 17 rfl) rfl ?_
                refine rt_hv rfl (fun vals w hd => hd 10 rfl) (fun vals w hR hd => v_andC (hd 17 rfl)) ?_
                refine rt_hv rfl (fun vals w hd => hd 3 rfl) (fun vals w hR hd => v_orT (hd 10 rfl) (hd 27 rfl)) ?_
                refine rt_v (fun vals w hR hd => v_andT (hd 3 rfl) (hd 28 rfl)) ?_
                refine rt_nil (fun w107 e107 => ?_)
                rintro _ rfl _ rfl _ rfl _ rfl _ rfl _ rfl _ rfl _ rfl _ rfl _ rfl _ rfl _ rfl _ rfl _ rfl _ rfl _ rfl _ rfl _ rfl _ rfl _ rfl _ rfl _ rfl _ rfl _ rfl _ rfl _ rfl _ rfl _ rfl _ rfl _ rfl
                have zs_e107 := e107.size
                replace E := E.trans (Ext.keep e107)
                replace HS1 := HS1.ext e107
                replace HS2 := HS2.ext e107
                replace HB7 := HB7.ext e107
                replace HG1 := HG1.ext e107
                replace EL1 := EL1.trans (Ext.keep e107)
                replace HP1 := HP1.ext e107
                replace HG2 := HG2.ext e107
                replace HS9 := HS9.ext e107
                replace HB10 := HB10.ext e107
                replace HG10 := HG10.ext e107
                refine fin_nil ?_
                refine n_then ?_
                refine c_cond rfl rfl (fun hb => ?_) (fun hb => ?_)
                · skip
                  cases hb
                · skip
                  refine c_skip ?_
                  refine n_then ?_
                  refine c_seq ?_
                  refine c_seq ?_
                  refine wp_reg (by decide +kernel) ?_
                  refine l_v (v_move (t := .int _ _) rfl) ?_
                  refine l_to (to_f1 (by kernel_rfl) (show _ = (Value.int _ _) from rfl) (CallsR.mono (num_c) ?_))
                  rintro _ w20 ⟨rfl, e20⟩
                  have zs_e20 := e20.size
                  replace E := E.trans (Ext.keep e20)
                  replace HS1 := HS1.ext e20
                  replace HS2 := HS2.ext e20
                  replace HB7 := HB7.ext e20
                  replace HG1 := HG1.ext e20
                  replace EL1 := EL1.trans (Ext.keep e20)
                  replace HP1 := HP1.ext e20
                  replace HG2 := HG2.ext e20
                  replace HS9 := HS9.ext e20
                  replace HB10 := HB10.ext e20
                  replace HG10 := HG10.ext e20
                  refine l_v (v_eql rfl rfl) ?_
                  refine l_nil ?_
                  refine n_then ?_
                  refine c_cond rfl rfl (fun hz => ?_) (fun hz => ?_)
                  · skip
                    have hmo := step_may hm (hf ▸ hof)
                    refine wp_reg (by decide +kernel) ?_
                    refine l_v (v_loadA (by kernel_rfl) rfl (by first | exact HB10.pv | exact HP1 | exact HB7.pv | assumption) rfl) ?_
                    refine l_to (to_storeA (n := 2) rfl rfl (show _ = (Value.agg _) from rfl) (by kernel_rfl) rfl (by first | (simp [slice_one]; done) | (simp only [List.forall_mem_cons, List.cons_append, List.nil_append]; repeat' (first | exact rfl | apply And.intro | (intro u hu; cases hu; done)))) HB7 (by first | exact of_decide_eq_true rfl | (simp; done) | decide) ?_)
                    rintro w108 HX108 k108 z108
                    have zs_k108 := k108.size
                    replace E := E.step k108 (by intro i hi he; (try dsimp only [NoK] at hi he ⊢); first | exact he.elim | omega | exact he)
                    replace HS1 := HS1.keep k108 (by intro i _ hi he; (try dsimp only [NoK, AllB] at hi he); first | exact hi.elim | exact he.elim | omega | (rcases hi with hi | hi <;> omega) | (rcases he with he | he <;> omega))
                    replace HS2 := HS2.keep k108 (by intro i _ hi he; (try dsimp only [NoK, AllB] at hi he); first | exact hi.elim | exact he.elim | omega | (rcases hi with hi | hi <;> omega) | (rcases he with he | he <;> omega))
                    replace HG1 := HG1.keep k108 (by intro i _ hi he; (try dsimp only [NoK, AllB] at hi he); first | exact hi.elim | exact he.elim | omega | (rcases hi with hi | hi <;> omega) | (rcases he with he | he <;> omega))
                    replace EL1 := EL1.step k108 (by intro i hi he; (try dsimp only [NoK] at hi he ⊢); first | exact he.elim | omega | exact he)
                    replace HP1 := HP1.keep k108 (by intro h; (try dsimp only at h); (try simp only [add_block] at h); first | omega)
                    replace HG2 := HG2.keep k108 (by intro i _ hi he; (try dsimp only [NoK, AllB] at hi he); first | exact hi.elim | exact he.elim | omega | (rcases hi with hi | hi <;> omega) | (rcases he with he | he <;> omega))
                    replace HS9 := HS9.keep k108 (by intro i _ hi he; (try dsimp only [NoK, AllB] at hi he); first | exact hi.elim | exact he.elim | omega | (rcases hi with hi | hi <;> omega) | (rcases he with he | he <;> omega))
                    replace HB10 := HB10.keep k108 (by intro h; (try dsimp only at h); first | omega)
                    replace HG10 := HG10.keep k108 (by intro i _ hi he; (try dsimp only [NoK, AllB] at hi he); first | exact hi.elim | exact he.elim | omega | (rcases hi with hi | hi <;> omega) | (rcases he with he | he <;> omega))
                    replace HB7 := HX108
                    clear HX108
                    try simp only [List.set_cons_zero, List.set_cons_succ, setAt, List.take_zero, List.take_succ_cons, List.drop_zero, List.drop_succ_cons, List.nil_append, List.cons_append, List.append_nil, List.length_cons, List.length_nil, Nat.zero_add, Nat.reduceAdd, List.drop_nil] at HB7
                    refine l_nil ?_
                    refine n_then ?_
                    refine c_seq ?_
                    refine wp_reg (by decide +kernel) ?_
                    refine l_v (v_loadA (by kernel_rfl) rfl (by first | exact HB10.pv | exact HP1 | exact HB7.pv | assumption) rfl) ?_
                    refine l_to (to_f1 (by kernel_rfl) (show _ = (Value.agg _) from rfl) (CallsR.mono (May_c HG10) ?_))
                    rintro _ w21 ⟨rfl, e21⟩
                    have zs_e21 := e21.size
                    replace E := E.trans (Ext.keep e21)
                    replace HS1 := HS1.ext e21
                    replace HS2 := HS2.ext e21
                    replace HB7 := HB7.ext e21
                    replace HG1 := HG1.ext e21
                    replace EL1 := EL1.trans (Ext.keep e21)
                    replace HP1 := HP1.ext e21
                    replace HG2 := HG2.ext e21
                    replace HS9 := HS9.ext e21
                    replace HB10 := HB10.ext e21
                    replace HG10 := HG10.ext e21
                    refine l_v (v_not rfl) ?_
                    refine l_v (v_move (t := .bool _) rfl) ?_
                    refine l_g1 rfl rfl (fun hG => v_loadA (by kernel_rfl) rfl (by first | exact HB10.pv | exact HP1 | exact HB7.pv | assumption) rfl) ?_
                    refine l_g1 rfl rfl (fun hG => v_move (t := .slice _ _ _) rfl) ?_
                    refine l_g1f rfl rfl (fun hG => to_f2 (by kernel_rfl) (gd hG rfl) (gd hG rfl) (single_c HG10 HS2 hmo.1)) ?_
                    rintro w22 e22
                    have zs_e22 := e22.size
                    replace E := E.trans (Ext.keep e22)
                    replace HS1 := HS1.ext e22
                    replace HS2 := HS2.ext e22
                    replace HB7 := HB7.ext e22
                    replace HG1 := HG1.ext e22
                    replace EL1 := EL1.trans (Ext.keep e22)
                    replace HP1 := HP1.ext e22
                    replace HG2 := HG2.ext e22
                    replace HS9 := HS9.ext e22
                    replace HB10 := HB10.ext e22
                    replace HG10 := HG10.ext e22
                    refine l_g1 rfl rfl (fun hG => v_not (gd hG rfl)) ?_
                    refine l_v (v_or rfl rfl) ?_
                    refine l_nil ?_
                    refine n_then ?_
                    refine c_cond rfl rfl (fun hy => ?_) (fun hy => ?_)
                    · skip
                      rw [hmo.1] at hy; cases hy
                    · skip
                      refine c_skip ?_
                      refine n_blk ?_
                      refine n_then ?_
                      refine wp_reg (by decide +kernel) ?_
                      refine l_v (v_move (t := .int _ _) rfl) ?_
                      refine l_v (v_add rfl rfl (by first | exact wr_i64 (by omega) (by omega) | rfl)) ?_
                      refine l_v (v_assign (t := .int _ _) rfl) ?_
                      refine l_nil ?_
                      refine n_then ?_
                      refine ⟨(i + 1, o, [.int .i64 o.1, .slice a10 o.2.length c10]), _, rfl, by (repeat (first | exact Off.of_over _ _ _ | refine Off.upd ?_ (by decide) _)), ⟨by first | rfl | exact congrArg (Value.int _) (by omega) | (simp; done), trivial⟩, ⟨E, EL1, ?_⟩, ?_⟩
                      · skip
                        exact ⟨by omega, by omega, HB7, HG10.mono fun b hb h => by omega, hmo.1, by have := hmo.2; simp only at this; omega⟩
                      · (dsimp only; omega)
                  · skip
                    exact absurd hf (dfalse hz)
            · skip
              refine c_seq ?_
              refine c_seq ?_
              refine wp_regd (NoK) (by kernel_rfl) (by decide +kernel) (by decide +kernel) ?_
              refine rt_v (fun vals w hR hd => v_move (t := .int _ _) rfl) ?_
              refine rt_vf (fun vals w hR hd => to_f1 (by kernel_rfl) (hd 0 rfl) (num_c)) ?_
              refine rt_v (fun vals w hR hd => OpVat.as (b := false) (v_eql (hd 1 rfl) rfl) (decide_eq_false hf)) ?_
              refine rt_v (fun vals w hR hd => v_move (t := .bool _) (hd 2 rfl)) ?_
              refine rt_skip (u := .bool false) rfl (fun vals w hd => hd 3 rfl) rfl ?_
              refine rt_skip (u := .bool false) rfl (fun vals w hd => hd 3 rfl) rfl ?_
              refine rt_skip (u := .bool false) rfl (fun vals w hd => hd 3 rfl) rfl ?_
              refine rt_skip (u := .bool false) rfl (fun vals w hd => hd 3 rfl) rfl ?_
              refine rt_skip (u := .bool false) rfl (fun vals w hd => hd 3 rfl) rfl ?_
              refine rt_skip (u := .bool false) rfl (fun vals w hd => hd 3 rfl) rfl ?_
              refine rt_skip (u := .bool false) rfl (fun vals w hd => hd 3 rfl) rfl ?_
              refine rt_skip (u := undef) rfl (fun vals w hd => hd 10 rfl) rfl ?_
              refine rt_skip (u := undef) rfl (fun vals w hd => hd 10 rfl) rfl ?_
              refine rt_skip (u := undef) rfl (fun vals w hd => hd 10 rfl) rfl ?_
              refine rt_skip (u := undef) rfl (fun vals w hd => hd 10 rfl) rfl ?_
              refine rt_skip (u := undef) rfl (fun vals w hd => hd 10 rfl) rfl ?_
              refine rt_skip (u := undef) rfl (fun vals w hd => hd 10 rfl) rfl ?_
              refine rt_skip (u := undef) rfl (fun vals w hd => hd 10 rfl) rfl ?_
              refine rt_skip (u := undef) rfl (fun vals w hd => hd 17 rfl) rfl ?_
              refine rt_skip (u := undef) rfl (fun vals w hd => hd 17 rfl) rfl ?_
              refine rt_skip (u := undef) rfl (fun vals w hd => hd 17 rfl) rfl ?_
              refine rt_skip (u := undef) rfl (fun vals w hd => hd 17 rfl) rfl ?_
              refine rt_skip (u := undef) rfl (fun vals w hd => hd 17 rfl) rfl ?_
              refine rt_skip (u := undef) rfl (fun vals w hd => hd 17 rfl) rfl ?_
              refine rt_skip (u := undef) rfl (fun vals w hd => hd 17 rfl) rfl ?_
              refine rt_skip (u := undef) rfl (fun vals w hd => hd 17 rfl) rfl ?_
              refine rt_skip (u := undef) rfl (fun vals w hd => hd 17 rfl) rfl ?_
              refine rt_skip (u := undef) rfl (fun vals w hd => hd 10 rfl) rfl ?_
              refine rt_skip (u := .bool false) rfl (fun vals w hd => hd 3 rfl) rfl ?_
              refine rt_v (fun vals w hR hd => v_andC (hd 3 rfl)) ?_
              refine rt_nil (fun w109 e109 => ?_)
              rintro _ rfl _ rfl _ rfl _ rfl _ rfl _ rfl _ rfl _ rfl _ rfl _ rfl _ rfl _ rfl _ rfl _ rfl _ rfl _ rfl _ rfl _ rfl _ rfl _ rfl _ rfl _ rfl _ rfl _ rfl _ rfl _ rfl _ rfl _ rfl _ rfl _ rfl
              have zs_e109 := e109.size
              replace E := E.trans (Ext.keep e109)
              replace HS1 := HS1.ext e109
              replace HS2 := HS2.ext e109
              replace HB7 := HB7.ext e109
              replace HG1 := HG1.ext e109
              replace EL1 := EL1.trans (Ext.keep e109)
              replace HP1 := HP1.ext e109
              replace HG2 := HG2.ext e109
              replace HS9 := HS9.ext e109
              replace HB10 := HB10.ext e109
              replace HG10 := HG10.ext e109
              refine fin_nil ?_
              refine n_then ?_
              refine c_cond rfl rfl (fun hb => ?_) (fun hb => ?_)
              · skip
                cases hb
              · skip
                refine c_skip ?_
                refine n_then ?_
                refine c_seq ?_
                refine c_seq ?_
                refine wp_reg (by decide +kernel) ?_
                refine l_v (v_move (t := .int _ _) rfl) ?_
                refine l_to (to_f1 (by kernel_rfl) (show _ = (Value.int _ _) from rfl) (CallsR.mono (num_c) ?_))
                rintro _ w20 ⟨rfl, e20⟩
                have zs_e20 := e20.size
                replace E := E.trans (Ext.keep e20)
                replace HS1 := HS1.ext e20
                replace HS2 := HS2.ext e20
                replace HB7 := HB7.ext e20
                replace HG1 := HG1.ext e20
                replace EL1 := EL1.trans (Ext.keep e20)
                replace HP1 := HP1.ext e20
                replace HG2 := HG2.ext e20
                replace HS9 := HS9.ext e20
                replace HB10 := HB10.ext e20
                replace HG10 := HG10.ext e20
                refine l_v (v_eql rfl rfl) ?_
                refine l_nil ?_
                refine n_then ?_
                refine c_cond rfl rfl (fun hz => ?_) (fun hz => ?_)
                · skip
                  exact absurd (dtrue hz) hf
                · skip
                  refine c_skip ?_
                  refine n_then ?_
                  refine c_seq ?_
                  refine wp_reg (by decide +kernel) ?_
                  refine l_v (v_loadA (by kernel_rfl) rfl (by first | exact HB10.pv | exact HP1 | exact HB7.pv | assumption) rfl) ?_
                  refine l_to (to_f1 (by kernel_rfl) (show _ = (Value.agg _) from rfl) (CallsR.mono (May_c HG1) ?_))
                  rintro _ w21 ⟨rfl, e21⟩
                  have zs_e21 := e21.size
                  replace E := E.trans (Ext.keep e21)
                  replace HS1 := HS1.ext e21
                  replace HS2 := HS2.ext e21
                  replace HB7 := HB7.ext e21
                  replace HG1 := HG1.ext e21
                  replace EL1 := EL1.trans (Ext.keep e21)
                  replace HP1 := HP1.ext e21
                  replace HG2 := HG2.ext e21
                  replace HS9 := HS9.ext e21
                  replace HB10 := HB10.ext e21
                  replace HG10 := HG10.ext e21
                  refine l_v (v_not rfl) ?_
                  refine l_v (v_move (t := .bool _) rfl) ?_
                  refine l_g1 rfl rfl (fun hG => v_loadA (by kernel_rfl) rfl (by first | exact HB10.pv | exact HP1 | exact HB7.pv | assumption) rfl) ?_
                  refine l_g1 rfl rfl (fun hG => v_move (t := .slice _ _ _) rfl) ?_
                  refine l_g1f rfl rfl (fun hG => to_f2 (by kernel_rfl) (gd hG rfl) (gd hG rfl) (single_c HG1 HS2 hm)) ?_
                  rintro w22 e22
                  have zs_e22 := e22.size
                  replace E := E.trans (Ext.keep e22)
                  replace HS1 := HS1.ext e22
                  replace HS2 := HS2.ext e22
                  replace HB7 := HB7.ext e22
                  replace HG1 := HG1.ext e22
                  replace EL1 := EL1.trans (Ext.keep e22)
                  replace HP1 := HP1.ext e22
                  replace HG2 := HG2.ext e22
                  replace HS9 := HS9.ext e22
                  replace HB10 := HB10.ext e22
                  replace HG10 := HG10.ext e22
                  refine l_g1 rfl rfl (fun hG => v_not (gd hG rfl)) ?_
                  refine l_v (v_or rfl rfl) ?_
                  refine l_nil ?_
                  refine n_then ?_
                  refine c_cond rfl rfl (fun hy => ?_) (fun hy => ?_)
                  · skip
                    rw [hm] at hy; cases hy
                  · skip
                    refine c_skip ?_
                    refine n_blk ?_
                    refine n_then ?_
                    refine wp_reg (by decide +kernel) ?_
                    refine l_v (v_move (t := .int _ _) rfl) ?_
                    refine l_v (v_add rfl rfl (by first | exact wr_i64 (by omega) (by omega) | rfl)) ?_
                    refine l_v (v_assign (t := .int _ _) rfl) ?_
                    refine l_nil ?_
                    refine n_then ?_
                    refine ⟨(i + 1, (e, rs), [.int .i64 e, .slice a5 rs.length c5]), _, rfl, by (repeat (first | exact Off.of_over _ _ _ | refine Off.upd ?_ (by decide) _)), ⟨by first | rfl | exact congrArg (Value.int _) (by omega) | (simp; done), trivial⟩, ⟨E, EL1, ?_⟩, ?_⟩
                    · skip
                      exact ⟨by omega, by omega, HB7, HG1.mono fun b hb h => by omega, hm, by simp only; omega⟩
                    · (dsimp only; omega)
        · skip
          refine c_exit ?_
          refine x_then ?_
          refine x_then ?_
          refine x_hit ?_
          refine n_then ?_
          refine c_seq ?_
          refine wp_reg (by decide +kernel) ?_
          refine l_v (v_loadA (by kernel_rfl) rfl (by first | exact HB7.pv | assumption) rfl) ?_
          refine l_to (to_f1 (by kernel_rfl) (show _ = (Value.agg _) from rfl) (CallsR.mono (rBytes_c HG1) ?_))
          rintro _ w30 ⟨⟨x30, rfl, HS30⟩, e30⟩
          have zs_e30 := e30.size
          rw [if_pos hm] at HS30 ⊢
          obtain ⟨a30, c30, rfl⟩ := HS30.shape
          replace E := E.trans (Ext.keep e30)
          replace HS1 := HS1.ext e30
          replace HS2 := HS2.ext e30
          replace HB7 := HB7.ext e30
          replace HG1 := HG1.ext e30
          refine l_v (v_move (t := .tuple _) rfl) ?_
          refine l_v (v_extract (t := .slice _ _ _) rfl rfl) ?_
          refine l_v (v_extract (t := .int _ _) rfl rfl) ?_
          refine l_v (v_assign (t := .slice _ _ _) rfl) ?_
          refine l_v (v_assign (t := .int _ _) rfl) ?_
          refine l_nil ?_
          refine n_then ?_
          refine c_seq ?_
          refine wp_reg (by decide +kernel) ?_
          refine l_v (v_move (t := .slice _ _ _) rfl) ?_
          refine l_to (to_f1 (by kernel_rfl) (show _ = (Value.slice _ _ _) from rfl) (CallsR.mono (rRead_c HS30 (by have := (mapW_le hm).2; omega)) ?_))
          rintro _ w31 ⟨⟨x31, rfl, HG31⟩, e31⟩
          have zs_e31 := e31.size
          rw [readM_back hm] at HG31 ⊢
          replace HG31 := HG31.all
          obtain ⟨a31, c31, rfl, HS31, he31⟩ := HG31.mp
          replace E := E.trans (Ext.keep e31)
          replace HS1 := HS1.ext e31
          replace HS2 := HS2.ext e31
          replace HB7 := HB7.ext e31
          replace HG1 := HG1.ext e31
          replace HS30 := HS30.ext e31
          refine l_v (v_move (t := .tuple _) rfl) ?_
          refine l_v (v_extract (t := .agg _) rfl rfl) ?_
          refine l_v (v_extract (t := .int _ _) rfl rfl) ?_
          refine l_to (to_alloc (z := (.agg #[.int .i64 0, .slice none 0 0])) (by unfold kZero; kernel_rfl) ?_)
          rintro b14 w32 zb14 HB14 e32 z14
          have zs_e32 := e32.size
          replace E := E.trans (Ext.keep e32)
          replace HS1 := HS1.ext e32
          replace HS2 := HS2.ext e32
          replace HB7 := HB7.ext e32
          replace HG1 := HG1.ext e32
          replace HG31 := HG31.ext e32
          try simp only [Value.cells] at HB14
          refine l_to (to_storeA (n := 2) rfl rfl (show _ = (Value.agg _) from rfl) (by kernel_rfl) rfl (by first | (simp [slice_one]; done) | (simp only [List.forall_mem_cons, List.cons_append, List.nil_append]; repeat' (first | exact rfl | apply And.intro | (intro u hu; cases hu; done)))) HB14 (by first | exact of_decide_eq_true rfl | (simp; done) | decide) ?_)
          rintro w110 HX110 k110 z110
          have zs_k110 := k110.size
          replace E := E.step k110 (by intro i hi he; (try dsimp only [NoK] at hi he ⊢); first | exact he.elim | omega | exact he)
          replace HS1 := HS1.keep k110 (by intro i _ hi he; (try dsimp only [NoK, AllB] at hi he); first | exact hi.elim | exact he.elim | omega | (rcases hi with hi | hi <;> omega) | (rcases he with he | he <;> omega))
          replace HS2 := HS2.keep k110 (by intro i _ hi he; (try dsimp only [NoK, AllB] at hi he); first | exact hi.elim | exact he.elim | omega | (rcases hi with hi | hi <;> omega) | (rcases he with he | he <;> omega))
          replace HB7 := HB7.keep k110 (by intro h; (try dsimp only at h); first | omega)
          replace HG1 := HG1.keep k110 (by intro i _ hi he; (try dsimp only [NoK, AllB] at hi he); first | exact hi.elim | exact he.elim | omega | (rcases hi with hi | hi <;> omega) | (rcases he with he | he <;> omega))
          replace HG31 := HG31.keep k110 (by intro i _ hi he; (try dsimp only [NoK, AllB] at hi he); first | exact hi.elim | exact he.elim | omega | (rcases hi with hi | hi <;> omega) | (rcases he with he | he <;> omega))
          replace HB14 := HX110
          clear HX110
          try simp only [List.set_cons_zero, List.set_cons_succ, setAt, List.take_zero, List.take_succ_cons, List.drop_zero, List.drop_succ_cons, List.nil_append, List.cons_append, List.append_nil, List.length_cons, List.length_nil, Nat.zero_add, Nat.reduceAdd, List.drop_nil] at HB14
          refine l_v (v_assign (t := .int _ _) rfl) ?_
          refine l_nil ?_
          refine n_then ?_
          refine c_seq ?_
          refine wp_reg (by decide +kernel) ?_
          refine l_v (v_move (t := .int _ _) rfl) ?_
          refine l_to (to_f1 (by kernel_rfl) (show _ = (Value.int _ _) from rfl) (CallsR.mono (num_c) ?_))
          rintro _ w111 ⟨rfl, e111⟩
          have zs_e111 := e111.size
          replace E := E.trans (Ext.keep e111)
          replace HS1 := HS1.ext e111
          replace HS2 := HS2.ext e111
          replace HB7 := HB7.ext e111
          replace HG1 := HG1.ext e111
          replace HG31 := HG31.ext e111
          replace HB14 := HB14.ext e111
          refine l_v (v_move (t := .int _ _) rfl) ?_
          refine l_to (to_f1 (by kernel_rfl) (show _ = (Value.int _ _) from rfl) (CallsR.mono (num_c) ?_))
          rintro _ w112 ⟨rfl, e112⟩
          have zs_e112 := e112.size
          replace E := E.trans (Ext.keep e112)
          replace HS1 := HS1.ext e112
          replace HS2 := HS2.ext e112
          replace HB7 := HB7.ext e112
          replace HG1 := HG1.ext e112
          replace HG31 := HG31.ext e112
          replace HB14 := HB14.ext e112
          refine l_v (v_add rfl rfl (by first | exact wr_i64 (by omega) (by omega) | rfl)) ?_
          refine l_v (v_eql rfl rfl) ?_
          refine l_v (v_move (t := .bool _) rfl) ?_
          refine l_g1 rfl rfl (fun hG => v_loadA (by kernel_rfl) rfl (by first | exact HB14.pv | exact HB7.pv | assumption) rfl) ?_
          refine l_g1 rfl rfl (fun hG => v_loadA (by kernel_rfl) rfl (by first | exact HB14.pv | exact HB7.pv | assumption) rfl) ?_
          refine l_g1f rfl rfl (fun hG => to_f2 (by kernel_rfl) (gd hG rfl) (gd hG rfl) (Same_c HG1 HG31)) ?_
          rintro w33 e33
          have zs_e33 := e33.size
          replace E := E.trans (Ext.keep e33)
          replace HS1 := HS1.ext e33
          replace HS2 := HS2.ext e33
          replace HB7 := HB7.ext e33
          replace HG1 := HG1.ext e33
          replace HG31 := HG31.ext e33
          replace HB14 := HB14.ext e33
          refine l_v (v_and rfl rfl) ?_
          refine l_v (v_move (t := .bool _) rfl) ?_
          refine l_g1 rfl rfl (fun hG => v_loadA (by kernel_rfl) rfl (by first | exact HB14.pv | exact HB7.pv | assumption) rfl) ?_
          refine l_g1 rfl rfl (fun hG => v_loadA (by kernel_rfl) rfl (by first | exact HB14.pv | exact HB7.pv | assumption) rfl) ?_
          refine l_g1f rfl rfl (fun hG => to_f2 (by kernel_rfl) (gd hG rfl) (gd hG rfl) (refSame_c HG1 HG31)) ?_
          rintro w34 e34
          have zs_e34 := e34.size
          replace E := E.trans (Ext.keep e34)
          replace HS1 := HS1.ext e34
          replace HS2 := HS2.ext e34
          replace HB7 := HB7.ext e34
          replace HG1 := HG1.ext e34
          replace HG31 := HG31.ext e34
          replace HB14 := HB14.ext e34
          refine l_v (v_and rfl rfl) ?_
          refine l_v (v_assign (t := .bool _) rfl) ?_
          refine l_nil ?_
          refine n_then ?_
          refine c_ret ?_
          refine ret1v rfl (by decide) (show _ = (Value.bool _) from rfl) ?_
          refine ⟨?_, E⟩
          simp [sameM]
    · skip
      refine c_skip ?_
      refine n_then ?_
      refine c_seq ?_
      refine wp_reg (by decide +kernel) ?_
      refine l_v (v_move (t := .int _ _) rfl) ?_
      refine l_to (to_f1 (by kernel_rfl) (show _ = (Value.int _ _) from rfl) (CallsR.mono (New_c hg) ?_))
      rintro _ w4 ⟨⟨x4, rfl, HG4⟩, e4⟩
      have zs_e4 := e4.size
      rw [if_neg hgg] at HG4 ⊢
      replace HG4 := HG4.all
      obtain ⟨a4, c4, rfl, HS4, he4⟩ := HG4.mp
      replace E := E.trans (Ext.keep e4)
      replace HS1 := HS1.ext e4
      replace HS2 := HS2.ext e4
      refine l_v (v_move (t := .tuple _) rfl) ?_
      refine l_v (v_extract (t := .agg _) rfl rfl) ?_
      refine l_v (v_extract (t := .int _ _) rfl rfl) ?_
      refine l_to (to_alloc (z := (.agg #[.int .i64 0, .slice none 0 0])) (by unfold kZero; kernel_rfl) ?_)
      rintro b7 w7 zb7 HB7 e7 z7
      have zs_e7 := e7.size
      replace E := E.trans (Ext.keep e7)
      replace HS1 := HS1.ext e7
      replace HS2 := HS2.ext e7
      replace HG4 := HG4.ext e7
      try simp only [Value.cells] at HB7
      refine l_to (to_storeA (n := 2) rfl rfl (show _ = (Value.agg _) from rfl) (by kernel_rfl) rfl (by first | (simp [slice_one]; done) | (simp only [List.forall_mem_cons, List.cons_append, List.nil_append]; repeat' (first | exact rfl | apply And.intro | (intro u hu; cases hu; done)))) HB7 (by first | exact of_decide_eq_true rfl | (simp; done) | decide) ?_)
      rintro w113 HX113 k113 z113
      have zs_k113 := k113.size
      replace E := E.step k113 (by intro i hi he; (try dsimp only [NoK] at hi he ⊢); first | exact he.elim | omega | exact he)
      replace HS1 := HS1.keep k113 (by intro i _ hi he; (try dsimp only [NoK, AllB] at hi he); first | exact hi.elim | exact he.elim | omega | (rcases hi with hi | hi <;> omega) | (rcases he with he | he <;> omega))
      replace HS2 := HS2.keep k113 (by intro i _ hi he; (try dsimp only [NoK, AllB] at hi he); first | exact hi.elim | exact he.elim | omega | (rcases hi with hi | hi <;> omega) | (rcases he with he | he <;> omega))
      replace HG4 := HG4.keep k113 (by intro i _ hi he; (try dsimp only [NoK, AllB] at hi he); first | exact hi.elim | exact he.elim | omega | (rcases hi with hi | hi <;> omega) | (rcases he with he | he <;> omega))
      replace HB7 := HX113
      clear HX113
      try simp only [List.set_cons_zero, List.set_cons_succ, setAt, List.take_zero, List.take_succ_cons, List.drop_zero, List.drop_succ_cons, List.nil_append, List.cons_append, List.append_nil, List.length_cons, List.length_nil, Nat.zero_add, Nat.reduceAdd, List.drop_nil] at HB7
      refine l_v (v_assign (t := .int _ _) rfl) ?_
      refine l_nil ?_
      refine n_then ?_
      refine c_seq ?_
      refine c_seq ?_
      refine wp_reg (by decide +kernel) ?_
      refine l_v (v_move (t := .int _ _) rfl) ?_
      refine l_to (to_f1 (by kernel_rfl) (show _ = (Value.int _ _) from rfl) (CallsR.mono (num_c) ?_))
      rintro _ w114 ⟨rfl, e114⟩
      have zs_e114 := e114.size
      replace E := E.trans (Ext.keep e114)
      replace HS1 := HS1.ext e114
      replace HS2 := HS2.ext e114
      replace HG4 := HG4.ext e114
      replace HB7 := HB7.ext e114
      refine l_v (OpVat.as (b := true) (v_neq rfl rfl) rfl) ?_
      refine l_v (v_move (t := .bool _) rfl) ?_
      refine l_skip (u := .bool true) rfl rfl rfl ?_
      refine l_skip (u := .bool true) rfl rfl rfl ?_
      refine l_skip (u := .bool true) rfl rfl rfl ?_
      refine l_v (v_orC rfl) ?_
      refine l_nil ?_
      refine n_then ?_
      refine c_cond rfl rfl (fun hc => ?_) (fun hc => ?_)
      · skip
        refine c_seq ?_
        refine wp_reg (by decide +kernel) ?_
        refine l_v (v_move (t := .int _ _) rfl) ?_
        refine l_to (to_f1 (by kernel_rfl) (show _ = (Value.int _ _) from rfl) (CallsR.mono (num_c) ?_))
        rintro _ w115 ⟨rfl, e115⟩
        have zs_e115 := e115.size
        replace E := E.trans (Ext.keep e115)
        replace HS1 := HS1.ext e115
        replace HS2 := HS2.ext e115
        replace HG4 := HG4.ext e115
        replace HB7 := HB7.ext e115
        refine l_v (OpVat.as (b := true) (v_eql rfl rfl) rfl) ?_
        refine l_v (v_move (t := .bool _) rfl) ?_
        refine l_skip (u := .bool true) rfl rfl rfl ?_
        refine l_skip (u := .bool true) rfl rfl rfl ?_
        refine l_skip (u := .bool true) rfl rfl rfl ?_
        refine l_v (v_orC rfl) ?_
        refine l_v (v_assign (t := .bool _) rfl) ?_
        refine l_nil ?_
        refine n_then ?_
        refine c_ret ?_
        refine r_then ?_
        refine ret1v rfl (by decide) (show _ = (Value.bool _) from rfl) ?_
        exact ⟨rfl, E⟩
      · skip
        cases hc
end Go.Proofs.Ytkaangdfpjkjpaa
