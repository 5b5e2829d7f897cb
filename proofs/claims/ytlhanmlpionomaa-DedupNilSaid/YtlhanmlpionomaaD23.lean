/- A part of the proof: steps and lemmas for the walks through the given program. -/
import Derived.Test.YtlhanmlpionomaaD22
namespace Go.Proofs.Ytlhanmlpionomaa
open Go.Vc
set_option linter.unusedVariables false
set_option linter.unusedSimpArgs false
set_option maxRecDepth 100000

theorem numS_out {S : TbS} (hok : TbOk S) {c : Int} (h : ¬ (1 ≤ c ∧ c ≤ 4)) : numS S c = 0 ∧ (S c).isSome = false := by
  cases hS : S c with
  | none => exact ⟨by simp [numS, hS], rfl⟩
  | some x => exact absurd (hok c x hS).1 h
set_option maxHeartbeats 8000000 in
theorem DedupTells_c {w : World} {F : Nat → Prop} {v : Value} {l : List DsV} {c m : Int} (HS1 : SlV tDs w F v l) : CallsR Try.prog 4 #[v, .int .i64 c, .int .i64 m] w (fun o w' => o = .bool true ∧ Ext w w') := by
  obtain ⟨a0, c0, rfl⟩ := HS1.shape
  obtain ⟨n0, hn0⟩ : ∃ n, n = w.heap.size := ⟨_, rfl⟩
  refine enter 81 Try.func4 rfl rfl (by simp) ?_
  refine c_seq ?_
  have E := Keep.refl (K := NoK) w
  replace HS1 := HS1.all
  refine wp_reg (by decide +kernel) ?_
  refine l_v (v_assign rfl) ?_
  refine l_nil ?_
  refine n_then ?_
  refine c_seq ?_
  refine c_seq ?_
  refine wp_reg (by decide +kernel) ?_
  refine l_v (v_move (t := .slice _ _ _) rfl) ?_
  refine l_to (to_f1 (by kernel_rfl) (show _ = (Value.slice _ _ _) from rfl) (CallsR.mono (much_c HS1) ?_))
  rintro _ w101 ⟨rfl, e101⟩
  have zs_e101 := e101.size
  replace E := E.trans (Ext.keep e101)
  replace HS1 := HS1.ext e101
  refine l_nil ?_
  refine n_then ?_
  refine c_cond rfl rfl (fun hm => ?_) (fun hm => ?_)
  · skip
    refine c_seq ?_
    refine wp_reg (by decide +kernel) ?_
    refine l_to (to_f0 (by kernel_rfl) (CallsR.mono (known_c) ?_))
    rintro _ w102 ⟨rfl, e102⟩
    have zs_e102 := e102.size
    replace E := E.trans (Ext.keep e102)
    replace HS1 := HS1.ext e102
    refine l_v (v_assign (t := .bool _) rfl) ?_
    refine l_nil ?_
    refine n_then ?_
    refine c_ret ?_
    refine r_then ?_
    refine ret1v rfl (by decide) (show _ = (Value.bool _) from rfl) ?_
    exact ⟨rfl, E⟩
  · skip
    refine c_skip ?_
    refine n_then ?_
    refine c_seq ?_
    refine wp_reg (by decide +kernel) ?_
    refine l_v (v_move (t := .slice _ _ _) rfl) ?_
    refine l_to (to_f1 (by kernel_rfl) (show _ = (Value.slice _ _ _) from rfl) (CallsR.mono (fill_c HS1 hm) ?_))
    rintro _ w24 ⟨⟨b, bm, br, cells, S, rfl, hT⟩, e24⟩
    have zs_e24 := e24.size
    replace E := E.trans (Ext.keep e24)
    replace HS1 := HS1.ext e24
    refine l_v (v_move (t := .tuple _) rfl) ?_
    refine l_v (v_extract (t := .pointer _) rfl rfl) ?_
    refine l_v (v_extract (t := .pointer _) rfl rfl) ?_
    refine l_v (v_extract (t := .bool _) rfl rfl) ?_
    refine l_v (v_assign (t := .pointer _) rfl) ?_
    refine l_v (v_assign (t := .pointer _) rfl) ?_
    refine l_v (v_assign (t := .bool _) rfl) ?_
    refine l_nil ?_
    refine n_then ?_
    refine c_seq ?_
    refine c_seq ?_
    refine wp_reg (by decide +kernel) ?_
    refine l_v (v_move (t := .bool _) rfl) ?_
    refine l_v (v_not rfl) ?_
    refine l_nil ?_
    refine n_then ?_
    refine c_cond rfl rfl (fun hnot => ?_) (fun hnot => ?_)
    · skip
      cases hnot
    · skip
      obtain ⟨hok, d1, d2, d3, d4, d5, d6, HB5, HT5, HB6, HT6⟩ := hT
      replace HT5 := HT5.mono (F' := fun i => i < w24.heap.size) fun i hi h => hi
      replace HT6 := HT6.mono (F' := fun i => i < w24.heap.size) fun i hi h => hi
      have zb5 := HB5.lt
      have zm5 := HT5.lt
      have zb6 := HB6.lt
      refine c_skip ?_
      refine n_then ?_
      refine c_seq ?_
      refine wp_reg (by decide +kernel) ?_
      refine l_v (v_move (t := .pointer _) rfl) ?_
      refine l_v (v_move (t := .int _ _) rfl) ?_
      refine l_to (to_f2 (by kernel_rfl) (show _ = (Value.pointer _) from rfl) (show _ = (Value.int _ _) from rfl) (CallsR.mono (Last_c HB5 HT5 hok) ?_))
      rintro _ w27 ⟨rfl, e27⟩
      have zs_e27 := e27.size
      replace E := E.trans (Ext.keep e27)
      replace HS1 := HS1.ext e27
      replace HB5 := HB5.ext e27
      replace HT5 := HT5.ext e27
      replace HB6 := HB6.ext e27
      replace HT6 := HT6.ext e27
      refine l_v (v_move (t := .tuple _) rfl) ?_
      refine l_v (v_extract (t := .int _ _) rfl rfl) ?_
      refine l_v (v_extract (t := .bool _) rfl rfl) ?_
      refine l_v (v_assign (t := .int _ _) rfl) ?_
      refine l_v (v_assign (t := .bool _) rfl) ?_
      refine l_nil ?_
      refine n_then ?_
      refine c_seq ?_
      refine wp_reg (by decide +kernel) ?_
      refine l_v (v_assign rfl) ?_
      refine l_nil ?_
      refine n_then ?_
      refine c_seq ?_
      refine c_seq ?_
      refine wp_reg (by decide +kernel) ?_
      refine l_v (v_move (t := .int _ _) rfl) ?_
      refine l_v (v_geq rfl rfl) ?_
      refine l_v (v_move (t := .bool _) rfl) ?_
      refine l_g1 rfl rfl (fun hG => v_move (t := .int _ _) rfl) ?_
      refine l_g1 rfl rfl (fun hG => v_leq (gd hG rfl) rfl) ?_
      refine l_v (v_and rfl rfl) ?_
      refine l_nil ?_
      refine n_then ?_
      refine c_cond rfl rfl (fun hr => ?_) (fun hr => ?_)
      · skip
        have hr : 1 ≤ c ∧ c ≤ 4 := by simpa using hr
        obtain ⟨k, rfl⟩ := Int.eq_ofNat_of_zero_le (show 0 ≤ c by omega)
        have HPn := HT6.pn HB6 (c := k) (by omega)
        refine wp_reg (by decide +kernel) ?_
        refine l_v (v_move (t := .pointer _) rfl) ?_
        refine l_v (v_move (t := .int _ _) rfl) ?_
        refine l_v (v_nilCheck rfl) ?_
        refine l_v (v_fieldAddr (off := 0) (ft := 45) (by kernel_rfl) rfl) ?_
        refine l_v (v_arrAddr (et := 2) (n := 5) (sz := 1) (k := k) (by kernel_rfl) rfl rfl rfl (by omega)) ?_
        have hps := numS_some hok k
        refine l_v (v_load (by kernel_rfl) rfl (by first | exact pv_1 HPn | exact HB6.cell rfl | exact HB5.cell rfl | assumption)) ?_
        refine l_v (v_assign (t := .int _ _) rfl) ?_
        refine l_nil ?_
        refine n_then ?_
        by_cases h0 : 0 < numS S k
        · skip
          refine c_seq ?_
          rw [decide_eq_true h0] at hps
          refine wp_regd (NoK) (by kernel_rfl) (by decide +kernel) (by decide +kernel) ?_
          refine rt_v (fun vals w hR hd => v_move (t := .int _ _) rfl) ?_
          refine rt_v (fun vals w hR hd => v_move (t := .int _ _) rfl) ?_
          refine rt_v (fun vals w hR hd => OpVat.as (b := true) (v_eql (hd 0 rfl) (hd 1 rfl)) (decide_eq_true rfl)) ?_
          refine rt_v (fun vals w hR hd => v_move (t := .bool _) (hd 2 rfl)) ?_
          refine rt_hv rfl (fun vals w hd => hd 3 rfl) (fun vals w hR hd => v_move (t := .bool _) rfl) ?_
          refine rt_hv rfl (fun vals w hd => hd 3 rfl) (fun vals w hR hd => v_move (t := .int _ _) rfl) ?_
          refine rt_hv rfl (fun vals w hd => hd 3 rfl) (fun vals w hR hd => OpVat.as (b := true) (v_gtr (hd 5 rfl) rfl) (decide_eq_true h0)) ?_
          refine rt_hv rfl (fun vals w hd => hd 3 rfl) (fun vals w hR hd => OpVat.as (b := true) (v_beql (by kernel_rfl) (hd 4 rfl) (hd 6 rfl)) (by rw [hps]; rfl)) ?_
          refine rt_v (fun vals w hR hd => v_andT (hd 3 rfl) (hd 7 rfl)) ?_
          refine rt_v (fun vals w hR hd => v_move (t := .bool _) (hd 8 rfl)) ?_
          refine rt_hv rfl (fun vals w hd => hd 9 rfl) (fun vals w hR hd => v_move (t := .pointer _) rfl) ?_
          refine rt_hvf rfl (fun vals w hd => hd 9 rfl) (fun vals w hR hd => to_f1 (by kernel_rfl) (hd 10 rfl) (Len_c (HB5.ext hR) (HT5.ext hR) hok)) ?_
          refine rt_hv rfl (fun vals w hd => hd 9 rfl) (fun vals w hR hd => v_move (t := .pointer _) rfl) ?_
          refine rt_hvf rfl (fun vals w hd => hd 9 rfl) (fun vals w hR hd => to_f1 (by kernel_rfl) (hd 12 rfl) (refTLen_c (HB6.ext hR) (HT6.ext hR) hok)) ?_
          refine rt_hv rfl (fun vals w hd => hd 9 rfl) (fun vals w hR hd => OpVat.as (b := true) (v_eql (hd 11 rfl) (hd 13 rfl)) (by simp)) ?_
          refine rt_v (fun vals w hR hd => v_andT (hd 9 rfl) (hd 14 rfl)) ?_
          refine rt_v (fun vals w hR hd => v_move (t := .bool _) (hd 15 rfl)) ?_
          refine rt_hv rfl (fun vals w hd => hd 16 rfl) (fun vals w hR hd => v_move (t := .pointer _) rfl) ?_
          refine rt_hv rfl (fun vals w hd => hd 16 rfl) (fun vals w hR hd => v_move (t := .pointer _) rfl) ?_
          refine rt_hv rfl (fun vals w hd => hd 16 rfl) (fun vals w hR hd => v_move (t := .int _ _) rfl) ?_
          refine rt_hvf rfl (fun vals w hd => hd 16 rfl) (fun vals w hR hd => to_f3 (by kernel_rfl) (hd 17 rfl) (hd 18 rfl) (hd 19 rfl) (once_g (LastOk.made hok (HB5.ext hR) (HT5.ext hR) (by have := hR.size; omega) (by have := hR.size; omega) (fun i _ h h2 => by have := hR.size; omega)) hok (HB6.ext hR) (HT6.ext hR))) ?_
          refine rt_v (fun vals w hR hd => v_andT (hd 16 rfl) (hd 20 rfl)) ?_
          refine rt_v (fun vals w hR hd => v_move (t := .bool _) (hd 21 rfl)) ?_
          refine rt_hv rfl (fun vals w hd => hd 22 rfl) (fun vals w hR hd => v_move (t := .pointer _) rfl) ?_
          refine rt_hv rfl (fun vals w hd => hd 22 rfl) (fun vals w hR hd => v_move (t := .pointer _) rfl) ?_
          refine rt_hvf rfl (fun vals w hd => hd 22 rfl) (fun vals w hR hd => to_f3 (by kernel_rfl) (hd 23 rfl) (hd 24 rfl) (show _ = (Value.int _ _) from rfl) (once_g (LastOk.made hok (HB5.ext hR) (HT5.ext hR) (by have := hR.size; omega) (by have := hR.size; omega) (fun i _ h h2 => by have := hR.size; omega)) hok (HB6.ext hR) (HT6.ext hR))) ?_
          refine rt_v (fun vals w hR hd => v_andT (hd 22 rfl) (hd 25 rfl)) ?_
          refine rt_v (fun vals w hR hd => v_move (t := .bool _) (hd 26 rfl)) ?_
          refine rt_hv rfl (fun vals w hd => hd 27 rfl) (fun vals w hR hd => v_move (t := .pointer _) rfl) ?_
          refine rt_hto (fun v W => Bv W AllB v (tbW S)) (fun v w w' h k => h.ext k) rfl (fun vals w hd => hd 27 rfl) (fun vals w hR hd => to_f1 (by kernel_rfl) (hd 28 rfl) (CallsR.mono (TBytes_c (HB5.ext hR) (HT5.ext hR) hok) fun v w1 ⟨⟨_, _, _, h⟩, e⟩ => ⟨e, h.allB⟩)) ?_
          refine rt_hv rfl (fun vals w hd => hd 27 rfl) (fun vals w hR hd => v_b2s (et := 5) (by kernel_rfl) (by kernel_rfl) (by kernel_rfl) rfl (hd 29 rfl)) ?_
          refine rt_hv rfl (fun vals w hd => hd 27 rfl) (fun vals w hR hd => v_move (t := .pointer _) rfl) ?_
          refine rt_hto (fun v W => Bv W AllB v (tbW S)) (fun v w w' h k => h.ext k) rfl (fun vals w hd => hd 27 rfl) (fun vals w hR hd => to_f1 (by kernel_rfl) (hd 31 rfl) (CallsR.mono (refTBytes_c (HB6.ext hR) (HT6.ext hR) hok) fun v w1 ⟨⟨_, _, _, h⟩, e⟩ => ⟨e, h.allB⟩)) ?_
          refine rt_hv rfl (fun vals w hd => hd 27 rfl) (fun vals w hR hd => v_b2s (et := 5) (by kernel_rfl) (by kernel_rfl) (by kernel_rfl) rfl (hd 32 rfl)) ?_
          refine rt_hv rfl (fun vals w hd => hd 27 rfl) (fun vals w hR hd => OpVat.as (b := true) (v_seq (hd 30 rfl) (hd 33 rfl)) (by simp)) ?_
          refine rt_v (fun vals w hR hd => v_andT (hd 27 rfl) (hd 34 rfl)) ?_
          refine rt_v (fun vals w hR hd => v_move (t := .bool _) (hd 35 rfl)) ?_
          refine rt_hvf rfl (fun vals w hd => hd 36 rfl) (fun vals w hR hd => to_f0 (by kernel_rfl) (known_c)) ?_
          refine rt_v (fun vals w hR hd => v_andT (hd 36 rfl) (hd 37 rfl)) ?_
          refine rt_v (fun vals w hR hd => v_assign (t := .bool _) (hd 38 rfl)) ?_
          refine rt_nil (fun w103 e103 => ?_)
          rintro _ rfl _ rfl _ rfl _ rfl _ rfl _ rfl _ rfl _ rfl _ rfl _ rfl _ rfl _ rfl _ rfl _ rfl _ rfl _ rfl _ rfl _ rfl _ rfl _ rfl _ rfl _ rfl _ rfl _ rfl _ rfl _ rfl _ rfl _ rfl _ rfl v71 HS71 _ rfl _ rfl v74 HS74 _ rfl _ rfl _ rfl _ rfl _ rfl _ rfl _ rfl
          have zs_e103 := e103.size
          replace E := E.trans (Ext.keep e103)
          replace HS1 := HS1.ext e103
          replace HB5 := HB5.ext e103
          replace HT5 := HT5.ext e103
          replace HB6 := HB6.ext e103
          replace HT6 := HT6.ext e103
          replace HPn := HPn.ext e103
          refine fin_nil ?_
          refine n_then ?_
          refine c_ret ?_
          refine ret1v rfl (by decide) (show _ = (Value.bool _) from rfl) ?_
          exact ⟨rfl, E⟩
        · skip
          refine c_seq ?_
          rw [decide_eq_false h0] at hps
          refine wp_regd (NoK) (by kernel_rfl) (by decide +kernel) (by decide +kernel) ?_
          refine rt_v (fun vals w hR hd => v_move (t := .int _ _) rfl) ?_
          refine rt_v (fun vals w hR hd => v_move (t := .int _ _) rfl) ?_
          refine rt_v (fun vals w hR hd => OpVat.as (b := true) (v_eql (hd 0 rfl) (hd 1 rfl)) (decide_eq_true rfl)) ?_
          refine rt_v (fun vals w hR hd => v_move (t := .bool _) (hd 2 rfl)) ?_
          refine rt_hv rfl (fun vals w hd => hd 3 rfl) (fun vals w hR hd => v_move (t := .bool _) rfl) ?_
          refine rt_hv rfl (fun vals w hd => hd 3 rfl) (fun vals w hR hd => v_move (t := .int _ _) rfl) ?_
          refine rt_hv rfl (fun vals w hd => hd 3 rfl) (fun vals w hR hd => OpVat.as (b := false) (v_gtr (hd 5 rfl) rfl) (decide_eq_false h0)) ?_
          refine rt_hv rfl (fun vals w hd => hd 3 rfl) (fun vals w hR hd => OpVat.as (b := true) (v_beql (by kernel_rfl) (hd 4 rfl) (hd 6 rfl)) (by rw [hps]; rfl)) ?_
          refine rt_v (fun vals w hR hd => v_andT (hd 3 rfl) (hd 7 rfl)) ?_
          refine rt_v (fun vals w hR hd => v_move (t := .bool _) (hd 8 rfl)) ?_
          refine rt_hv rfl (fun vals w hd => hd 9 rfl) (fun vals w hR hd => v_move (t := .pointer _) rfl) ?_
          refine rt_hvf rfl (fun vals w hd => hd 9 rfl) (fun vals w hR hd => to_f1 (by kernel_rfl) (hd 10 rfl) (Len_c (HB5.ext hR) (HT5.ext hR) hok)) ?_
          refine rt_hv rfl (fun vals w hd => hd 9 rfl) (fun vals w hR hd => v_move (t := .pointer _) rfl) ?_
          refine rt_hvf rfl (fun vals w hd => hd 9 rfl) (fun vals w hR hd => to_f1 (by kernel_rfl) (hd 12 rfl) (refTLen_c (HB6.ext hR) (HT6.ext hR) hok)) ?_
          refine rt_hv rfl (fun vals w hd => hd 9 rfl) (fun vals w hR hd => OpVat.as (b := true) (v_eql (hd 11 rfl) (hd 13 rfl)) (by simp)) ?_
          refine rt_v (fun vals w hR hd => v_andT (hd 9 rfl) (hd 14 rfl)) ?_
          refine rt_v (fun vals w hR hd => v_move (t := .bool _) (hd 15 rfl)) ?_
          refine rt_hv rfl (fun vals w hd => hd 16 rfl) (fun vals w hR hd => v_move (t := .pointer _) rfl) ?_
          refine rt_hv rfl (fun vals w hd => hd 16 rfl) (fun vals w hR hd => v_move (t := .pointer _) rfl) ?_
          refine rt_hv rfl (fun vals w hd => hd 16 rfl) (fun vals w hR hd => v_move (t := .int _ _) rfl) ?_
          refine rt_hvf rfl (fun vals w hd => hd 16 rfl) (fun vals w hR hd => to_f3 (by kernel_rfl) (hd 17 rfl) (hd 18 rfl) (hd 19 rfl) (once_g (LastOk.made hok (HB5.ext hR) (HT5.ext hR) (by have := hR.size; omega) (by have := hR.size; omega) (fun i _ h h2 => by have := hR.size; omega)) hok (HB6.ext hR) (HT6.ext hR))) ?_
          refine rt_v (fun vals w hR hd => v_andT (hd 16 rfl) (hd 20 rfl)) ?_
          refine rt_v (fun vals w hR hd => v_move (t := .bool _) (hd 21 rfl)) ?_
          refine rt_hv rfl (fun vals w hd => hd 22 rfl) (fun vals w hR hd => v_move (t := .pointer _) rfl) ?_
          refine rt_hv rfl (fun vals w hd => hd 22 rfl) (fun vals w hR hd => v_move (t := .pointer _) rfl) ?_
          refine rt_hvf rfl (fun vals w hd => hd 22 rfl) (fun vals w hR hd => to_f3 (by kernel_rfl) (hd 23 rfl) (hd 24 rfl) (show _ = (Value.int _ _) from rfl) (once_g (LastOk.made hok (HB5.ext hR) (HT5.ext hR) (by have := hR.size; omega) (by have := hR.size; omega) (fun i _ h h2 => by have := hR.size; omega)) hok (HB6.ext hR) (HT6.ext hR))) ?_
          refine rt_v (fun vals w hR hd => v_andT (hd 22 rfl) (hd 25 rfl)) ?_
          refine rt_v (fun vals w hR hd => v_move (t := .bool _) (hd 26 rfl)) ?_
          refine rt_hv rfl (fun vals w hd => hd 27 rfl) (fun vals w hR hd => v_move (t := .pointer _) rfl) ?_
          refine rt_hto (fun v W => Bv W AllB v (tbW S)) (fun v w w' h k => h.ext k) rfl (fun vals w hd => hd 27 rfl) (fun vals w hR hd => to_f1 (by kernel_rfl) (hd 28 rfl) (CallsR.mono (TBytes_c (HB5.ext hR) (HT5.ext hR) hok) fun v w1 ⟨⟨_, _, _, h⟩, e⟩ => ⟨e, h.allB⟩)) ?_
          refine rt_hv rfl (fun vals w hd => hd 27 rfl) (fun vals w hR hd => v_b2s (et := 5) (by kernel_rfl) (by kernel_rfl) (by kernel_rfl) rfl (hd 29 rfl)) ?_
          refine rt_hv rfl (fun vals w hd => hd 27 rfl) (fun vals w hR hd => v_move (t := .pointer _) rfl) ?_
          refine rt_hto (fun v W => Bv W AllB v (tbW S)) (fun v w w' h k => h.ext k) rfl (fun vals w hd => hd 27 rfl) (fun vals w hR hd => to_f1 (by kernel_rfl) (hd 31 rfl) (CallsR.mono (refTBytes_c (HB6.ext hR) (HT6.ext hR) hok) fun v w1 ⟨⟨_, _, _, h⟩, e⟩ => ⟨e, h.allB⟩)) ?_
          refine rt_hv rfl (fun vals w hd => hd 27 rfl) (fun vals w hR hd => v_b2s (et := 5) (by kernel_rfl) (by kernel_rfl) (by kernel_rfl) rfl (hd 32 rfl)) ?_
          refine rt_hv rfl (fun vals w hd => hd 27 rfl) (fun vals w hR hd => OpVat.as (b := true) (v_seq (hd 30 rfl) (hd 33 rfl)) (by simp)) ?_
          refine rt_v (fun vals w hR hd => v_andT (hd 27 rfl) (hd 34 rfl)) ?_
          refine rt_v (fun vals w hR hd => v_move (t := .bool _) (hd 35 rfl)) ?_
          refine rt_hvf rfl (fun vals w hd => hd 36 rfl) (fun vals w hR hd => to_f0 (by kernel_rfl) (known_c)) ?_
          refine rt_v (fun vals w hR hd => v_andT (hd 36 rfl) (hd 37 rfl)) ?_
          refine rt_v (fun vals w hR hd => v_assign (t := .bool _) (hd 38 rfl)) ?_
          refine rt_nil (fun w104 e104 => ?_)
          rintro _ rfl _ rfl _ rfl _ rfl _ rfl _ rfl _ rfl _ rfl _ rfl _ rfl _ rfl _ rfl _ rfl _ rfl _ rfl _ rfl _ rfl _ rfl _ rfl _ rfl _ rfl _ rfl _ rfl _ rfl _ rfl _ rfl _ rfl _ rfl _ rfl v71 HS71 _ rfl _ rfl v74 HS74 _ rfl _ rfl _ rfl _ rfl _ rfl _ rfl _ rfl
          have zs_e104 := e104.size
          replace E := E.trans (Ext.keep e104)
          replace HS1 := HS1.ext e104
          replace HB5 := HB5.ext e104
          replace HT5 := HT5.ext e104
          replace HB6 := HB6.ext e104
          replace HT6 := HT6.ext e104
          replace HPn := HPn.ext e104
          refine fin_nil ?_
          refine n_then ?_
          refine c_ret ?_
          refine ret1v rfl (by decide) (show _ = (Value.bool _) from rfl) ?_
          exact ⟨rfl, E⟩
      · skip
        have hr : ¬ (1 ≤ c ∧ c ≤ 4) := by simpa using hr
        obtain ⟨hn0', hps⟩ := numS_out hok hr
        refine c_skip ?_
        refine n_then ?_
        refine c_seq ?_
        refine wp_regd (NoK) (by kernel_rfl) (by decide +kernel) (by decide +kernel) ?_
        refine rt_v (fun vals w hR hd => v_move (t := .int _ _) rfl) ?_
        refine rt_v (fun vals w hR hd => v_move (t := .int _ _) rfl) ?_
        refine rt_v (fun vals w hR hd => OpVat.as (b := true) (v_eql (hd 0 rfl) (hd 1 rfl)) (by rw [hn0']; rfl)) ?_
        refine rt_v (fun vals w hR hd => v_move (t := .bool _) (hd 2 rfl)) ?_
        refine rt_hv rfl (fun vals w hd => hd 3 rfl) (fun vals w hR hd => v_move (t := .bool _) rfl) ?_
        refine rt_hv rfl (fun vals w hd => hd 3 rfl) (fun vals w hR hd => v_move (t := .int _ _) rfl) ?_
        refine rt_hv rfl (fun vals w hd => hd 3 rfl) (fun vals w hR hd => OpVat.as (b := false) (v_gtr (hd 5 rfl) rfl) rfl) ?_
        refine rt_hv rfl (fun vals w hd => hd 3 rfl) (fun vals w hR hd => OpVat.as (b := true) (v_beql (by kernel_rfl) (hd 4 rfl) (hd 6 rfl)) (by rw [hps]; rfl)) ?_
        refine rt_v (fun vals w hR hd => v_andT (hd 3 rfl) (hd 7 rfl)) ?_
        refine rt_v (fun vals w hR hd => v_move (t := .bool _) (hd 8 rfl)) ?_
        refine rt_hv rfl (fun vals w hd => hd 9 rfl) (fun vals w hR hd => v_move (t := .pointer _) rfl) ?_
        refine rt_hvf rfl (fun vals w hd => hd 9 rfl) (fun vals w hR hd => to_f1 (by kernel_rfl) (hd 10 rfl) (Len_c (HB5.ext hR) (HT5.ext hR) hok)) ?_
        refine rt_hv rfl (fun vals w hd => hd 9 rfl) (fun vals w hR hd => v_move (t := .pointer _) rfl) ?_
        refine rt_hvf rfl (fun vals w hd => hd 9 rfl) (fun vals w hR hd => to_f1 (by kernel_rfl) (hd 12 rfl) (refTLen_c (HB6.ext hR) (HT6.ext hR) hok)) ?_
        refine rt_hv rfl (fun vals w hd => hd 9 rfl) (fun vals w hR hd => OpVat.as (b := true) (v_eql (hd 11 rfl) (hd 13 rfl)) (by simp)) ?_
        refine rt_v (fun vals w hR hd => v_andT (hd 9 rfl) (hd 14 rfl)) ?_
        refine rt_v (fun vals w hR hd => v_move (t := .bool _) (hd 15 rfl)) ?_
        refine rt_hv rfl (fun vals w hd => hd 16 rfl) (fun vals w hR hd => v_move (t := .pointer _) rfl) ?_
        refine rt_hv rfl (fun vals w hd => hd 16 rfl) (fun vals w hR hd => v_move (t := .pointer _) rfl) ?_
        refine rt_hv rfl (fun vals w hd => hd 16 rfl) (fun vals w hR hd => v_move (t := .int _ _) rfl) ?_
        refine rt_hvf rfl (fun vals w hd => hd 16 rfl) (fun vals w hR hd => to_f3 (by kernel_rfl) (hd 17 rfl) (hd 18 rfl) (hd 19 rfl) (once_g (LastOk.made hok (HB5.ext hR) (HT5.ext hR) (by have := hR.size; omega) (by have := hR.size; omega) (fun i _ h h2 => by have := hR.size; omega)) hok (HB6.ext hR) (HT6.ext hR))) ?_
        refine rt_v (fun vals w hR hd => v_andT (hd 16 rfl) (hd 20 rfl)) ?_
        refine rt_v (fun vals w hR hd => v_move (t := .bool _) (hd 21 rfl)) ?_
        refine rt_hv rfl (fun vals w hd => hd 22 rfl) (fun vals w hR hd => v_move (t := .pointer _) rfl) ?_
        refine rt_hv rfl (fun vals w hd => hd 22 rfl) (fun vals w hR hd => v_move (t := .pointer _) rfl) ?_
        refine rt_hvf rfl (fun vals w hd => hd 22 rfl) (fun vals w hR hd => to_f3 (by kernel_rfl) (hd 23 rfl) (hd 24 rfl) (show _ = (Value.int _ _) from rfl) (once_g (LastOk.made hok (HB5.ext hR) (HT5.ext hR) (by have := hR.size; omega) (by have := hR.size; omega) (fun i _ h h2 => by have := hR.size; omega)) hok (HB6.ext hR) (HT6.ext hR))) ?_
        refine rt_v (fun vals w hR hd => v_andT (hd 22 rfl) (hd 25 rfl)) ?_
        refine rt_v (fun vals w hR hd => v_move (t := .bool _) (hd 26 rfl)) ?_
        refine rt_hv rfl (fun vals w hd => hd 27 rfl) (fun vals w hR hd => v_move (t := .pointer _) rfl) ?_
        refine rt_hto (fun v W => Bv W AllB v (tbW S)) (fun v w w' h k => h.ext k) rfl (fun vals w hd => hd 27 rfl) (fun vals w hR hd => to_f1 (by kernel_rfl) (hd 28 rfl) (CallsR.mono (TBytes_c (HB5.ext hR) (HT5.ext hR) hok) fun v w1 ⟨⟨_, _, _, h⟩, e⟩ => ⟨e, h.allB⟩)) ?_
        refine rt_hv rfl (fun vals w hd => hd 27 rfl) (fun vals w hR hd => v_b2s (et := 5) (by kernel_rfl) (by kernel_rfl) (by kernel_rfl) rfl (hd 29 rfl)) ?_
        refine rt_hv rfl (fun vals w hd => hd 27 rfl) (fun vals w hR hd => v_move (t := .pointer _) rfl) ?_
        refine rt_hto (fun v W => Bv W AllB v (tbW S)) (fun v w w' h k => h.ext k) rfl (fun vals w hd => hd 27 rfl) (fun vals w hR hd => to_f1 (by kernel_rfl) (hd 31 rfl) (CallsR.mono (refTBytes_c (HB6.ext hR) (HT6.ext hR) hok) fun v w1 ⟨⟨_, _, _, h⟩, e⟩ => ⟨e, h.allB⟩)) ?_
        refine rt_hv rfl (fun vals w hd => hd 27 rfl) (fun vals w hR hd => v_b2s (et := 5) (by kernel_rfl) (by kernel_rfl) (by kernel_rfl) rfl (hd 32 rfl)) ?_
        refine rt_hv rfl (fun vals w hd => hd 27 rfl) (fun vals w hR hd => OpVat.as (b := true) (v_seq (hd 30 rfl) (hd 33 rfl)) (by simp)) ?_
        refine rt_v (fun vals w hR hd => v_andT (hd 27 rfl) (hd 34 rfl)) ?_
        refine rt_v (fun vals w hR hd => v_move (t := .bool _) (hd 35 rfl)) ?_
        refine rt_hvf rfl (fun vals w hd => hd 36 rfl) (fun vals w hR hd => to_f0 (by kernel_rfl) (known_c)) ?_
        refine rt_v (fun vals w hR hd => v_andT (hd 36 rfl) (hd 37 rfl)) ?_
        refine rt_v (fun vals w hR hd => v_assign (t := .bool _) (hd 38 rfl)) ?_
        refine rt_nil (fun w105 e105 => ?_)
        rintro _ rfl _ rfl _ rfl _ rfl _ rfl _ rfl _ rfl _ rfl _ rfl _ rfl _ rfl _ rfl _ rfl _ rfl _ rfl _ rfl _ rfl _ rfl _ rfl _ rfl _ rfl _ rfl _ rfl _ rfl _ rfl _ rfl _ rfl _ rfl _ rfl v71 HS71 _ rfl _ rfl v74 HS74 _ rfl _ rfl _ rfl _ rfl _ rfl _ rfl _ rfl
        have zs_e105 := e105.size
        replace E := E.trans (Ext.keep e105)
        replace HS1 := HS1.ext e105
        replace HB5 := HB5.ext e105
        replace HT5 := HT5.ext e105
        replace HB6 := HB6.ext e105
        replace HT6 := HT6.ext e105
        refine fin_nil ?_
        refine n_then ?_
        refine c_ret ?_
        refine ret1v rfl (by decide) (show _ = (Value.bool _) from rfl) ?_
        exact ⟨rfl, E⟩
end Go.Proofs.Ytlhanmlpionomaa
