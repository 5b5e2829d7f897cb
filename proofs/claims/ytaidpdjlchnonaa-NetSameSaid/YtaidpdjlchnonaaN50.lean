/- A part of the proof: steps and lemmas for the walks through the given program. -/
import Derived.Test.YtaidpdjlchnonaaN47
namespace Go.Proofs.Ytaidpdjlchnonaa
open Go.Vc
set_option linter.unusedVariables false
set_option linter.unusedSimpArgs false
set_option maxRecDepth 100000

set_option maxHeartbeats 8000000 in
theorem do4_c {w : World} {n0 bw br lost : Nat} {ms : List Ms} {r : StpV} {a7 : Option Addr} {c7 : Nat} (hW : WR w n0 bw br ms lost) (HS7 : SlV tMs w (fun i => i < n0) (.slice a7 r.2.2.length c7) r.2.2) (hlo : lost ≤ 100000) (hk : r.1 = 4) : CallsR Try.prog 29 #[.pointer (some ⟨bw, 0, none⟩), .pointer (some ⟨br, 0, none⟩), .agg #[.int .i64 r.1, .int .i64 r.2.1, .slice a7 r.2.2.length c7]] w (DoP n0 bw br lost w) := by
  obtain ⟨hne, hb0, hr0, ⟨a1, c1, HB1, HS1⟩, ⟨a2, c2, HB2, HS2⟩, hmay, hlen⟩ := hW
  obtain ⟨n1, hn1⟩ : ∃ n, n = w.heap.size := ⟨_, rfl⟩
  have zl1 := HB1.lt
  have zl2 := HB2.lt
  replace HS1 := HS1.mono (F' := fun i => i ≠ bw ∧ i ≠ br ∧ i < n1) fun b hb h => ⟨h.1, h.2, by omega⟩
  replace HS2 := HS2.mono (F' := fun i => i ≠ bw ∧ i ≠ br ∧ i < n1) fun b hb h => ⟨h.1, h.2, by omega⟩
  have hm2 := HS2.len_max
  refine enter 281 Try.func29 rfl rfl (by simp) ?_
  refine c_seq ?_
  have E := Keep.refl (K := fun i => i = bw ∨ i = br) w
  refine wp_reg (by decide +kernel) ?_
  refine l_to (to_box (show _ = (Value.agg _) from rfl) ?_)
  rintro b5 w5 zb5 HB5 e5 z5
  have zs_e5 := e5.size
  replace E := E.trans (Ext.keep e5)
  replace HB1 := HB1.ext e5
  replace HB2 := HB2.ext e5
  replace HS1 := HS1.ext e5
  replace HS2 := HS2.ext e5
  try simp only [Value.cells] at HB5
  refine l_v (v_assign rfl) ?_
  refine l_v (v_assign rfl) ?_
  refine l_v (v_assign rfl) ?_
  refine l_nil ?_
  refine n_then ?_
  by_cases hv0 : 0 ≤ r.2.1
  · skip
    by_cases hv1 : r.2.1 < (ms.length : Int)
    · skip
      refine c_seq ?_
      have hv := And.intro hv0 hv1
      refine wp_regd (NoK) (by kernel_rfl) (by decide +kernel) (by decide +kernel) ?_
      refine rt_v (fun vals w hR hd => v_fieldAddr (off := 1) (ft := 3) (by kernel_rfl) rfl) ?_
      refine rt_v (fun vals w hR hd => v_load (by kernel_rfl) (hd 0 rfl) (by first | exact (HB5.ext hR).pv 1 _ rfl | exact (HB2.ext hR).pv 1 _ rfl | exact (HB1.ext hR).pv 1 _ rfl | assumption)) ?_
      refine rt_v (fun vals w hR hd => OpVat.as (b := true) (v_geq (hd 1 rfl) rfl) (decide_eq_true hv0)) ?_
      refine rt_v (fun vals w hR hd => v_move (t := .bool _) (hd 2 rfl)) ?_
      refine rt_hv rfl (fun vals w hd => hd 3 rfl) (fun vals w hR hd => v_fieldAddr (off := 1) (ft := 3) (by kernel_rfl) rfl) ?_
      refine rt_hv rfl (fun vals w hd => hd 3 rfl) (fun vals w hR hd => v_load (by kernel_rfl) (hd 4 rfl) (by first | exact (HB5.ext hR).pv 1 _ rfl | exact (HB2.ext hR).pv 1 _ rfl | exact (HB1.ext hR).pv 1 _ rfl | assumption)) ?_
      refine rt_hv rfl (fun vals w hd => hd 3 rfl) (fun vals w hR hd => v_move (t := .pointer _) rfl) ?_
      refine rt_hv rfl (fun vals w hd => hd 3 rfl) (fun vals w hR hd => v_nilCheck (hd 6 rfl)) ?_
      refine rt_hv rfl (fun vals w hd => hd 3 rfl) (fun vals w hR hd => v_fieldAddr (off := 0) (ft := 41) (by kernel_rfl) (hd 7 rfl)) ?_
      refine rt_hv rfl (fun vals w hd => hd 3 rfl) (fun vals w hR hd => v_load (by kernel_rfl) (hd 8 rfl) (by first | exact (HB5.ext hR).pv 0 _ rfl | exact (HB2.ext hR).pv 0 _ rfl | exact (HB1.ext hR).pv 0 _ rfl | assumption)) ?_
      refine rt_hv rfl (fun vals w hd => hd 3 rfl) (fun vals w hR hd => v_len (et := 26) (by kernel_rfl) (hd 9 rfl)) ?_
      refine rt_hv rfl (fun vals w hd => hd 3 rfl) (fun vals w hR hd => OpVat.as (b := true) (v_lss (hd 5 rfl) (hd 10 rfl)) (decide_eq_true hv1)) ?_
      refine rt_v (fun vals w hR hd => v_andT (hd 3 rfl) (hd 11 rfl)) ?_
      refine rt_v (fun vals w hR hd => v_assign (t := .bool _) (hd 12 rfl)) ?_
      refine rt_nil (fun w101 e101 => ?_)
      rintro _ rfl _ rfl _ rfl _ rfl _ rfl _ rfl _ rfl _ rfl _ rfl _ rfl _ rfl _ rfl _ rfl _ rfl
      have zs_e101 := e101.size
      replace E := E.trans (Ext.keep e101)
      replace HB1 := HB1.ext e101
      replace HB2 := HB2.ext e101
      replace HS1 := HS1.ext e101
      replace HS2 := HS2.ext e101
      replace HB5 := HB5.ext e101
      refine fin_nil ?_
      refine n_then ?_
      refine c_seq ?_
      refine c_seq ?_
      refine wp_reg (by decide +kernel) ?_
      refine l_v (v_fieldAddr (off := 0) (ft := 3) (by kernel_rfl) rfl) ?_
      refine l_v (v_load (by kernel_rfl) rfl (by first | exact HB5.pv 0 _ rfl | exact HB2.pv 0 _ rfl | exact HB1.pv 0 _ rfl | assumption)) ?_
      refine l_nil ?_
      refine n_then ?_
      refine c_block ?_
      refine c_seq ?_
      refine wp_reg (by decide +kernel) ?_
      refine l_v (v_eql rfl rfl) ?_
      refine l_v (v_assign (t := .bool _) rfl) ?_
      refine l_nil ?_
      refine n_then ?_
      refine c_cond rfl rfl (fun hk1 => ?_) (fun hk1 => ?_)
      · skip
        exact absurd (dtrue hk1) (by omega)
      · skip
        refine c_seq ?_
        refine wp_reg (by decide +kernel) ?_
        refine l_v (v_eql rfl rfl) ?_
        refine l_v (v_assign (t := .bool _) rfl) ?_
        refine l_nil ?_
        refine n_then ?_
        refine c_cond rfl rfl (fun hk2 => ?_) (fun hk2 => ?_)
        · skip
          exact absurd (dtrue hk2) (by omega)
        · skip
          refine c_seq ?_
          refine wp_reg (by decide +kernel) ?_
          refine l_v (v_eql rfl rfl) ?_
          refine l_v (v_assign (t := .bool _) rfl) ?_
          refine l_nil ?_
          refine n_then ?_
          refine c_cond rfl rfl (fun hk3 => ?_) (fun hk3 => ?_)
          · skip
            exact absurd (dtrue hk3) (by omega)
          · skip
            refine c_seq ?_
            refine wp_reg (by decide +kernel) ?_
            refine l_v (v_eql rfl rfl) ?_
            refine l_v (v_assign (t := .bool _) rfl) ?_
            refine l_nil ?_
            refine n_then ?_
            refine c_cond rfl rfl (fun hk4 => ?_) (fun hk4 => ?_)
            · skip
              obtain ⟨m, hxm, _⟩ := getE (l := ms) (i := r.2.1.toNat) (by omega)
              have hmm := hmay m (List.mem_of_getElem? hxm)
              have her := List.length_eraseIdx_of_lt (l := ms) (i := r.2.1.toNat) (by omega)
              have hls : ∀ x ∈ [m], mayN x = true := fun x hx => by rw [List.mem_singleton.1 hx]; exact hmm
              have hsn : sendN ms [m] = ms.length + [m].length - 256 := rfl
              have hs1' : [m].length = 1 := rfl
              obtain ⟨j, hj⟩ := Int.eq_ofNat_of_zero_le hv.1
              have hjl : j < ms.length := by omega
              have hxj : ms[j]? = some m := by rw [hj] at hxm; simpa using hxm
              refine c_seq ?_
              refine wp_reg (by decide +kernel) ?_
              refine l_v (v_move (t := .pointer _) rfl) ?_
              refine l_v (v_fieldAddr (off := 1) (ft := 3) (by kernel_rfl) rfl) ?_
              refine l_v (v_load (by kernel_rfl) rfl (by first | exact HB5.pv 1 _ rfl | exact HB2.pv 1 _ rfl | exact HB1.pv 1 _ rfl | assumption)) ?_
              refine l_to (to_f2 (by kernel_rfl) (show _ = (Value.pointer _) from rfl) (show _ = (Value.int _ _) from rfl) (CallsR.mono (Double_c HB1 HS1 (fun i h => h.1) hlen hv.1 hxm hmm (by omega)) ?_))
              rintro _ w8 ⟨rfl, ⟨a8, c8, HB1, HS8⟩, k8⟩
              have zs_k8 := k8.size
              replace HS8 := HS8.mono (F' := fun i => i ≠ bw ∧ i ≠ br ∧ i < w8.heap.size) fun b hb h => by omega
              replace E := E.step k8 (by intro i hi he; (try dsimp only [NoK] at hi he ⊢); first | exact he.elim | omega | exact he)
              replace HB2 := HB2.keep k8 (by intro h; (try dsimp only at h); first | omega)
              replace HS1 := HS1.keep k8 (by intro i _ hi he; (try dsimp only [NoK, AllB] at hi he); first | exact hi.elim | exact he.elim | omega | (rcases hi with hi | hi <;> omega) | (rcases he with he | he <;> omega))
              replace HS2 := HS2.keep k8 (by intro i _ hi he; (try dsimp only [NoK, AllB] at hi he); first | exact hi.elim | exact he.elim | omega | (rcases hi with hi | hi <;> omega) | (rcases he with he | he <;> omega))
              replace HB5 := HB5.keep k8 (by intro h; (try dsimp only at h); first | omega)
              refine l_v (v_assign (t := .int _ _) rfl) ?_
              refine l_nil ?_
              refine n_then ?_
              refine c_seq ?_
              refine c_seq ?_
              refine wp_reg (by decide +kernel) ?_
              refine l_v (v_move (t := .bool _) rfl) ?_
              refine l_nil ?_
              refine n_then ?_
              refine c_cond rfl rfl (fun his => ?_) (fun his => ?_)
              · skip
                obtain ⟨q1, cs1, hq1, hF1, _, HP1, hr1⟩ := HS2.el hxj
                subst hq1
                have HG1 : AgV tMs _ _ _ m := ⟨cs1, rfl, hr1⟩
                obtain ⟨d1, d2, d3, d4, rfl, _⟩ := tMs_cells hr1
                refine wp_any (by kernel_rfl) ?_
                have e102 : Ext w8 { w8 with drawn := w8.drawn + 1 } := Keep.drawn _ _
                generalize hw102 : ({ w8 with drawn := w8.drawn + 1 } : World) = w102 at e102 ⊢
                clear hw102
                have zs_e102 := e102.size
                replace E := E.trans (Ext.keep e102)
                replace HB2 := HB2.ext e102
                replace HS2 := HS2.ext e102
                replace HB5 := HB5.ext e102
                replace HB1 := HB1.ext e102
                replace HS8 := HS8.ext e102
                replace HP1 := HP1.ext e102
                replace HG1 := HG1.ext e102
                refine r_cut 10 rfl (by decide +kernel) (by decide +kernel) (by decide +kernel) ?_
                refine wp_regdW (NoK) (by decide +kernel) (by decide +kernel) ?_
                refine rt_v (fun vals w hR hd => v_move (t := .pointer _) rfl) ?_
                refine rt_v (fun vals w hR hd => v_move (t := .pointer _) rfl) ?_
                refine rt_v (fun vals w hR hd => v_nilCheck (hd 1 rfl)) ?_
                refine rt_v (fun vals w hR hd => v_fieldAddr (off := 0) (ft := 41) (by kernel_rfl) (hd 2 rfl)) ?_
                refine rt_v (fun vals w hR hd => v_load (by kernel_rfl) (hd 3 rfl) (by first | exact (HP1.ext hR) 0 _ rfl | exact (HB1.ext hR).pv 0 _ rfl | exact (HB5.ext hR).pv 0 _ rfl | exact (HB2.ext hR).pv 0 _ rfl | assumption)) ?_
                refine rt_v (fun vals w hR hd => v_fieldAddr (off := 1) (ft := 3) (by kernel_rfl) rfl) ?_
                refine rt_v (fun vals w hR hd => v_load (by kernel_rfl) (hd 5 rfl) (by first | exact (HP1.ext hR) 1 _ rfl | exact (HB1.ext hR).pv 1 _ rfl | exact (HB5.ext hR).pv 1 _ rfl | exact (HB2.ext hR).pv 1 _ rfl | assumption)) ?_
                refine rt_v (fun vals w hR hd => v_indexAddr (et := 26) (sz := 11) (k := j) (by kernel_rfl) (by kernel_rfl) (hd 4 rfl) (hd 6 rfl) (by first | rfl | omega) (by omega)) ?_
                refine rt_v (fun vals w hR hd => v_loadA (by kernel_rfl) (hd 7 rfl) (by first | exact (HP1.ext hR) | exact (HB1.ext hR).pv | exact (HB5.ext hR).pv | exact (HB2.ext hR).pv | assumption) rfl) ?_
                refine rt_to (fun v W => SlV tMs W (fun i => (i ≠ bw ∧ i ≠ br ∧ i < n1) ∨ n1 ≤ i) v [m]) (fun v w w' h k => h.ext k) (fun vals w hR hd => to_slice1 (t := tMs) (et := 26) (bytes := 120) (by kernel_rfl) (by decide) (hd 8 rfl) (AgV.rp (HG1.ext hR)) (fun b w1 hb HO e z => ⟨e, HO.view.mono fun b _ hb => by have := hR.size; exact hb.elim (fun h => .inr (by omega)) (fun h => .inl h.1)⟩)) ?_
                refine rt_nil (fun w103 e103 => ?_)
                rintro _ rfl _ rfl _ rfl _ rfl _ rfl _ rfl _ rfl _ rfl _ rfl v33 HS33
                have zs_e103 := e103.size
                have HS33 : SlV tMs _ (fun i => (i ≠ bw ∧ i ≠ br ∧ i < n1) ∨ n1 ≤ i) v33 [m] := HS33
                obtain ⟨a33, c33, rfl⟩ := HS33.shape
                replace E := E.trans (Ext.keep e103)
                replace HB2 := HB2.ext e103
                replace HS2 := HS2.ext e103
                replace HB5 := HB5.ext e103
                replace HB1 := HB1.ext e103
                replace HS8 := HS8.ext e103
                refine fin_nil ?_
                refine n_then ?_
                refine r_one (by decide +kernel) rfl ?_
                refine l_to (to_f2 (by kernel_rfl) (show _ = (Value.pointer _) from rfl) (show _ = (Value.slice _ _ _) from rfl) (CallsR.mono (refSend_c HB2 HS2 HS33 (fun i h => h.2.1) (fun i h => by have h := h; (try dsimp only at h); omega) hlen (by simp) hls (by omega)) ?_))
                rintro _ w40 ⟨rfl, ⟨a11, c11, HB2, HS11⟩, k40⟩
                have zs_k40 := k40.size
                replace HS11 := HS11.mono (F' := fun i => i ≠ bw ∧ i ≠ br ∧ i < w40.heap.size) fun b hb h => by omega
                replace E := E.step k40 (by intro i hi he; (try dsimp only [NoK] at hi he ⊢); first | exact he.elim | omega | exact he)
                replace HS2 := HS2.keep k40 (by intro i _ hi he; (try dsimp only [NoK, AllB] at hi he); first | exact hi.elim | exact he.elim | omega | (rcases hi with hi | hi <;> omega) | (rcases he with he | he <;> omega))
                replace HB5 := HB5.keep k40 (by intro h; (try dsimp only at h); first | omega)
                replace HB1 := HB1.keep k40 (by intro h; (try dsimp only at h); first | omega)
                replace HS8 := HS8.keep k40 (by intro i _ hi he; (try dsimp only [NoK, AllB] at hi he); first | exact hi.elim | exact he.elim | omega | (rcases hi with hi | hi <;> omega) | (rcases he with he | he <;> omega))
                replace HS33 := HS33.keep k40 (by intro i _ hi he; (try dsimp only [NoK, AllB] at hi he); first | exact hi.elim | exact he.elim | omega | (rcases hi with hi | hi <;> omega) | (rcases he with he | he <;> omega))
                refine l_nil ?_
                refine n_then ?_
                refine c_seq ?_
                refine wp_reg (by decide +kernel) ?_
                refine l_v (v_move (t := .pointer _) rfl) ?_
                refine l_v (v_move (t := .pointer _) rfl) ?_
                refine l_v (v_move (t := .int _ _) rfl) ?_
                refine l_to (to_f1 (by kernel_rfl) (show _ = (Value.int _ _) from rfl) (CallsR.mono (num_c) ?_))
                rintro _ w104 ⟨rfl, e104⟩
                have zs_e104 := e104.size
                replace E := E.trans (Ext.keep e104)
                replace HB5 := HB5.ext e104
                replace HB1 := HB1.ext e104
                replace HS8 := HS8.ext e104
                replace HB2 := HB2.ext e104
                replace HS11 := HS11.ext e104
                refine l_v (OpVat.as (b := true) (v_eql rfl rfl) rfl) ?_
                refine l_v (v_move (t := .bool _) rfl) ?_
                refine l_v (OpVat.as (b := true) (v_beql (by kernel_rfl) rfl rfl) rfl) ?_
                refine l_v (v_move (t := .bool _) rfl) ?_
                refine l_gt rfl rfl (OpTo.of_v (v_move (t := .bool _) rfl) ?_)
                refine l_gt rfl rfl (OpTo.of_v (v_move (t := .bool _) rfl) ?_)
                refine l_skip (u := .bool true) rfl rfl rfl ?_
                refine l_skip (u := .bool true) rfl rfl rfl ?_
                refine l_skip (u := .bool true) rfl rfl rfl ?_
                refine l_gt rfl rfl (OpTo.of_v (v_orC rfl) ?_)
                refine l_v (v_andT rfl rfl) ?_
                refine l_v (v_assign (t := .pointer _) rfl) ?_
                refine l_v (v_assign (t := .pointer _) rfl) ?_
                refine l_v (v_assign (t := .bool _) rfl) ?_
                refine l_nil ?_
                refine n_then ?_
                refine c_ret ?_
                refine r_blk ?_
                refine r_then ?_
                refine ret3v rfl (by decide) (by decide) (by decide) (show _ = (Value.pointer _) from rfl) (show _ = (Value.pointer _) from rfl) (show _ = (Value.bool _) from rfl) ?_
                exact ⟨⟨bw, sendL ms [m], lost + sendN ms [m], by simp, ⟨hne, hb0, hr0, ⟨a8, c8, HB1, HS8.mono fun i _ h => by omega⟩, ⟨_, _, HB2, HS11.mono fun i _ h => by omega⟩, sendL_may hmay hls, sendL_le _ _⟩, by omega⟩, E⟩
              · skip
                cases his
            · skip
              exact absurd hk (dfalse hk4)
    · skip
      refine c_seq ?_
      have hv : ¬ (0 ≤ r.2.1 ∧ r.2.1 < (ms.length : Int)) := fun h => hv1 h.2
      refine wp_regd (NoK) (by kernel_rfl) (by decide +kernel) (by decide +kernel) ?_
      refine rt_v (fun vals w hR hd => v_fieldAddr (off := 1) (ft := 3) (by kernel_rfl) rfl) ?_
      refine rt_v (fun vals w hR hd => v_load (by kernel_rfl) (hd 0 rfl) (by first | exact (HB5.ext hR).pv 1 _ rfl | exact (HB2.ext hR).pv 1 _ rfl | exact (HB1.ext hR).pv 1 _ rfl | assumption)) ?_
      refine rt_v (fun vals w hR hd => OpVat.as (b := true) (v_geq (hd 1 rfl) rfl) (decide_eq_true hv0)) ?_
      refine rt_v (fun vals w hR hd => v_move (t := .bool _) (hd 2 rfl)) ?_
      refine rt_hv rfl (fun vals w hd => hd 3 rfl) (fun vals w hR hd => v_fieldAddr (off := 1) (ft := 3) (by kernel_rfl) rfl) ?_
      refine rt_hv rfl (fun vals w hd => hd 3 rfl) (fun vals w hR hd => v_load (by kernel_rfl) (hd 4 rfl) (by first | exact (HB5.ext hR).pv 1 _ rfl | exact (HB2.ext hR).pv 1 _ rfl | exact (HB1.ext hR).pv 1 _ rfl | assumption)) ?_
      refine rt_hv rfl (fun vals w hd => hd 3 rfl) (fun vals w hR hd => v_move (t := .pointer _) rfl) ?_
      refine rt_hv rfl (fun vals w hd => hd 3 rfl) (fun vals w hR hd => v_nilCheck (hd 6 rfl)) ?_
      refine rt_hv rfl (fun vals w hd => hd 3 rfl) (fun vals w hR hd => v_fieldAddr (off := 0) (ft := 41) (by kernel_rfl) (hd 7 rfl)) ?_
      refine rt_hv rfl (fun vals w hd => hd 3 rfl) (fun vals w hR hd => v_load (by kernel_rfl) (hd 8 rfl) (by first | exact (HB5.ext hR).pv 0 _ rfl | exact (HB2.ext hR).pv 0 _ rfl | exact (HB1.ext hR).pv 0 _ rfl | assumption)) ?_
      refine rt_hv rfl (fun vals w hd => hd 3 rfl) (fun vals w hR hd => v_len (et := 26) (by kernel_rfl) (hd 9 rfl)) ?_
      refine rt_hv rfl (fun vals w hd => hd 3 rfl) (fun vals w hR hd => OpVat.as (b := false) (v_lss (hd 5 rfl) (hd 10 rfl)) (decide_eq_false hv1)) ?_
      refine rt_v (fun vals w hR hd => v_andT (hd 3 rfl) (hd 11 rfl)) ?_
      refine rt_v (fun vals w hR hd => v_assign (t := .bool _) (hd 12 rfl)) ?_
      refine rt_nil (fun w105 e105 => ?_)
      rintro _ rfl _ rfl _ rfl _ rfl _ rfl _ rfl _ rfl _ rfl _ rfl _ rfl _ rfl _ rfl _ rfl _ rfl
      have zs_e105 := e105.size
      replace E := E.trans (Ext.keep e105)
      replace HB1 := HB1.ext e105
      replace HB2 := HB2.ext e105
      replace HS1 := HS1.ext e105
      replace HS2 := HS2.ext e105
      replace HB5 := HB5.ext e105
      refine fin_nil ?_
      refine n_then ?_
      refine c_seq ?_
      refine c_seq ?_
      refine wp_reg (by decide +kernel) ?_
      refine l_v (v_fieldAddr (off := 0) (ft := 3) (by kernel_rfl) rfl) ?_
      refine l_v (v_load (by kernel_rfl) rfl (by first | exact HB5.pv 0 _ rfl | exact HB2.pv 0 _ rfl | exact HB1.pv 0 _ rfl | assumption)) ?_
      refine l_nil ?_
      refine n_then ?_
      refine c_block ?_
      refine c_seq ?_
      refine wp_reg (by decide +kernel) ?_
      refine l_v (v_eql rfl rfl) ?_
      refine l_v (v_assign (t := .bool _) rfl) ?_
      refine l_nil ?_
      refine n_then ?_
      refine c_cond rfl rfl (fun hk1 => ?_) (fun hk1 => ?_)
      · skip
        exact absurd (dtrue hk1) (by omega)
      · skip
        refine c_seq ?_
        refine wp_reg (by decide +kernel) ?_
        refine l_v (v_eql rfl rfl) ?_
        refine l_v (v_assign (t := .bool _) rfl) ?_
        refine l_nil ?_
        refine n_then ?_
        refine c_cond rfl rfl (fun hk2 => ?_) (fun hk2 => ?_)
        · skip
          exact absurd (dtrue hk2) (by omega)
        · skip
          refine c_seq ?_
          refine wp_reg (by decide +kernel) ?_
          refine l_v (v_eql rfl rfl) ?_
          refine l_v (v_assign (t := .bool _) rfl) ?_
          refine l_nil ?_
          refine n_then ?_
          refine c_cond rfl rfl (fun hk3 => ?_) (fun hk3 => ?_)
          · skip
            exact absurd (dtrue hk3) (by omega)
          · skip
            refine c_seq ?_
            refine wp_reg (by decide +kernel) ?_
            refine l_v (v_eql rfl rfl) ?_
            refine l_v (v_assign (t := .bool _) rfl) ?_
            refine l_nil ?_
            refine n_then ?_
            refine c_cond rfl rfl (fun hk4 => ?_) (fun hk4 => ?_)
            · skip
              refine c_seq ?_
              refine wp_reg (by decide +kernel) ?_
              refine l_v (v_move (t := .pointer _) rfl) ?_
              refine l_v (v_fieldAddr (off := 1) (ft := 3) (by kernel_rfl) rfl) ?_
              refine l_v (v_load (by kernel_rfl) rfl (by first | exact HB5.pv 1 _ rfl | exact HB2.pv 1 _ rfl | exact HB1.pv 1 _ rfl | assumption)) ?_
              refine l_to (to_f2 (by kernel_rfl) (show _ = (Value.pointer _) from rfl) (show _ = (Value.int _ _) from rfl) (CallsR.mono (Double_no HB1 (by omega)) ?_))
              rintro _ w8 ⟨rfl, e8⟩
              have zs_e8 := e8.size
              replace E := E.trans (Ext.keep e8)
              replace HB1 := HB1.ext e8
              replace HB2 := HB2.ext e8
              replace HS1 := HS1.ext e8
              replace HS2 := HS2.ext e8
              replace HB5 := HB5.ext e8
              refine l_v (v_assign (t := .int _ _) rfl) ?_
              refine l_nil ?_
              refine n_then ?_
              refine c_seq ?_
              refine c_seq ?_
              refine wp_reg (by decide +kernel) ?_
              refine l_v (v_move (t := .bool _) rfl) ?_
              refine l_nil ?_
              refine n_then ?_
              refine c_cond rfl rfl (fun his => ?_) (fun his => ?_)
              · skip
                cases his
              · skip
                refine c_skip ?_
                refine n_then ?_
                refine c_seq ?_
                refine wp_reg (by decide +kernel) ?_
                refine l_v (v_move (t := .pointer _) rfl) ?_
                refine l_v (v_move (t := .pointer _) rfl) ?_
                refine l_v (v_move (t := .int _ _) rfl) ?_
                refine l_to (to_f1 (by kernel_rfl) (show _ = (Value.int _ _) from rfl) (CallsR.mono (num_c) ?_))
                rintro _ w106 ⟨rfl, e106⟩
                have zs_e106 := e106.size
                replace E := E.trans (Ext.keep e106)
                replace HB1 := HB1.ext e106
                replace HB2 := HB2.ext e106
                replace HS1 := HS1.ext e106
                replace HS2 := HS2.ext e106
                replace HB5 := HB5.ext e106
                refine l_v (OpVat.as (b := false) (v_eql rfl rfl) rfl) ?_
                refine l_v (v_move (t := .bool _) rfl) ?_
                refine l_v (OpVat.as (b := true) (v_beql (by kernel_rfl) rfl rfl) rfl) ?_
                refine l_v (v_move (t := .bool _) rfl) ?_
                refine l_gt rfl rfl (OpTo.of_v (v_move (t := .bool _) rfl) ?_)
                refine l_gt rfl rfl (OpTo.of_v (v_move (t := .bool _) rfl) ?_)
                refine l_gt rfl rfl (OpTo.of_v (v_move (t := .int _ _) rfl) ?_)
                refine l_gt rfl rfl (to_f1 (by kernel_rfl) (show _ = (Value.int _ _) from rfl) (CallsR.mono (num_c) ?_))
                rintro _ w107 ⟨rfl, e107⟩
                have zs_e107 := e107.size
                replace E := E.trans (Ext.keep e107)
                replace HB1 := HB1.ext e107
                replace HB2 := HB2.ext e107
                replace HS1 := HS1.ext e107
                replace HS2 := HS2.ext e107
                replace HB5 := HB5.ext e107
                refine l_gt rfl rfl (OpTo.of_v (OpVat.as (b := true) (v_eql rfl rfl) rfl) ?_)
                refine l_gt rfl rfl (OpTo.of_v (v_orT rfl rfl) ?_)
                refine l_v (v_andT rfl rfl) ?_
                refine l_v (v_assign (t := .pointer _) rfl) ?_
                refine l_v (v_assign (t := .pointer _) rfl) ?_
                refine l_v (v_assign (t := .bool _) rfl) ?_
                refine l_nil ?_
                refine n_then ?_
                refine c_ret ?_
                refine r_blk ?_
                refine r_then ?_
                refine ret3v rfl (by decide) (by decide) (by decide) (show _ = (Value.pointer _) from rfl) (show _ = (Value.pointer _) from rfl) (show _ = (Value.bool _) from rfl) ?_
                exact ⟨⟨bw, ms, lost, by simp, ⟨hne, hb0, hr0, ⟨a1, c1, HB1, HS1.mono fun i _ h => by omega⟩, ⟨_, _, HB2, HS2.mono fun i _ h => by omega⟩, hmay, hlen⟩, by omega⟩, E⟩
            · skip
              exact absurd hk (dfalse hk4)
  · skip
    refine c_seq ?_
    have hv : ¬ (0 ≤ r.2.1 ∧ r.2.1 < (ms.length : Int)) := fun h => hv0 h.1
    refine wp_regd (NoK) (by kernel_rfl) (by decide +kernel) (by decide +kernel) ?_
    refine rt_v (fun vals w hR hd => v_fieldAddr (off := 1) (ft := 3) (by kernel_rfl) rfl) ?_
    refine rt_v (fun vals w hR hd => v_load (by kernel_rfl) (hd 0 rfl) (by first | exact (HB5.ext hR).pv 1 _ rfl | exact (HB2.ext hR).pv 1 _ rfl | exact (HB1.ext hR).pv 1 _ rfl | assumption)) ?_
    refine rt_v (fun vals w hR hd => OpVat.as (b := false) (v_geq (hd 1 rfl) rfl) (decide_eq_false hv0)) ?_
    refine rt_v (fun vals w hR hd => v_move (t := .bool _) (hd 2 rfl)) ?_
    refine rt_skip (u := .bool false) rfl (fun vals w hd => hd 3 rfl) rfl ?_
    refine rt_skip (u := .bool false) rfl (fun vals w hd => hd 3 rfl) rfl ?_
    refine rt_skip (u := .bool false) rfl (fun vals w hd => hd 3 rfl) rfl ?_
    refine rt_skip (u := .bool false) rfl (fun vals w hd => hd 3 rfl) rfl ?_
    refine rt_skip (u := .bool false) rfl (fun vals w hd => hd 3 rfl) rfl ?_
    refine rt_skip (u := .bool false) rfl (fun vals w hd => hd 3 rfl) rfl ?_
    refine rt_skip (u := .bool false) rfl (fun vals w hd => hd 3 rfl) rfl ?_
    refine rt_skip (u := .bool false) rfl (fun vals w hd => hd 3 rfl) rfl ?_
    refine rt_v (fun vals w hR hd => v_andC (hd 3 rfl)) ?_
    refine rt_v (fun vals w hR hd => v_assign (t := .bool _) (hd 12 rfl)) ?_
    refine rt_nil (fun w108 e108 => ?_)
    rintro _ rfl _ rfl _ rfl _ rfl _ rfl _ rfl _ rfl _ rfl _ rfl _ rfl _ rfl _ rfl _ rfl _ rfl
    have zs_e108 := e108.size
    replace E := E.trans (Ext.keep e108)
    replace HB1 := HB1.ext e108
    replace HB2 := HB2.ext e108
    replace HS1 := HS1.ext e108
    replace HS2 := HS2.ext e108
    replace HB5 := HB5.ext e108
    refine fin_nil ?_
    refine n_then ?_
    refine c_seq ?_
    refine c_seq ?_
    refine wp_reg (by decide +kernel) ?_
    refine l_v (v_fieldAddr (off := 0) (ft := 3) (by kernel_rfl) rfl) ?_
    refine l_v (v_load (by kernel_rfl) rfl (by first | exact HB5.pv 0 _ rfl | exact HB2.pv 0 _ rfl | exact HB1.pv 0 _ rfl | assumption)) ?_
    refine l_nil ?_
    refine n_then ?_
    refine c_block ?_
    refine c_seq ?_
    refine wp_reg (by decide +kernel) ?_
    refine l_v (v_eql rfl rfl) ?_
    refine l_v (v_assign (t := .bool _) rfl) ?_
    refine l_nil ?_
    refine n_then ?_
    refine c_cond rfl rfl (fun hk1 => ?_) (fun hk1 => ?_)
    · skip
      exact absurd (dtrue hk1) (by omega)
    · skip
      refine c_seq ?_
      refine wp_reg (by decide +kernel) ?_
      refine l_v (v_eql rfl rfl) ?_
      refine l_v (v_assign (t := .bool _) rfl) ?_
      refine l_nil ?_
      refine n_then ?_
      refine c_cond rfl rfl (fun hk2 => ?_) (fun hk2 => ?_)
      · skip
        exact absurd (dtrue hk2) (by omega)
      · skip
        refine c_seq ?_
        refine wp_reg (by decide +kernel) ?_
        refine l_v (v_eql rfl rfl) ?_
        refine l_v (v_assign (t := .bool _) rfl) ?_
        refine l_nil ?_
        refine n_then ?_
        refine c_cond rfl rfl (fun hk3 => ?_) (fun hk3 => ?_)
        · skip
          exact absurd (dtrue hk3) (by omega)
        · skip
          refine c_seq ?_
          refine wp_reg (by decide +kernel) ?_
          refine l_v (v_eql rfl rfl) ?_
          refine l_v (v_assign (t := .bool _) rfl) ?_
          refine l_nil ?_
          refine n_then ?_
          refine c_cond rfl rfl (fun hk4 => ?_) (fun hk4 => ?_)
          · skip
            refine c_seq ?_
            refine wp_reg (by decide +kernel) ?_
            refine l_v (v_move (t := .pointer _) rfl) ?_
            refine l_v (v_fieldAddr (off := 1) (ft := 3) (by kernel_rfl) rfl) ?_
            refine l_v (v_load (by kernel_rfl) rfl (by first | exact HB5.pv 1 _ rfl | exact HB2.pv 1 _ rfl | exact HB1.pv 1 _ rfl | assumption)) ?_
            refine l_to (to_f2 (by kernel_rfl) (show _ = (Value.pointer _) from rfl) (show _ = (Value.int _ _) from rfl) (CallsR.mono (Double_no HB1 (by omega)) ?_))
            rintro _ w8 ⟨rfl, e8⟩
            have zs_e8 := e8.size
            replace E := E.trans (Ext.keep e8)
            replace HB1 := HB1.ext e8
            replace HB2 := HB2.ext e8
            replace HS1 := HS1.ext e8
            replace HS2 := HS2.ext e8
            replace HB5 := HB5.ext e8
            refine l_v (v_assign (t := .int _ _) rfl) ?_
            refine l_nil ?_
            refine n_then ?_
            refine c_seq ?_
            refine c_seq ?_
            refine wp_reg (by decide +kernel) ?_
            refine l_v (v_move (t := .bool _) rfl) ?_
            refine l_nil ?_
            refine n_then ?_
            refine c_cond rfl rfl (fun his => ?_) (fun his => ?_)
            · skip
              cases his
            · skip
              refine c_skip ?_
              refine n_then ?_
              refine c_seq ?_
              refine wp_reg (by decide +kernel) ?_
              refine l_v (v_move (t := .pointer _) rfl) ?_
              refine l_v (v_move (t := .pointer _) rfl) ?_
              refine l_v (v_move (t := .int _ _) rfl) ?_
              refine l_to (to_f1 (by kernel_rfl) (show _ = (Value.int _ _) from rfl) (CallsR.mono (num_c) ?_))
              rintro _ w109 ⟨rfl, e109⟩
              have zs_e109 := e109.size
              replace E := E.trans (Ext.keep e109)
              replace HB1 := HB1.ext e109
              replace HB2 := HB2.ext e109
              replace HS1 := HS1.ext e109
              replace HS2 := HS2.ext e109
              replace HB5 := HB5.ext e109
              refine l_v (OpVat.as (b := false) (v_eql rfl rfl) rfl) ?_
              refine l_v (v_move (t := .bool _) rfl) ?_
              refine l_v (OpVat.as (b := true) (v_beql (by kernel_rfl) rfl rfl) rfl) ?_
              refine l_v (v_move (t := .bool _) rfl) ?_
              refine l_gt rfl rfl (OpTo.of_v (v_move (t := .bool _) rfl) ?_)
              refine l_gt rfl rfl (OpTo.of_v (v_move (t := .bool _) rfl) ?_)
              refine l_gt rfl rfl (OpTo.of_v (v_move (t := .int _ _) rfl) ?_)
              refine l_gt rfl rfl (to_f1 (by kernel_rfl) (show _ = (Value.int _ _) from rfl) (CallsR.mono (num_c) ?_))
              rintro _ w110 ⟨rfl, e110⟩
              have zs_e110 := e110.size
              replace E := E.trans (Ext.keep e110)
              replace HB1 := HB1.ext e110
              replace HB2 := HB2.ext e110
              replace HS1 := HS1.ext e110
              replace HS2 := HS2.ext e110
              replace HB5 := HB5.ext e110
              refine l_gt rfl rfl (OpTo.of_v (OpVat.as (b := true) (v_eql rfl rfl) rfl) ?_)
              refine l_gt rfl rfl (OpTo.of_v (v_orT rfl rfl) ?_)
              refine l_v (v_andT rfl rfl) ?_
              refine l_v (v_assign (t := .pointer _) rfl) ?_
              refine l_v (v_assign (t := .pointer _) rfl) ?_
              refine l_v (v_assign (t := .bool _) rfl) ?_
              refine l_nil ?_
              refine n_then ?_
              refine c_ret ?_
              refine r_blk ?_
              refine r_then ?_
              refine ret3v rfl (by decide) (by decide) (by decide) (show _ = (Value.pointer _) from rfl) (show _ = (Value.pointer _) from rfl) (show _ = (Value.bool _) from rfl) ?_
              exact ⟨⟨bw, ms, lost, by simp, ⟨hne, hb0, hr0, ⟨a1, c1, HB1, HS1.mono fun i _ h => by omega⟩, ⟨_, _, HB2, HS2.mono fun i _ h => by omega⟩, hmay, hlen⟩, by omega⟩, E⟩
          · skip
            exact absurd hk (dfalse hk4)
end Go.Proofs.Ytaidpdjlchnonaa
