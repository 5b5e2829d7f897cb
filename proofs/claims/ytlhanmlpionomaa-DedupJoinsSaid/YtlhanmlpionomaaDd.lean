/- A part of the proof: steps and lemmas for the walks through the given program. -/
import Derived.Test.YtlhanmlpionomaaDc
namespace Go.Proofs.Ytlhanmlpionomaa
open Go.Vc
set_option linter.unusedVariables false
set_option linter.unusedSimpArgs false
set_option maxRecDepth 100000

theorem jpS_clients {S O : TbS} (okS : TbOk S) (okO : TbOk O) : jpS S O [1, 2, 3, 4] = joinS S O := by
  funext c
  unfold jpS joinS
  by_cases h : numS S c < numS O c
  · have h1 := numS_rng okS c
    obtain ⟨x, hx, _⟩ := some_of_num (S := O) (c := c) (by omega)
    have h3 := (okO c x hx).1
    have h5 : c = 1 ∨ c = 2 ∨ c = 3 ∨ c = 4 := by omega
    rw [if_pos ⟨by rcases h5 with rfl | rfl | rfl | rfl <;> simp, h⟩, if_pos h]
  · rw [if_neg (fun hh => h hh.2), if_neg h]
theorem clients_take {c : Nat} (h1 : 1 ≤ c) (h2 : c < 5) : ([1, 2, 3, 4] : List Int).take (c + 1 - 1) = ([1, 2, 3, 4] : List Int).take (c - 1) ++ [(c : Int)] := by
  have h4 : c = 1 ∨ c = 2 ∨ c = 3 ∨ c = 4 := by omega
  rcases h4 with rfl | rfl | rfl | rfl
  · rfl
  · rfl
  · rfl
  · rfl
set_option maxHeartbeats 16000000 in
theorem refJoin_c {w : World} {F G : Nat → Prop} {b bo : Nat} {cells cellso : List Value} {S O : TbS} (HB1 : Blk w b cells 48) (HT1 : RfC w F cells S) (HB2 : Blk w bo cellso 48) (HT2 : RfC w G cellso O) (okS : TbOk S) (okO : TbOk O) (hne : b ≠ bo) (hF : ∀ i, F i → i ≠ b) (hG : ∀ i, G i → i ≠ b) :
    CallsR Try.prog 39 #[.pointer (some ⟨b, 0, none⟩), .pointer (some ⟨bo, 0, none⟩)] w (fun o w' => (o = .tuple #[] ∧ ∃ cells', Blk w' b cells' 48 ∧ RfC w' (fun i => F i ∨ G i) cells' (joinS S O)) ∧ Keep (fun i => i = b) w w') := by
  obtain ⟨n0, hn0⟩ : ∃ n, n = w.heap.size := ⟨_, rfl⟩
  have zl1 := HB1.lt
  have zl2 := HB2.lt
  replace HT1 := HT1.mono (F' := fun i => (F i ∨ G i) ∧ i < n0) fun i hi h => ⟨.inl h, by omega⟩
  replace HT2 := HT2.mono (F' := fun i => G i ∧ i < n0) fun i hi h => ⟨h, by omega⟩
  have hFG : ∀ i, ((F i ∨ G i) ∧ i < n0) → i ≠ b := fun i h => h.1.elim (hF i) (hG i)
  refine enter 44 Try.func39 rfl rfl (by simp) ?_
  refine c_seq ?_
  have E := Keep.refl (K := fun i => i = b) w
  refine wp_reg (by decide +kernel) ?_
  refine l_v (v_assign rfl) ?_
  refine l_nil ?_
  refine n_then ?_
  refine c_block ?_
  refine c_loop (τ := Nat × List Value) [4, 5, 6, 7, 8, 9, 10, 11, 12, 13, 14, 15, 16, 17, 18, 19, 20, 21, 22, 23, 24, 25, 26, 27, 28, 29, 30, 31, 32, 33, 34, 35, 36, 37, 38, 39, 40, 41, 42, 43] (fun (c, cs) => [(4, .int .i64 c)]) (fun (c, cs) W => Keep (fun i => i = b) w W ∧ Keep (fun i => i = b) w W ∧ 1 ≤ c ∧ c ≤ 5 ∧ Blk W b cs 48 ∧ RfC W (fun i => (F i ∨ G i) ∧ i < n0) cs (jpS S O (([1, 2, 3, 4] : List Int).take (c - 1)))) (fun (c, cs) => 5 - c) (1, cells) (by exact ⟨rfl, trivial⟩) (by exact ⟨E, Keep.refl _, by decide, by decide, HB1, (by rw [show ([1, 2, 3, 4] : List Int).take (1 - 1) = [] from rfl, jpS_nil]; exact HT1)⟩) ?_
  rintro ⟨c, cs⟩ w101 j ⟨E, EL1, h1, h2, HB3, HT3⟩
  have zs_EL1 := EL1.size
  replace HB2 := HB2.keep EL1 (by intro h; have he0 := h; (try dsimp only at h); (try simp only [Value.ownBlock, Option.some.injEq] at h); first | omega | (have he := he0; first | (have := hFG _ hi; omega) | (have := hG _ hi.1; omega)))
  replace HT2 := HT2.keep EL1 (by intro i _ hi he; have he0 := he; (try dsimp only [NoK, AllB] at hi he); (try simp only [Value.ownBlock, Option.some.injEq] at he); first | exact hi.elim | exact he.elim | omega | (rcases hi with hi | hi <;> omega) | (rcases he with he | he <;> omega) | (first | (have := hFG _ hi; omega) | (have := hG _ hi.1; omega)))
  refine c_seq ?_
  refine c_seq ?_
  refine wp_reg (by decide +kernel) ?_
  refine l_v (v_move (t := .int _ _) rfl) ?_
  refine l_v (v_leq rfl rfl) ?_
  refine l_nil ?_
  refine n_then ?_
  refine c_cond rfl rfl (fun hlt => ?_) (fun hlt => ?_)
  · skip
    have hlt4 : c < 5 := by have := dtrue hlt; omega
    have HPn := HT3.pn HB3 (c := c) hlt4
    have HPo := HT2.pn HB2 (c := c) hlt4
    obtain ⟨a1, c1, a2, c2, HPa, HS1, HS2, hi9⟩ := HT2.pa HB2 (c := c) hlt4
    refine c_skip ?_
    refine n_then ?_
    refine c_seq ?_
    refine c_block ?_
    refine c_seq ?_
    refine wp_regd (NoK) (by kernel_rfl) (by decide +kernel) (by decide +kernel) ?_
    refine rt_v (fun vals w hR hd => v_move (t := .pointer _) rfl) ?_
    refine rt_v (fun vals w hR hd => v_move (t := .int _ _) rfl) ?_
    refine rt_v (fun vals w hR hd => v_nilCheck (hd 0 rfl)) ?_
    refine rt_v (fun vals w hR hd => v_fieldAddr (off := 0) (ft := 45) (by kernel_rfl) (hd 2 rfl)) ?_
    refine rt_v (fun vals w hR hd => v_arrAddr (et := 2) (n := 5) (sz := 1) (k := c) (by kernel_rfl) (hd 3 rfl) (hd 1 rfl) rfl (by omega)) ?_
    refine rt_v (fun vals w hR hd => v_load (by kernel_rfl) (hd 4 rfl) (by first | exact pv_1 (HPa.ext hR) | exact pv_1 (HPo.ext hR) | exact pv_1 (HPn.ext hR) | exact (HB3.ext hR).cell rfl | exact (HB2.ext hR).cell rfl | assumption)) ?_
    refine rt_v (fun vals w hR hd => v_move (t := .pointer _) rfl) ?_
    refine rt_v (fun vals w hR hd => v_move (t := .int _ _) rfl) ?_
    refine rt_v (fun vals w hR hd => v_nilCheck (hd 6 rfl)) ?_
    refine rt_v (fun vals w hR hd => v_fieldAddr (off := 0) (ft := 45) (by kernel_rfl) (hd 8 rfl)) ?_
    refine rt_v (fun vals w hR hd => v_arrAddr (et := 2) (n := 5) (sz := 1) (k := c) (by kernel_rfl) (hd 9 rfl) (hd 7 rfl) rfl (by omega)) ?_
    obtain ⟨jc1, jc2⟩ := jp_cond (S := S) (O := O) (l := ([1, 2, 3, 4] : List Int).take (c - 1)) (c := c)
    refine rt_v (fun vals w hR hd => v_load (by kernel_rfl) (hd 10 rfl) (by first | exact pv_1 (HPa.ext hR) | exact pv_1 (HPo.ext hR) | exact pv_1 (HPn.ext hR) | exact (HB3.ext hR).cell rfl | exact (HB2.ext hR).cell rfl | assumption)) ?_
    refine rt_v (fun vals w hR hd => v_gtr (hd 5 rfl) (hd 11 rfl)) ?_
    refine rt_nil (fun w102 e102 => ?_)
    rintro _ rfl _ rfl _ rfl _ rfl _ rfl _ rfl _ rfl _ rfl _ rfl _ rfl _ rfl _ rfl _ rfl
    have zs_e102 := e102.size
    replace E := E.trans (Ext.keep e102)
    replace HB2 := HB2.ext e102
    replace HT2 := HT2.ext e102
    replace HB3 := HB3.ext e102
    replace HT3 := HT3.ext e102
    replace EL1 := EL1.trans (Ext.keep e102)
    replace HPn := HPn.ext e102
    replace HPo := HPo.ext e102
    replace HPa := HPa.ext e102
    replace HS1 := HS1.ext e102
    replace HS2 := HS2.ext e102
    refine fin_nil ?_
    refine n_then ?_
    refine c_cond rfl rfl (fun hgt => ?_) (fun hgt => ?_)
    · skip
      have hgt := dtrue hgt
      have hlt := jc1 hgt
      have hlen := HT3.len
      obtain ⟨x9, hx9, hx9e⟩ := some_of_num (S := O) (c := c) (by have := numS_rng okS c; omega)
      by_cases hk1 : c = 1
      · skip
        subst hk1
        refine wp_any (by kernel_rfl) ?_
        have e103 : Ext w102 { w102 with drawn := w102.drawn + 1 } := Keep.drawn _ _
        generalize hw103 : ({ w102 with drawn := w102.drawn + 1 } : World) = w103 at e103 ⊢
        clear hw103
        have zs_e103 := e103.size
        replace E := E.trans (Ext.keep e103)
        replace HB2 := HB2.ext e103
        replace HT2 := HT2.ext e103
        replace HB3 := HB3.ext e103
        replace HT3 := HT3.ext e103
        replace EL1 := EL1.trans (Ext.keep e103)
        replace HPo := HPo.ext e103
        replace HPa := HPa.ext e103
        replace HS1 := HS1.ext e103
        replace HS2 := HS2.ext e103
        refine r_cut 23 rfl (by decide +kernel) (by decide +kernel) (by decide +kernel) ?_
        refine wp_regJW (fun k => k = b) (StJ b _ _ [(19, 1, some 9, (undef : Value))]) (by decide +kernel) (by decide +kernel) (fun vals done hd => StJ.start HB3 (fun a ha => hd a.1 (st_lt (n := 23) rfl a ha))) ?_
        refine rj_vJ (fun done vals w hR hcl hdk hJ hdn hd => v_move (t := .pointer _) rfl) (fun done vals w hdk hJ => hJ.src (Keep.refl _) hdk rfl) ?_
        refine rj_vJ (fun done vals w hR hcl hdk hJ hdn hd => v_move (t := .int _ _) rfl) (fun done vals w hdk hJ => hJ.src (Keep.refl _) hdk rfl) ?_
        refine rj_vJ (fun done vals w hR hcl hdk hJ hdn hd => v_move (t := .pointer _) rfl) (fun done vals w hdk hJ => hJ.src (Keep.refl _) hdk rfl) ?_
        refine rj_vJ (fun done vals w hR hcl hdk hJ hdn hd => v_move (t := .int _ _) rfl) (fun done vals w hdk hJ => hJ.src (Keep.refl _) hdk rfl) ?_
        refine rj_vJ (fun done vals w hR hcl hdk hJ hdn hd => v_move (t := .pointer _) rfl) (fun done vals w hdk hJ => hJ.src (Keep.refl _) hdk rfl) ?_
        refine rj_vJ (fun done vals w hR hcl hdk hJ hdn hd => v_move (t := .int _ _) rfl) (fun done vals w hdk hJ => hJ.src (Keep.refl _) hdk rfl) ?_
        refine rj_vJ (fun done vals w hR hcl hdk hJ hdn hd => v_nilCheck (hd 4 rfl)) (fun done vals w hdk hJ => hJ.src (Keep.refl _) hdk rfl) ?_
        refine rj_vJ (fun done vals w hR hcl hdk hJ hdn hd => v_fieldAddr (off := 0) (ft := 45) (by kernel_rfl) (hd 6 rfl)) (fun done vals w hdk hJ => hJ.src (Keep.refl _) hdk rfl) ?_
        refine rj_vJ (fun done vals w hR hcl hdk hJ hdn hd => v_arrAddr (et := 2) (n := 5) (sz := 1) (k := 1) (by kernel_rfl) (hd 7 rfl) (hd 5 rfl) rfl (by decide)) (fun done vals w hdk hJ => hJ.src (Keep.refl _) hdk rfl) ?_
        refine rj_vJ (fun done vals w hR hcl hdk hJ hdn hd => v_load (by kernel_rfl) (hd 8 rfl) (by first | exact (HPa.keep hR (by intro h; have he0 := h; (try dsimp only at h); (try simp only [Value.ownBlock, Option.some.injEq] at h); (try simp only [add_block] at h); (try simp only [add_block] at he0); first | omega | (have he := he0; first | (have := hFG _ hi; omega) | (have := hG _ hi.1; omega)))) 1 _ rfl | exact pv_1 (HPa.keep hR (by intro h; have he0 := h; (try dsimp only at h); (try simp only [Value.ownBlock, Option.some.injEq] at h); (try simp only [add_block] at h); (try simp only [add_block] at he0); first | omega | (have he := he0; first | (have := hFG _ hi; omega) | (have := hG _ hi.1; omega)))) | exact (HPo.keep hR (by intro h; have he0 := h; (try dsimp only at h); (try simp only [Value.ownBlock, Option.some.injEq] at h); (try simp only [add_block] at h); (try simp only [add_block] at he0); first | omega | (have he := he0; first | (have := hFG _ hi; omega) | (have := hG _ hi.1; omega)))) 1 _ rfl | exact pv_1 (HPo.keep hR (by intro h; have he0 := h; (try dsimp only at h); (try simp only [Value.ownBlock, Option.some.injEq] at h); (try simp only [add_block] at h); (try simp only [add_block] at he0); first | omega | (have he := he0; first | (have := hFG _ hi; omega) | (have := hG _ hi.1; omega)))) | exact (hJ.at0 hcl hdk ⟨_, _, rfl, rfl, by decide⟩).pv 1 _ rfl | exact (HB2.keep hR (by intro h; have he0 := h; (try dsimp only at h); (try simp only [Value.ownBlock, Option.some.injEq] at h); first | omega | (have he := he0; first | (have := hFG _ hi; omega) | (have := hG _ hi.1; omega)))).pv 1 _ rfl | assumption)) (fun done vals w hdk hJ => hJ.src (Keep.refl _) hdk rfl) ?_
        refine rj_vJ (fun done vals w hR hcl hdk hJ hdn hd => v_move (t := .pointer _) rfl) (fun done vals w hdk hJ => hJ.src (Keep.refl _) hdk rfl) ?_
        refine rj_vJ (fun done vals w hR hcl hdk hJ hdn hd => v_move (t := .int _ _) rfl) (fun done vals w hdk hJ => hJ.src (Keep.refl _) hdk rfl) ?_
        refine rj_vJ (fun done vals w hR hcl hdk hJ hdn hd => v_nilCheck (hd 10 rfl)) (fun done vals w hdk hJ => hJ.src (Keep.refl _) hdk rfl) ?_
        refine rj_vJ (fun done vals w hR hcl hdk hJ hdn hd => v_fieldAddr (off := 5) (ft := 46) (by kernel_rfl) (hd 12 rfl)) (fun done vals w hdk hJ => hJ.src (Keep.refl _) hdk rfl) ?_
        refine rj_vJ (fun done vals w hR hcl hdk hJ hdn hd => v_arrAddr (et := 33) (n := 5) (sz := 3) (k := 1) (by kernel_rfl) (hd 13 rfl) (hd 11 rfl) rfl (by decide)) (fun done vals w hdk hJ => hJ.src (Keep.refl _) hdk rfl) ?_
        refine rj_vJ (fun done vals w hR hcl hdk hJ hdn hd => v_loadA (by kernel_rfl) (hd 14 rfl) (by first | exact (show Pv _ _ [_, _, _] from pv_sub 3 3 (HPa.keep hR (by intro h; have he0 := h; (try dsimp only at h); (try simp only [Value.ownBlock, Option.some.injEq] at h); (try simp only [add_block] at h); (try simp only [add_block] at he0); first | omega | (have he := he0; first | (have := hFG _ hi; omega) | (have := hG _ hi.1; omega))))) | exact (show Pv _ _ [_, _, _] from pv_sub 3 3 (HPo.keep hR (by intro h; have he0 := h; (try dsimp only at h); (try simp only [Value.ownBlock, Option.some.injEq] at h); (try simp only [add_block] at h); (try simp only [add_block] at he0); first | omega | (have he := he0; first | (have := hFG _ hi; omega) | (have := hG _ hi.1; omega))))) | exact (show Pv _ _ [_, _, _] from pv_sub 3 3 (HB3.keep hR (by intro h; have he0 := h; (try dsimp only at h); (try simp only [Value.ownBlock, Option.some.injEq] at h); first | omega | (have he := he0; first | (have := hFG _ hi; omega) | (have := hG _ hi.1; omega)))).pv) | exact (show Pv _ _ [_, _, _] from pv_sub 3 3 (HB2.keep hR (by intro h; have he0 := h; (try dsimp only at h); (try simp only [Value.ownBlock, Option.some.injEq] at h); first | omega | (have he := he0; first | (have := hFG _ hi; omega) | (have := hG _ hi.1; omega)))).pv) | exact pv_at 3 (HPa.keep hR (by intro h; have he0 := h; (try dsimp only at h); (try simp only [Value.ownBlock, Option.some.injEq] at h); (try simp only [add_block] at h); (try simp only [add_block] at he0); first | omega | (have he := he0; first | (have := hFG _ hi; omega) | (have := hG _ hi.1; omega)))) | exact pv_at 3 (HPo.keep hR (by intro h; have he0 := h; (try dsimp only at h); (try simp only [Value.ownBlock, Option.some.injEq] at h); (try simp only [add_block] at h); (try simp only [add_block] at he0); first | omega | (have he := he0; first | (have := hFG _ hi; omega) | (have := hG _ hi.1; omega)))) | exact pv_at 3 (HB3.keep hR (by intro h; have he0 := h; (try dsimp only at h); (try simp only [Value.ownBlock, Option.some.injEq] at h); first | omega | (have he := he0; first | (have := hFG _ hi; omega) | (have := hG _ hi.1; omega)))).pv | exact pv_at 3 (HB2.keep hR (by intro h; have he0 := h; (try dsimp only at h); (try simp only [Value.ownBlock, Option.some.injEq] at h); first | omega | (have he := he0; first | (have := hFG _ hi; omega) | (have := hG _ hi.1; omega)))).pv | exact (HPa.keep hR (by intro h; have he0 := h; (try dsimp only at h); (try simp only [Value.ownBlock, Option.some.injEq] at h); (try simp only [add_block] at h); (try simp only [add_block] at he0); first | omega | (have he := he0; first | (have := hFG _ hi; omega) | (have := hG _ hi.1; omega)))) | exact (HPo.keep hR (by intro h; have he0 := h; (try dsimp only at h); (try simp only [Value.ownBlock, Option.some.injEq] at h); (try simp only [add_block] at h); (try simp only [add_block] at he0); first | omega | (have he := he0; first | (have := hFG _ hi; omega) | (have := hG _ hi.1; omega)))) | assumption) rfl) (fun done vals w hdk hJ => hJ.src (Keep.refl _) hdk rfl) ?_
        refine rj_vJ (fun done vals w hR hcl hdk hJ hdn hd => v_nilCheck (hd 0 rfl)) (fun done vals w hdk hJ => hJ.src (Keep.refl _) hdk rfl) ?_
        refine rj_vJ (fun done vals w hR hcl hdk hJ hdn hd => v_fieldAddr (off := 0) (ft := 45) (by kernel_rfl) (hd 16 rfl)) (fun done vals w hdk hJ => hJ.src (Keep.refl _) hdk rfl) ?_
        refine rj_vJ (fun done vals w hR hcl hdk hJ hdn hd => v_arrAddr (et := 2) (n := 5) (sz := 1) (k := 1) (by kernel_rfl) (hd 17 rfl) (hd 1 rfl) rfl (by decide)) (fun done vals w hdk hJ => hJ.src (Keep.refl _) hdk rfl) ?_
        refine rj_d (fun done vals w hR hcl hdk hJ hdn hd => to_store (hd 18 rfl) rfl rfl (by first | exact SlV.one (hd 9 rfl) | exact SlV.one (hd 9 rfl).1 | exact OwV.one (hd 9 rfl) | exact OwV.one (hd 9 rfl).1 | (have h := hd 9 rfl; dsimp only [setS] at h; rw [h]; rfl) | exact (hd 9 rfl).1 | (obtain ⟨_, h⟩ := hd 9 rfl; rw [h]; rfl) | exact (congrArg Value.oneCell' (hd 9 rfl)).trans rfl) (by kernel_rfl) (hJ.at (n := 0) rfl hdk (fun m h => by cases h)) (by rw [conts_len]; first | exact of_decide_eq_true rfl | (rw [hlen]; exact of_decide_eq_true rfl)) (fun w1 hB k z => ⟨k, hJ.step (n := 0) rfl hdk (fun m h => by cases h) (fun k h => by cases h; exact hdn 9 rfl) (once_st rfl) rfl hB⟩)) ?_
        refine rj_vJ (fun done vals w hR hcl hdk hJ hdn hd => v_nilCheck (hd 2 rfl)) (fun done vals w hdk hJ => hJ.src (Keep.refl _) hdk rfl) ?_
        refine rj_vJ (fun done vals w hR hcl hdk hJ hdn hd => v_fieldAddr (off := 5) (ft := 46) (by kernel_rfl) (hd 20 rfl)) (fun done vals w hdk hJ => hJ.src (Keep.refl _) hdk rfl) ?_
        refine rj_vJ (fun done vals w hR hcl hdk hJ hdn hd => v_arrAddr (et := 33) (n := 5) (sz := 3) (k := 1) (by kernel_rfl) (hd 21 rfl) (hd 3 rfl) rfl (by decide)) (fun done vals w hdk hJ => hJ.src (Keep.refl _) hdk rfl) ?_
        refine rj_nil (fun vals w104 k104 J104 => ?_)
        rintro _ - rfl _ - rfl _ - rfl _ - rfl _ - rfl _ - rfl _ - rfl _ - rfl _ - rfl _ qs9 rfl _ - rfl _ - rfl _ - rfl _ - rfl _ - rfl _ - rfl _ - rfl _ - rfl _ - rfl _ - - _ - rfl _ - rfl _ - rfl
        have zs_k104 := k104.size
        have HX104 := J104.fin
        simp only [conts, sv, ← qs9] at HX104
        replace E := E.step k104 (by intro i hi he; have he0 := he; (try dsimp only [NoK] at hi he ⊢); (try simp only [Value.ownBlock, Option.some.injEq] at he); first | exact he.elim | omega | exact he | (first | (have := hFG _ hi; omega) | (have := hG _ hi.1; omega)))
        replace HB2 := HB2.keep k104 (by intro h; have he0 := h; (try dsimp only at h); (try simp only [Value.ownBlock, Option.some.injEq] at h); first | omega | (have he := he0; first | (have := hFG _ hi; omega) | (have := hG _ hi.1; omega)))
        replace HT2 := HT2.keep k104 (by intro i _ hi he; have he0 := he; (try dsimp only [NoK, AllB] at hi he); (try simp only [Value.ownBlock, Option.some.injEq] at he); first | exact hi.elim | exact he.elim | omega | (rcases hi with hi | hi <;> omega) | (rcases he with he | he <;> omega) | (first | (have := hFG _ hi; omega) | (have := hG _ hi.1; omega)))
        replace HT3 := HT3.keep k104 (by intro i _ hi he; have he0 := he; (try dsimp only [NoK, AllB] at hi he); (try simp only [Value.ownBlock, Option.some.injEq] at he); first | exact hi.elim | exact he.elim | omega | (rcases hi with hi | hi <;> omega) | (rcases he with he | he <;> omega) | (first | (have := hFG _ hi; omega) | (have := hG _ hi.1; omega)))
        replace EL1 := EL1.step k104 (by intro i hi he; have he0 := he; (try dsimp only [NoK] at hi he ⊢); (try simp only [Value.ownBlock, Option.some.injEq] at he); first | exact he.elim | omega | exact he | (first | (have := hFG _ hi; omega) | (have := hG _ hi.1; omega)))
        replace HPo := HPo.keep k104 (by intro h; have he0 := h; (try dsimp only at h); (try simp only [Value.ownBlock, Option.some.injEq] at h); (try simp only [add_block] at h); (try simp only [add_block] at he0); first | omega | (have he := he0; first | (have := hFG _ hi; omega) | (have := hG _ hi.1; omega)))
        replace HPa := HPa.keep k104 (by intro h; have he0 := h; (try dsimp only at h); (try simp only [Value.ownBlock, Option.some.injEq] at h); (try simp only [add_block] at h); (try simp only [add_block] at he0); first | omega | (have he := he0; first | (have := hFG _ hi; omega) | (have := hG _ hi.1; omega)))
        replace HS1 := HS1.keep k104 (by intro i _ hi he; have he0 := he; (try dsimp only [NoK, AllB] at hi he); (try simp only [Value.ownBlock, Option.some.injEq] at he); first | exact hi.elim | exact he.elim | omega | (rcases hi with hi | hi <;> omega) | (rcases he with he | he <;> omega) | (first | (have := hFG _ hi; omega) | (have := hG _ hi.1; omega)))
        replace HS2 := HS2.keep k104 (by intro i _ hi he; have he0 := he; (try dsimp only [NoK, AllB] at hi he); (try simp only [Value.ownBlock, Option.some.injEq] at he); first | exact hi.elim | exact he.elim | omega | (rcases hi with hi | hi <;> omega) | (rcases he with he | he <;> omega) | (first | (have := hFG _ hi; omega) | (have := hG _ hi.1; omega)))
        replace HB3 := HX104
        clear HX104
        try simp only [List.set_cons_zero, List.set_cons_succ, setAt, List.take_zero, List.take_succ_cons, List.drop_zero, List.drop_succ_cons, List.nil_append, List.cons_append, List.append_nil, List.length_cons, List.length_nil, Nat.zero_add, Nat.reduceAdd, List.drop_nil] at HB3
        refine fin_nilJ ?_
        refine n_then ?_
        refine r_one (by decide +kernel) rfl ?_
        refine l_to (to_storeA (n := 3) rfl rfl (show _ = (Value.agg _) from rfl) (by kernel_rfl) rfl (by first | (simp [slice_one]; done) | (simp only [List.forall_mem_cons, List.cons_append, List.nil_append]; repeat' (first | exact rfl | apply And.intro | (intro u hu; cases hu; done)))) HB3 (by first | exact of_decide_eq_true rfl | (simp; done) | decide | (simp only [List.length_set, hlen]; exact of_decide_eq_true rfl)) ?_)
        rintro w105 HX105 k105 z105
        have zs_k105 := k105.size
        try simp only [add_block] at k105
        try simp only [add_block] at HX105
        replace E := E.step k105 (by intro i hi he; have he0 := he; (try dsimp only [NoK] at hi he ⊢); (try simp only [Value.ownBlock, Option.some.injEq] at he); first | exact he.elim | omega | exact he | (first | (have := hFG _ hi; omega) | (have := hG _ hi.1; omega)))
        replace HB2 := HB2.keep k105 (by intro h; have he0 := h; (try dsimp only at h); (try simp only [Value.ownBlock, Option.some.injEq] at h); first | omega | (have he := he0; first | (have := hFG _ hi; omega) | (have := hG _ hi.1; omega)))
        replace HT2 := HT2.keep k105 (by intro i _ hi he; have he0 := he; (try dsimp only [NoK, AllB] at hi he); (try simp only [Value.ownBlock, Option.some.injEq] at he); first | exact hi.elim | exact he.elim | omega | (rcases hi with hi | hi <;> omega) | (rcases he with he | he <;> omega) | (first | (have := hFG _ hi; omega) | (have := hG _ hi.1; omega)))
        replace HT3 := HT3.keep k105 (by intro i _ hi he; have he0 := he; (try dsimp only [NoK, AllB] at hi he); (try simp only [Value.ownBlock, Option.some.injEq] at he); first | exact hi.elim | exact he.elim | omega | (rcases hi with hi | hi <;> omega) | (rcases he with he | he <;> omega) | (first | (have := hFG _ hi; omega) | (have := hG _ hi.1; omega)))
        replace EL1 := EL1.step k105 (by intro i hi he; have he0 := he; (try dsimp only [NoK] at hi he ⊢); (try simp only [Value.ownBlock, Option.some.injEq] at he); first | exact he.elim | omega | exact he | (first | (have := hFG _ hi; omega) | (have := hG _ hi.1; omega)))
        replace HPo := HPo.keep k105 (by intro h; have he0 := h; (try dsimp only at h); (try simp only [Value.ownBlock, Option.some.injEq] at h); (try simp only [add_block] at h); (try simp only [add_block] at he0); first | omega | (have he := he0; first | (have := hFG _ hi; omega) | (have := hG _ hi.1; omega)))
        replace HPa := HPa.keep k105 (by intro h; have he0 := h; (try dsimp only at h); (try simp only [Value.ownBlock, Option.some.injEq] at h); (try simp only [add_block] at h); (try simp only [add_block] at he0); first | omega | (have he := he0; first | (have := hFG _ hi; omega) | (have := hG _ hi.1; omega)))
        replace HS1 := HS1.keep k105 (by intro i _ hi he; have he0 := he; (try dsimp only [NoK, AllB] at hi he); (try simp only [Value.ownBlock, Option.some.injEq] at he); first | exact hi.elim | exact he.elim | omega | (rcases hi with hi | hi <;> omega) | (rcases he with he | he <;> omega) | (first | (have := hFG _ hi; omega) | (have := hG _ hi.1; omega)))
        replace HS2 := HS2.keep k105 (by intro i _ hi he; have he0 := he; (try dsimp only [NoK, AllB] at hi he); (try simp only [Value.ownBlock, Option.some.injEq] at he); first | exact hi.elim | exact he.elim | omega | (rcases hi with hi | hi <;> omega) | (rcases he with he | he <;> omega) | (first | (have := hFG _ hi; omega) | (have := hG _ hi.1; omega)))
        replace HB3 := HX105
        clear HX105
        try simp only [List.set_cons_zero, List.set_cons_succ, setAt, List.take_zero, List.take_succ_cons, List.drop_zero, List.drop_succ_cons, List.nil_append, List.cons_append, List.append_nil, List.length_cons, List.length_nil, Nat.zero_add, Nat.reduceAdd, List.drop_nil] at HB3
        refine l_nil ?_
        refine n_blk ?_
        refine n_then ?_
        refine wp_reg (by decide +kernel) ?_
        refine l_v (v_move (t := .int _ _) rfl) ?_
        refine l_v (v_add rfl rfl (by first | exact wr_i64 (by omega) (by omega) | rfl)) ?_
        refine l_v (v_assign (t := .int _ _) rfl) ?_
        refine l_nil ?_
        refine n_then ?_
        obtain ⟨cs2, HB4, HT4⟩ : ∃ l, Blk w105 b l 48 ∧ RfC w105 (fun i => (F i ∨ G i) ∧ i < n0) l (updS (jpS S O (([1, 2, 3, 4] : List Int).take (1 - 1))) (1 : Nat) (numS O (1 : Nat), ansS O (1 : Nat))) := ⟨_, HB3, HT3.put (c := 1) (by decide) (tAn_mk (HS1.mono fun i _ h => ⟨.inr h.1, h.2⟩) (HS2.mono fun i _ h => ⟨.inr h.1, h.2⟩) hi9)⟩
        refine ⟨(1 + 1, cs2), _, rfl, by (repeat (first | exact Off.of_over _ _ _ | refine Off.upd ?_ (by decide) _ | refine Off.overs ?_ (by decide) _)), ⟨by first | rfl | exact congrArg (Value.int _) (by omega) | (simp; done), trivial⟩, ⟨E, EL1, ?_⟩, ?_⟩
        · skip
          refine ⟨by omega, by omega, HB4, ?_⟩
          rw [show ([1, 2, 3, 4] : List Int).take (1 + 1 - 1) = ([1, 2, 3, 4] : List Int).take (1 - 1) ++ [((1 : Nat) : Int)] from rfl, jpS_yes hlt (hx9.trans (congrArg some hx9e))]
          exact HT4
        · (dsimp only; omega)
      · skip
        by_cases hk2 : c = 2
        · skip
          subst hk2
          refine wp_any (by kernel_rfl) ?_
          have e106 : Ext w102 { w102 with drawn := w102.drawn + 1 } := Keep.drawn _ _
          generalize hw106 : ({ w102 with drawn := w102.drawn + 1 } : World) = w106 at e106 ⊢
          clear hw106
          have zs_e106 := e106.size
          replace E := E.trans (Ext.keep e106)
          replace HB2 := HB2.ext e106
          replace HT2 := HT2.ext e106
          replace HB3 := HB3.ext e106
          replace HT3 := HT3.ext e106
          replace EL1 := EL1.trans (Ext.keep e106)
          replace HPo := HPo.ext e106
          replace HPa := HPa.ext e106
          replace HS1 := HS1.ext e106
          replace HS2 := HS2.ext e106
          refine r_cut 23 rfl (by decide +kernel) (by decide +kernel) (by decide +kernel) ?_
          refine wp_regJW (fun k => k = b) (StJ b _ _ [(19, 2, some 9, (undef : Value))]) (by decide +kernel) (by decide +kernel) (fun vals done hd => StJ.start HB3 (fun a ha => hd a.1 (st_lt (n := 23) rfl a ha))) ?_
          refine rj_vJ (fun done vals w hR hcl hdk hJ hdn hd => v_move (t := .pointer _) rfl) (fun done vals w hdk hJ => hJ.src (Keep.refl _) hdk rfl) ?_
          refine rj_vJ (fun done vals w hR hcl hdk hJ hdn hd => v_move (t := .int _ _) rfl) (fun done vals w hdk hJ => hJ.src (Keep.refl _) hdk rfl) ?_
          refine rj_vJ (fun done vals w hR hcl hdk hJ hdn hd => v_move (t := .pointer _) rfl) (fun done vals w hdk hJ => hJ.src (Keep.refl _) hdk rfl) ?_
          refine rj_vJ (fun done vals w hR hcl hdk hJ hdn hd => v_move (t := .int _ _) rfl) (fun done vals w hdk hJ => hJ.src (Keep.refl _) hdk rfl) ?_
          refine rj_vJ (fun done vals w hR hcl hdk hJ hdn hd => v_move (t := .pointer _) rfl) (fun done vals w hdk hJ => hJ.src (Keep.refl _) hdk rfl) ?_
          refine rj_vJ (fun done vals w hR hcl hdk hJ hdn hd => v_move (t := .int _ _) rfl) (fun done vals w hdk hJ => hJ.src (Keep.refl _) hdk rfl) ?_
          refine rj_vJ (fun done vals w hR hcl hdk hJ hdn hd => v_nilCheck (hd 4 rfl)) (fun done vals w hdk hJ => hJ.src (Keep.refl _) hdk rfl) ?_
          refine rj_vJ (fun done vals w hR hcl hdk hJ hdn hd => v_fieldAddr (off := 0) (ft := 45) (by kernel_rfl) (hd 6 rfl)) (fun done vals w hdk hJ => hJ.src (Keep.refl _) hdk rfl) ?_
          refine rj_vJ (fun done vals w hR hcl hdk hJ hdn hd => v_arrAddr (et := 2) (n := 5) (sz := 1) (k := 2) (by kernel_rfl) (hd 7 rfl) (hd 5 rfl) rfl (by decide)) (fun done vals w hdk hJ => hJ.src (Keep.refl _) hdk rfl) ?_
          refine rj_vJ (fun done vals w hR hcl hdk hJ hdn hd => v_load (by kernel_rfl) (hd 8 rfl) (by first | exact (HPa.keep hR (by intro h; have he0 := h; (try dsimp only at h); (try simp only [Value.ownBlock, Option.some.injEq] at h); (try simp only [add_block] at h); (try simp only [add_block] at he0); first | omega | (have he := he0; first | (have := hFG _ hi; omega) | (have := hG _ hi.1; omega)))) 2 _ rfl | exact pv_1 (HPa.keep hR (by intro h; have he0 := h; (try dsimp only at h); (try simp only [Value.ownBlock, Option.some.injEq] at h); (try simp only [add_block] at h); (try simp only [add_block] at he0); first | omega | (have he := he0; first | (have := hFG _ hi; omega) | (have := hG _ hi.1; omega)))) | exact (HPo.keep hR (by intro h; have he0 := h; (try dsimp only at h); (try simp only [Value.ownBlock, Option.some.injEq] at h); (try simp only [add_block] at h); (try simp only [add_block] at he0); first | omega | (have he := he0; first | (have := hFG _ hi; omega) | (have := hG _ hi.1; omega)))) 2 _ rfl | exact pv_1 (HPo.keep hR (by intro h; have he0 := h; (try dsimp only at h); (try simp only [Value.ownBlock, Option.some.injEq] at h); (try simp only [add_block] at h); (try simp only [add_block] at he0); first | omega | (have he := he0; first | (have := hFG _ hi; omega) | (have := hG _ hi.1; omega)))) | exact (hJ.at0 hcl hdk ⟨_, _, rfl, rfl, by decide⟩).pv 2 _ rfl | exact (HB2.keep hR (by intro h; have he0 := h; (try dsimp only at h); (try simp only [Value.ownBlock, Option.some.injEq] at h); first | omega | (have he := he0; first | (have := hFG _ hi; omega) | (have := hG _ hi.1; omega)))).pv 2 _ rfl | assumption)) (fun done vals w hdk hJ => hJ.src (Keep.refl _) hdk rfl) ?_
          refine rj_vJ (fun done vals w hR hcl hdk hJ hdn hd => v_move (t := .pointer _) rfl) (fun done vals w hdk hJ => hJ.src (Keep.refl _) hdk rfl) ?_
          refine rj_vJ (fun done vals w hR hcl hdk hJ hdn hd => v_move (t := .int _ _) rfl) (fun done vals w hdk hJ => hJ.src (Keep.refl _) hdk rfl) ?_
          refine rj_vJ (fun done vals w hR hcl hdk hJ hdn hd => v_nilCheck (hd 10 rfl)) (fun done vals w hdk hJ => hJ.src (Keep.refl _) hdk rfl) ?_
          refine rj_vJ (fun done vals w hR hcl hdk hJ hdn hd => v_fieldAddr (off := 5) (ft := 46) (by kernel_rfl) (hd 12 rfl)) (fun done vals w hdk hJ => hJ.src (Keep.refl _) hdk rfl) ?_
          refine rj_vJ (fun done vals w hR hcl hdk hJ hdn hd => v_arrAddr (et := 33) (n := 5) (sz := 3) (k := 2) (by kernel_rfl) (hd 13 rfl) (hd 11 rfl) rfl (by decide)) (fun done vals w hdk hJ => hJ.src (Keep.refl _) hdk rfl) ?_
          refine rj_vJ (fun done vals w hR hcl hdk hJ hdn hd => v_loadA (by kernel_rfl) (hd 14 rfl) (by first | exact (show Pv _ _ [_, _, _] from pv_sub 6 3 (HPa.keep hR (by intro h; have he0 := h; (try dsimp only at h); (try simp only [Value.ownBlock, Option.some.injEq] at h); (try simp only [add_block] at h); (try simp only [add_block] at he0); first | omega | (have he := he0; first | (have := hFG _ hi; omega) | (have := hG _ hi.1; omega))))) | exact (show Pv _ _ [_, _, _] from pv_sub 6 3 (HPo.keep hR (by intro h; have he0 := h; (try dsimp only at h); (try simp only [Value.ownBlock, Option.some.injEq] at h); (try simp only [add_block] at h); (try simp only [add_block] at he0); first | omega | (have he := he0; first | (have := hFG _ hi; omega) | (have := hG _ hi.1; omega))))) | exact (show Pv _ _ [_, _, _] from pv_sub 6 3 (HB3.keep hR (by intro h; have he0 := h; (try dsimp only at h); (try simp only [Value.ownBlock, Option.some.injEq] at h); first | omega | (have he := he0; first | (have := hFG _ hi; omega) | (have := hG _ hi.1; omega)))).pv) | exact (show Pv _ _ [_, _, _] from pv_sub 6 3 (HB2.keep hR (by intro h; have he0 := h; (try dsimp only at h); (try simp only [Value.ownBlock, Option.some.injEq] at h); first | omega | (have he := he0; first | (have := hFG _ hi; omega) | (have := hG _ hi.1; omega)))).pv) | exact pv_at 6 (HPa.keep hR (by intro h; have he0 := h; (try dsimp only at h); (try simp only [Value.ownBlock, Option.some.injEq] at h); (try simp only [add_block] at h); (try simp only [add_block] at he0); first | omega | (have he := he0; first | (have := hFG _ hi; omega) | (have := hG _ hi.1; omega)))) | exact pv_at 6 (HPo.keep hR (by intro h; have he0 := h; (try dsimp only at h); (try simp only [Value.ownBlock, Option.some.injEq] at h); (try simp only [add_block] at h); (try simp only [add_block] at he0); first | omega | (have he := he0; first | (have := hFG _ hi; omega) | (have := hG _ hi.1; omega)))) | exact pv_at 6 (HB3.keep hR (by intro h; have he0 := h; (try dsimp only at h); (try simp only [Value.ownBlock, Option.some.injEq] at h); first | omega | (have he := he0; first | (have := hFG _ hi; omega) | (have := hG _ hi.1; omega)))).pv | exact pv_at 6 (HB2.keep hR (by intro h; have he0 := h; (try dsimp only at h); (try simp only [Value.ownBlock, Option.some.injEq] at h); first | omega | (have he := he0; first | (have := hFG _ hi; omega) | (have := hG _ hi.1; omega)))).pv | exact (HPa.keep hR (by intro h; have he0 := h; (try dsimp only at h); (try simp only [Value.ownBlock, Option.some.injEq] at h); (try simp only [add_block] at h); (try simp only [add_block] at he0); first | omega | (have he := he0; first | (have := hFG _ hi; omega) | (have := hG _ hi.1; omega)))) | exact (HPo.keep hR (by intro h; have he0 := h; (try dsimp only at h); (try simp only [Value.ownBlock, Option.some.injEq] at h); (try simp only [add_block] at h); (try simp only [add_block] at he0); first | omega | (have he := he0; first | (have := hFG _ hi; omega) | (have := hG _ hi.1; omega)))) | assumption) rfl) (fun done vals w hdk hJ => hJ.src (Keep.refl _) hdk rfl) ?_
          refine rj_vJ (fun done vals w hR hcl hdk hJ hdn hd => v_nilCheck (hd 0 rfl)) (fun done vals w hdk hJ => hJ.src (Keep.refl _) hdk rfl) ?_
          refine rj_vJ (fun done vals w hR hcl hdk hJ hdn hd => v_fieldAddr (off := 0) (ft := 45) (by kernel_rfl) (hd 16 rfl)) (fun done vals w hdk hJ => hJ.src (Keep.refl _) hdk rfl) ?_
          refine rj_vJ (fun done vals w hR hcl hdk hJ hdn hd => v_arrAddr (et := 2) (n := 5) (sz := 1) (k := 2) (by kernel_rfl) (hd 17 rfl) (hd 1 rfl) rfl (by decide)) (fun done vals w hdk hJ => hJ.src (Keep.refl _) hdk rfl) ?_
          refine rj_d (fun done vals w hR hcl hdk hJ hdn hd => to_store (hd 18 rfl) rfl rfl (by first | exact SlV.one (hd 9 rfl) | exact SlV.one (hd 9 rfl).1 | exact OwV.one (hd 9 rfl) | exact OwV.one (hd 9 rfl).1 | (have h := hd 9 rfl; dsimp only [setS] at h; rw [h]; rfl) | exact (hd 9 rfl).1 | (obtain ⟨_, h⟩ := hd 9 rfl; rw [h]; rfl) | exact (congrArg Value.oneCell' (hd 9 rfl)).trans rfl) (by kernel_rfl) (hJ.at (n := 0) rfl hdk (fun m h => by cases h)) (by rw [conts_len]; first | exact of_decide_eq_true rfl | (rw [hlen]; exact of_decide_eq_true rfl)) (fun w1 hB k z => ⟨k, hJ.step (n := 0) rfl hdk (fun m h => by cases h) (fun k h => by cases h; exact hdn 9 rfl) (once_st rfl) rfl hB⟩)) ?_
          refine rj_vJ (fun done vals w hR hcl hdk hJ hdn hd => v_nilCheck (hd 2 rfl)) (fun done vals w hdk hJ => hJ.src (Keep.refl _) hdk rfl) ?_
          refine rj_vJ (fun done vals w hR hcl hdk hJ hdn hd => v_fieldAddr (off := 5) (ft := 46) (by kernel_rfl) (hd 20 rfl)) (fun done vals w hdk hJ => hJ.src (Keep.refl _) hdk rfl) ?_
          refine rj_vJ (fun done vals w hR hcl hdk hJ hdn hd => v_arrAddr (et := 33) (n := 5) (sz := 3) (k := 2) (by kernel_rfl) (hd 21 rfl) (hd 3 rfl) rfl (by decide)) (fun done vals w hdk hJ => hJ.src (Keep.refl _) hdk rfl) ?_
          refine rj_nil (fun vals w107 k107 J107 => ?_)
          rintro _ - rfl _ - rfl _ - rfl _ - rfl _ - rfl _ - rfl _ - rfl _ - rfl _ - rfl _ qs9 rfl _ - rfl _ - rfl _ - rfl _ - rfl _ - rfl _ - rfl _ - rfl _ - rfl _ - rfl _ - - _ - rfl _ - rfl _ - rfl
          have zs_k107 := k107.size
          have HX107 := J107.fin
          simp only [conts, sv, ← qs9] at HX107
          replace E := E.step k107 (by intro i hi he; have he0 := he; (try dsimp only [NoK] at hi he ⊢); (try simp only [Value.ownBlock, Option.some.injEq] at he); first | exact he.elim | omega | exact he | (first | (have := hFG _ hi; omega) | (have := hG _ hi.1; omega)))
          replace HB2 := HB2.keep k107 (by intro h; have he0 := h; (try dsimp only at h); (try simp only [Value.ownBlock, Option.some.injEq] at h); first | omega | (have he := he0; first | (have := hFG _ hi; omega) | (have := hG _ hi.1; omega)))
          replace HT2 := HT2.keep k107 (by intro i _ hi he; have he0 := he; (try dsimp only [NoK, AllB] at hi he); (try simp only [Value.ownBlock, Option.some.injEq] at he); first | exact hi.elim | exact he.elim | omega | (rcases hi with hi | hi <;> omega) | (rcases he with he | he <;> omega) | (first | (have := hFG _ hi; omega) | (have := hG _ hi.1; omega)))
          replace HT3 := HT3.keep k107 (by intro i _ hi he; have he0 := he; (try dsimp only [NoK, AllB] at hi he); (try simp only [Value.ownBlock, Option.some.injEq] at he); first | exact hi.elim | exact he.elim | omega | (rcases hi with hi | hi <;> omega) | (rcases he with he | he <;> omega) | (first | (have := hFG _ hi; omega) | (have := hG _ hi.1; omega)))
          replace EL1 := EL1.step k107 (by intro i hi he; have he0 := he; (try dsimp only [NoK] at hi he ⊢); (try simp only [Value.ownBlock, Option.some.injEq] at he); first | exact he.elim | omega | exact he | (first | (have := hFG _ hi; omega) | (have := hG _ hi.1; omega)))
          replace HPo := HPo.keep k107 (by intro h; have he0 := h; (try dsimp only at h); (try simp only [Value.ownBlock, Option.some.injEq] at h); (try simp only [add_block] at h); (try simp only [add_block] at he0); first | omega | (have he := he0; first | (have := hFG _ hi; omega) | (have := hG _ hi.1; omega)))
          replace HPa := HPa.keep k107 (by intro h; have he0 := h; (try dsimp only at h); (try simp only [Value.ownBlock, Option.some.injEq] at h); (try simp only [add_block] at h); (try simp only [add_block] at he0); first | omega | (have he := he0; first | (have := hFG _ hi; omega) | (have := hG _ hi.1; omega)))
          replace HS1 := HS1.keep k107 (by intro i _ hi he; have he0 := he; (try dsimp only [NoK, AllB] at hi he); (try simp only [Value.ownBlock, Option.some.injEq] at he); first | exact hi.elim | exact he.elim | omega | (rcases hi with hi | hi <;> omega) | (rcases he with he | he <;> omega) | (first | (have := hFG _ hi; omega) | (have := hG _ hi.1; omega)))
          replace HS2 := HS2.keep k107 (by intro i _ hi he; have he0 := he; (try dsimp only [NoK, AllB] at hi he); (try simp only [Value.ownBlock, Option.some.injEq] at he); first | exact hi.elim | exact he.elim | omega | (rcases hi with hi | hi <;> omega) | (rcases he with he | he <;> omega) | (first | (have := hFG _ hi; omega) | (have := hG _ hi.1; omega)))
          replace HB3 := HX107
          clear HX107
          try simp only [List.set_cons_zero, List.set_cons_succ, setAt, List.take_zero, List.take_succ_cons, List.drop_zero, List.drop_succ_cons, List.nil_append, List.cons_append, List.append_nil, List.length_cons, List.length_nil, Nat.zero_add, Nat.reduceAdd, List.drop_nil] at HB3
          refine fin_nilJ ?_
          refine n_then ?_
          refine r_one (by decide +kernel) rfl ?_
          refine l_to (to_storeA (n := 3) rfl rfl (show _ = (Value.agg _) from rfl) (by kernel_rfl) rfl (by first | (simp [slice_one]; done) | (simp only [List.forall_mem_cons, List.cons_append, List.nil_append]; repeat' (first | exact rfl | apply And.intro | (intro u hu; cases hu; done)))) HB3 (by first | exact of_decide_eq_true rfl | (simp; done) | decide | (simp only [List.length_set, hlen]; exact of_decide_eq_true rfl)) ?_)
          rintro w108 HX108 k108 z108
          have zs_k108 := k108.size
          try simp only [add_block] at k108
          try simp only [add_block] at HX108
          replace E := E.step k108 (by intro i hi he; have he0 := he; (try dsimp only [NoK] at hi he ⊢); (try simp only [Value.ownBlock, Option.some.injEq] at he); first | exact he.elim | omega | exact he | (first | (have := hFG _ hi; omega) | (have := hG _ hi.1; omega)))
          replace HB2 := HB2.keep k108 (by intro h; have he0 := h; (try dsimp only at h); (try simp only [Value.ownBlock, Option.some.injEq] at h); first | omega | (have he := he0; first | (have := hFG _ hi; omega) | (have := hG _ hi.1; omega)))
          replace HT2 := HT2.keep k108 (by intro i _ hi he; have he0 := he; (try dsimp only [NoK, AllB] at hi he); (try simp only [Value.ownBlock, Option.some.injEq] at he); first | exact hi.elim | exact he.elim | omega | (rcases hi with hi | hi <;> omega) | (rcases he with he | he <;> omega) | (first | (have := hFG _ hi; omega) | (have := hG _ hi.1; omega)))
          replace HT3 := HT3.keep k108 (by intro i _ hi he; have he0 := he; (try dsimp only [NoK, AllB] at hi he); (try simp only [Value.ownBlock, Option.some.injEq] at he); first | exact hi.elim | exact he.elim | omega | (rcases hi with hi | hi <;> omega) | (rcases he with he | he <;> omega) | (first | (have := hFG _ hi; omega) | (have := hG _ hi.1; omega)))
          replace EL1 := EL1.step k108 (by intro i hi he; have he0 := he; (try dsimp only [NoK] at hi he ⊢); (try simp only [Value.ownBlock, Option.some.injEq] at he); first | exact he.elim | omega | exact he | (first | (have := hFG _ hi; omega) | (have := hG _ hi.1; omega)))
          replace HPo := HPo.keep k108 (by intro h; have he0 := h; (try dsimp only at h); (try simp only [Value.ownBlock, Option.some.injEq] at h); (try simp only [add_block] at h); (try simp only [add_block] at he0); first | omega | (have he := he0; first | (have := hFG _ hi; omega) | (have := hG _ hi.1; omega)))
          replace HPa := HPa.keep k108 (by intro h; have he0 := h; (try dsimp only at h); (try simp only [Value.ownBlock, Option.some.injEq] at h); (try simp only [add_block] at h); (try simp only [add_block] at he0); first | omega | (have he := he0; first | (have := hFG _ hi; omega) | (have := hG _ hi.1; omega)))
          replace HS1 := HS1.keep k108 (by intro i _ hi he; have he0 := he; (try dsimp only [NoK, AllB] at hi he); (try simp only [Value.ownBlock, Option.some.injEq] at he); first | exact hi.elim | exact he.elim | omega | (rcases hi with hi | hi <;> omega) | (rcases he with he | he <;> omega) | (first | (have := hFG _ hi; omega) | (have := hG _ hi.1; omega)))
          replace HS2 := HS2.keep k108 (by intro i _ hi he; have he0 := he; (try dsimp only [NoK, AllB] at hi he); (try simp only [Value.ownBlock, Option.some.injEq] at he); first | exact hi.elim | exact he.elim | omega | (rcases hi with hi | hi <;> omega) | (rcases he with he | he <;> omega) | (first | (have := hFG _ hi; omega) | (have := hG _ hi.1; omega)))
          replace HB3 := HX108
          clear HX108
          try simp only [List.set_cons_zero, List.set_cons_succ, setAt, List.take_zero, List.take_succ_cons, List.drop_zero, List.drop_succ_cons, List.nil_append, List.cons_append, List.append_nil, List.length_cons, List.length_nil, Nat.zero_add, Nat.reduceAdd, List.drop_nil] at HB3
          refine l_nil ?_
          refine n_blk ?_
          refine n_then ?_
          refine wp_reg (by decide +kernel) ?_
          refine l_v (v_move (t := .int _ _) rfl) ?_
          refine l_v (v_add rfl rfl (by first | exact wr_i64 (by omega) (by omega) | rfl)) ?_
          refine l_v (v_assign (t := .int _ _) rfl) ?_
          refine l_nil ?_
          refine n_then ?_
          obtain ⟨cs2, HB4, HT4⟩ : ∃ l, Blk w108 b l 48 ∧ RfC w108 (fun i => (F i ∨ G i) ∧ i < n0) l (updS (jpS S O (([1, 2, 3, 4] : List Int).take (2 - 1))) (2 : Nat) (numS O (2 : Nat), ansS O (2 : Nat))) := ⟨_, HB3, HT3.put (c := 2) (by decide) (tAn_mk (HS1.mono fun i _ h => ⟨.inr h.1, h.2⟩) (HS2.mono fun i _ h => ⟨.inr h.1, h.2⟩) hi9)⟩
          refine ⟨(2 + 1, cs2), _, rfl, by (repeat (first | exact Off.of_over _ _ _ | refine Off.upd ?_ (by decide) _ | refine Off.overs ?_ (by decide) _)), ⟨by first | rfl | exact congrArg (Value.int _) (by omega) | (simp; done), trivial⟩, ⟨E, EL1, ?_⟩, ?_⟩
          · skip
            refine ⟨by omega, by omega, HB4, ?_⟩
            rw [show ([1, 2, 3, 4] : List Int).take (2 + 1 - 1) = ([1, 2, 3, 4] : List Int).take (2 - 1) ++ [((2 : Nat) : Int)] from rfl, jpS_yes hlt (hx9.trans (congrArg some hx9e))]
            exact HT4
          · (dsimp only; omega)
        · skip
          by_cases hk3 : c = 3
          · skip
            subst hk3
            refine wp_any (by kernel_rfl) ?_
            have e109 : Ext w102 { w102 with drawn := w102.drawn + 1 } := Keep.drawn _ _
            generalize hw109 : ({ w102 with drawn := w102.drawn + 1 } : World) = w109 at e109 ⊢
            clear hw109
            have zs_e109 := e109.size
            replace E := E.trans (Ext.keep e109)
            replace HB2 := HB2.ext e109
            replace HT2 := HT2.ext e109
            replace HB3 := HB3.ext e109
            replace HT3 := HT3.ext e109
            replace EL1 := EL1.trans (Ext.keep e109)
            replace HPo := HPo.ext e109
            replace HPa := HPa.ext e109
            replace HS1 := HS1.ext e109
            replace HS2 := HS2.ext e109
            refine r_cut 23 rfl (by decide +kernel) (by decide +kernel) (by decide +kernel) ?_
            refine wp_regJW (fun k => k = b) (StJ b _ _ [(19, 3, some 9, (undef : Value))]) (by decide +kernel) (by decide +kernel) (fun vals done hd => StJ.start HB3 (fun a ha => hd a.1 (st_lt (n := 23) rfl a ha))) ?_
            refine rj_vJ (fun done vals w hR hcl hdk hJ hdn hd => v_move (t := .pointer _) rfl) (fun done vals w hdk hJ => hJ.src (Keep.refl _) hdk rfl) ?_
            refine rj_vJ (fun done vals w hR hcl hdk hJ hdn hd => v_move (t := .int _ _) rfl) (fun done vals w hdk hJ => hJ.src (Keep.refl _) hdk rfl) ?_
            refine rj_vJ (fun done vals w hR hcl hdk hJ hdn hd => v_move (t := .pointer _) rfl) (fun done vals w hdk hJ => hJ.src (Keep.refl _) hdk rfl) ?_
            refine rj_vJ (fun done vals w hR hcl hdk hJ hdn hd => v_move (t := .int _ _) rfl) (fun done vals w hdk hJ => hJ.src (Keep.refl _) hdk rfl) ?_
            refine rj_vJ (fun done vals w hR hcl hdk hJ hdn hd => v_move (t := .pointer _) rfl) (fun done vals w hdk hJ => hJ.src (Keep.refl _) hdk rfl) ?_
            refine rj_vJ (fun done vals w hR hcl hdk hJ hdn hd => v_move (t := .int _ _) rfl) (fun done vals w hdk hJ => hJ.src (Keep.refl _) hdk rfl) ?_
            refine rj_vJ (fun done vals w hR hcl hdk hJ hdn hd => v_nilCheck (hd 4 rfl)) (fun done vals w hdk hJ => hJ.src (Keep.refl _) hdk rfl) ?_
            refine rj_vJ (fun done vals w hR hcl hdk hJ hdn hd => v_fieldAddr (off := 0) (ft := 45) (by kernel_rfl) (hd 6 rfl)) (fun done vals w hdk hJ => hJ.src (Keep.refl _) hdk rfl) ?_
            refine rj_vJ (fun done vals w hR hcl hdk hJ hdn hd => v_arrAddr (et := 2) (n := 5) (sz := 1) (k := 3) (by kernel_rfl) (hd 7 rfl) (hd 5 rfl) rfl (by decide)) (fun done vals w hdk hJ => hJ.src (Keep.refl _) hdk rfl) ?_
            refine rj_vJ (fun done vals w hR hcl hdk hJ hdn hd => v_load (by kernel_rfl) (hd 8 rfl) (by first | exact (HPa.keep hR (by intro h; have he0 := h; (try dsimp only at h); (try simp only [Value.ownBlock, Option.some.injEq] at h); (try simp only [add_block] at h); (try simp only [add_block] at he0); first | omega | (have he := he0; first | (have := hFG _ hi; omega) | (have := hG _ hi.1; omega)))) 3 _ rfl | exact pv_1 (HPa.keep hR (by intro h; have he0 := h; (try dsimp only at h); (try simp only [Value.ownBlock, Option.some.injEq] at h); (try simp only [add_block] at h); (try simp only [add_block] at he0); first | omega | (have he := he0; first | (have := hFG _ hi; omega) | (have := hG _ hi.1; omega)))) | exact (HPo.keep hR (by intro h; have he0 := h; (try dsimp only at h); (try simp only [Value.ownBlock, Option.some.injEq] at h); (try simp only [add_block] at h); (try simp only [add_block] at he0); first | omega | (have he := he0; first | (have := hFG _ hi; omega) | (have := hG _ hi.1; omega)))) 3 _ rfl | exact pv_1 (HPo.keep hR (by intro h; have he0 := h; (try dsimp only at h); (try simp only [Value.ownBlock, Option.some.injEq] at h); (try simp only [add_block] at h); (try simp only [add_block] at he0); first | omega | (have he := he0; first | (have := hFG _ hi; omega) | (have := hG _ hi.1; omega)))) | exact (hJ.at0 hcl hdk ⟨_, _, rfl, rfl, by decide⟩).pv 3 _ rfl | exact (HB2.keep hR (by intro h; have he0 := h; (try dsimp only at h); (try simp only [Value.ownBlock, Option.some.injEq] at h); first | omega | (have he := he0; first | (have := hFG _ hi; omega) | (have := hG _ hi.1; omega)))).pv 3 _ rfl | assumption)) (fun done vals w hdk hJ => hJ.src (Keep.refl _) hdk rfl) ?_
            refine rj_vJ (fun done vals w hR hcl hdk hJ hdn hd => v_move (t := .pointer _) rfl) (fun done vals w hdk hJ => hJ.src (Keep.refl _) hdk rfl) ?_
            refine rj_vJ (fun done vals w hR hcl hdk hJ hdn hd => v_move (t := .int _ _) rfl) (fun done vals w hdk hJ => hJ.src (Keep.refl _) hdk rfl) ?_
            refine rj_vJ (fun done vals w hR hcl hdk hJ hdn hd => v_nilCheck (hd 10 rfl)) (fun done vals w hdk hJ => hJ.src (Keep.refl _) hdk rfl) ?_
            refine rj_vJ (fun done vals w hR hcl hdk hJ hdn hd => v_fieldAddr (off := 5) (ft := 46) (by kernel_rfl) (hd 12 rfl)) (fun done vals w hdk hJ => hJ.src (Keep.refl _) hdk rfl) ?_
            refine rj_vJ (fun done vals w hR hcl hdk hJ hdn hd => v_arrAddr (et := 33) (n := 5) (sz := 3) (k := 3) (by kernel_rfl) (hd 13 rfl) (hd 11 rfl) rfl (by decide)) (fun done vals w hdk hJ => hJ.src (Keep.refl _) hdk rfl) ?_
            refine rj_vJ (fun done vals w hR hcl hdk hJ hdn hd => v_loadA (by kernel_rfl) (hd 14 rfl) (by first | exact (show Pv _ _ [_, _, _] from pv_sub 9 3 (HPa.keep hR (by intro h; have he0 := h; (try dsimp only at h); (try simp only [Value.ownBlock, Option.some.injEq] at h); (try simp only [add_block] at h); (try simp only [add_block] at he0); first | omega | (have he := he0; first | (have := hFG _ hi; omega) | (have := hG _ hi.1; omega))))) | exact (show Pv _ _ [_, _, _] from pv_sub 9 3 (HPo.keep hR (by intro h; have he0 := h; (try dsimp only at h); (try simp only [Value.ownBlock, Option.some.injEq] at h); (try simp only [add_block] at h); (try simp only [add_block] at he0); first | omega | (have he := he0; first | (have := hFG _ hi; omega) | (have := hG _ hi.1; omega))))) | exact (show Pv _ _ [_, _, _] from pv_sub 9 3 (HB3.keep hR (by intro h; have he0 := h; (try dsimp only at h); (try simp only [Value.ownBlock, Option.some.injEq] at h); first | omega | (have he := he0; first | (have := hFG _ hi; omega) | (have := hG _ hi.1; omega)))).pv) | exact (show Pv _ _ [_, _, _] from pv_sub 9 3 (HB2.keep hR (by intro h; have he0 := h; (try dsimp only at h); (try simp only [Value.ownBlock, Option.some.injEq] at h); first | omega | (have he := he0; first | (have := hFG _ hi; omega) | (have := hG _ hi.1; omega)))).pv) | exact pv_at 9 (HPa.keep hR (by intro h; have he0 := h; (try dsimp only at h); (try simp only [Value.ownBlock, Option.some.injEq] at h); (try simp only [add_block] at h); (try simp only [add_block] at he0); first | omega | (have he := he0; first | (have := hFG _ hi; omega) | (have := hG _ hi.1; omega)))) | exact pv_at 9 (HPo.keep hR (by intro h; have he0 := h; (try dsimp only at h); (try simp only [Value.ownBlock, Option.some.injEq] at h); (try simp only [add_block] at h); (try simp only [add_block] at he0); first | omega | (have he := he0; first | (have := hFG _ hi; omega) | (have := hG _ hi.1; omega)))) | exact pv_at 9 (HB3.keep hR (by intro h; have he0 := h; (try dsimp only at h); (try simp only [Value.ownBlock, Option.some.injEq] at h); first | omega | (have he := he0; first | (have := hFG _ hi; omega) | (have := hG _ hi.1; omega)))).pv | exact pv_at 9 (HB2.keep hR (by intro h; have he0 := h; (try dsimp only at h); (try simp only [Value.ownBlock, Option.some.injEq] at h); first | omega | (have he := he0; first | (have := hFG _ hi; omega) | (have := hG _ hi.1; omega)))).pv | exact (HPa.keep hR (by intro h; have he0 := h; (try dsimp only at h); (try simp only [Value.ownBlock, Option.some.injEq] at h); (try simp only [add_block] at h); (try simp only [add_block] at he0); first | omega | (have he := he0; first | (have := hFG _ hi; omega) | (have := hG _ hi.1; omega)))) | exact (HPo.keep hR (by intro h; have he0 := h; (try dsimp only at h); (try simp only [Value.ownBlock, Option.some.injEq] at h); (try simp only [add_block] at h); (try simp only [add_block] at he0); first | omega | (have he := he0; first | (have := hFG _ hi; omega) | (have := hG _ hi.1; omega)))) | assumption) rfl) (fun done vals w hdk hJ => hJ.src (Keep.refl _) hdk rfl) ?_
            refine rj_vJ (fun done vals w hR hcl hdk hJ hdn hd => v_nilCheck (hd 0 rfl)) (fun done vals w hdk hJ => hJ.src (Keep.refl _) hdk rfl) ?_
            refine rj_vJ (fun done vals w hR hcl hdk hJ hdn hd => v_fieldAddr (off := 0) (ft := 45) (by kernel_rfl) (hd 16 rfl)) (fun done vals w hdk hJ => hJ.src (Keep.refl _) hdk rfl) ?_
            refine rj_vJ (fun done vals w hR hcl hdk hJ hdn hd => v_arrAddr (et := 2) (n := 5) (sz := 1) (k := 3) (by kernel_rfl) (hd 17 rfl) (hd 1 rfl) rfl (by decide)) (fun done vals w hdk hJ => hJ.src (Keep.refl _) hdk rfl) ?_
            refine rj_d (fun done vals w hR hcl hdk hJ hdn hd => to_store (hd 18 rfl) rfl rfl (by first | exact SlV.one (hd 9 rfl) | exact SlV.one (hd 9 rfl).1 | exact OwV.one (hd 9 rfl) | exact OwV.one (hd 9 rfl).1 | (have h := hd 9 rfl; dsimp only [setS] at h; rw [h]; rfl) | exact (hd 9 rfl).1 | (obtain ⟨_, h⟩ := hd 9 rfl; rw [h]; rfl) | exact (congrArg Value.oneCell' (hd 9 rfl)).trans rfl) (by kernel_rfl) (hJ.at (n := 0) rfl hdk (fun m h => by cases h)) (by rw [conts_len]; first | exact of_decide_eq_true rfl | (rw [hlen]; exact of_decide_eq_true rfl)) (fun w1 hB k z => ⟨k, hJ.step (n := 0) rfl hdk (fun m h => by cases h) (fun k h => by cases h; exact hdn 9 rfl) (once_st rfl) rfl hB⟩)) ?_
            refine rj_vJ (fun done vals w hR hcl hdk hJ hdn hd => v_nilCheck (hd 2 rfl)) (fun done vals w hdk hJ => hJ.src (Keep.refl _) hdk rfl) ?_
            refine rj_vJ (fun done vals w hR hcl hdk hJ hdn hd => v_fieldAddr (off := 5) (ft := 46) (by kernel_rfl) (hd 20 rfl)) (fun done vals w hdk hJ => hJ.src (Keep.refl _) hdk rfl) ?_
            refine rj_vJ (fun done vals w hR hcl hdk hJ hdn hd => v_arrAddr (et := 33) (n := 5) (sz := 3) (k := 3) (by kernel_rfl) (hd 21 rfl) (hd 3 rfl) rfl (by decide)) (fun done vals w hdk hJ => hJ.src (Keep.refl _) hdk rfl) ?_
            refine rj_nil (fun vals w110 k110 J110 => ?_)
            rintro _ - rfl _ - rfl _ - rfl _ - rfl _ - rfl _ - rfl _ - rfl _ - rfl _ - rfl _ qs9 rfl _ - rfl _ - rfl _ - rfl _ - rfl _ - rfl _ - rfl _ - rfl _ - rfl _ - rfl _ - - _ - rfl _ - rfl _ - rfl
            have zs_k110 := k110.size
            have HX110 := J110.fin
            simp only [conts, sv, ← qs9] at HX110
            replace E := E.step k110 (by intro i hi he; have he0 := he; (try dsimp only [NoK] at hi he ⊢); (try simp only [Value.ownBlock, Option.some.injEq] at he); first | exact he.elim | omega | exact he | (first | (have := hFG _ hi; omega) | (have := hG _ hi.1; omega)))
            replace HB2 := HB2.keep k110 (by intro h; have he0 := h; (try dsimp only at h); (try simp only [Value.ownBlock, Option.some.injEq] at h); first | omega | (have he := he0; first | (have := hFG _ hi; omega) | (have := hG _ hi.1; omega)))
            replace HT2 := HT2.keep k110 (by intro i _ hi he; have he0 := he; (try dsimp only [NoK, AllB] at hi he); (try simp only [Value.ownBlock, Option.some.injEq] at he); first | exact hi.elim | exact he.elim | omega | (rcases hi with hi | hi <;> omega) | (rcases he with he | he <;> omega) | (first | (have := hFG _ hi; omega) | (have := hG _ hi.1; omega)))
            replace HT3 := HT3.keep k110 (by intro i _ hi he; have he0 := he; (try dsimp only [NoK, AllB] at hi he); (try simp only [Value.ownBlock, Option.some.injEq] at he); first | exact hi.elim | exact he.elim | omega | (rcases hi with hi | hi <;> omega) | (rcases he with he | he <;> omega) | (first | (have := hFG _ hi; omega) | (have := hG _ hi.1; omega)))
            replace EL1 := EL1.step k110 (by intro i hi he; have he0 := he; (try dsimp only [NoK] at hi he ⊢); (try simp only [Value.ownBlock, Option.some.injEq] at he); first | exact he.elim | omega | exact he | (first | (have := hFG _ hi; omega) | (have := hG _ hi.1; omega)))
            replace HPo := HPo.keep k110 (by intro h; have he0 := h; (try dsimp only at h); (try simp only [Value.ownBlock, Option.some.injEq] at h); (try simp only [add_block] at h); (try simp only [add_block] at he0); first | omega | (have he := he0; first | (have := hFG _ hi; omega) | (have := hG _ hi.1; omega)))
            replace HPa := HPa.keep k110 (by intro h; have he0 := h; (try dsimp only at h); (try simp only [Value.ownBlock, Option.some.injEq] at h); (try simp only [add_block] at h); (try simp only [add_block] at he0); first | omega | (have he := he0; first | (have := hFG _ hi; omega) | (have := hG _ hi.1; omega)))
            replace HS1 := HS1.keep k110 (by intro i _ hi he; have he0 := he; (try dsimp only [NoK, AllB] at hi he); (try simp only [Value.ownBlock, Option.some.injEq] at he); first | exact hi.elim | exact he.elim | omega | (rcases hi with hi | hi <;> omega) | (rcases he with he | he <;> omega) | (first | (have := hFG _ hi; omega) | (have := hG _ hi.1; omega)))
            replace HS2 := HS2.keep k110 (by intro i _ hi he; have he0 := he; (try dsimp only [NoK, AllB] at hi he); (try simp only [Value.ownBlock, Option.some.injEq] at he); first | exact hi.elim | exact he.elim | omega | (rcases hi with hi | hi <;> omega) | (rcases he with he | he <;> omega) | (first | (have := hFG _ hi; omega) | (have := hG _ hi.1; omega)))
            replace HB3 := HX110
            clear HX110
            try simp only [List.set_cons_zero, List.set_cons_succ, setAt, List.take_zero, List.take_succ_cons, List.drop_zero, List.drop_succ_cons, List.nil_append, List.cons_append, List.append_nil, List.length_cons, List.length_nil, Nat.zero_add, Nat.reduceAdd, List.drop_nil] at HB3
            refine fin_nilJ ?_
            refine n_then ?_
            refine r_one (by decide +kernel) rfl ?_
            refine l_to (to_storeA (n := 3) rfl rfl (show _ = (Value.agg _) from rfl) (by kernel_rfl) rfl (by first | (simp [slice_one]; done) | (simp only [List.forall_mem_cons, List.cons_append, List.nil_append]; repeat' (first | exact rfl | apply And.intro | (intro u hu; cases hu; done)))) HB3 (by first | exact of_decide_eq_true rfl | (simp; done) | decide | (simp only [List.length_set, hlen]; exact of_decide_eq_true rfl)) ?_)
            rintro w111 HX111 k111 z111
            have zs_k111 := k111.size
            try simp only [add_block] at k111
            try simp only [add_block] at HX111
            replace E := E.step k111 (by intro i hi he; have he0 := he; (try dsimp only [NoK] at hi he ⊢); (try simp only [Value.ownBlock, Option.some.injEq] at he); first | exact he.elim | omega | exact he | (first | (have := hFG _ hi; omega) | (have := hG _ hi.1; omega)))
            replace HB2 := HB2.keep k111 (by intro h; have he0 := h; (try dsimp only at h); (try simp only [Value.ownBlock, Option.some.injEq] at h); first | omega | (have he := he0; first | (have := hFG _ hi; omega) | (have := hG _ hi.1; omega)))
            replace HT2 := HT2.keep k111 (by intro i _ hi he; have he0 := he; (try dsimp only [NoK, AllB] at hi he); (try simp only [Value.ownBlock, Option.some.injEq] at he); first | exact hi.elim | exact he.elim | omega | (rcases hi with hi | hi <;> omega) | (rcases he with he | he <;> omega) | (first | (have := hFG _ hi; omega) | (have := hG _ hi.1; omega)))
            replace HT3 := HT3.keep k111 (by intro i _ hi he; have he0 := he; (try dsimp only [NoK, AllB] at hi he); (try simp only [Value.ownBlock, Option.some.injEq] at he); first | exact hi.elim | exact he.elim | omega | (rcases hi with hi | hi <;> omega) | (rcases he with he | he <;> omega) | (first | (have := hFG _ hi; omega) | (have := hG _ hi.1; omega)))
            replace EL1 := EL1.step k111 (by intro i hi he; have he0 := he; (try dsimp only [NoK] at hi he ⊢); (try simp only [Value.ownBlock, Option.some.injEq] at he); first | exact he.elim | omega | exact he | (first | (have := hFG _ hi; omega) | (have := hG _ hi.1; omega)))
            replace HPo := HPo.keep k111 (by intro h; have he0 := h; (try dsimp only at h); (try simp only [Value.ownBlock, Option.some.injEq] at h); (try simp only [add_block] at h); (try simp only [add_block] at he0); first | omega | (have he := he0; first | (have := hFG _ hi; omega) | (have := hG _ hi.1; omega)))
            replace HPa := HPa.keep k111 (by intro h; have he0 := h; (try dsimp only at h); (try simp only [Value.ownBlock, Option.some.injEq] at h); (try simp only [add_block] at h); (try simp only [add_block] at he0); first | omega | (have he := he0; first | (have := hFG _ hi; omega) | (have := hG _ hi.1; omega)))
            replace HS1 := HS1.keep k111 (by intro i _ hi he; have he0 := he; (try dsimp only [NoK, AllB] at hi he); (try simp only [Value.ownBlock, Option.some.injEq] at he); first | exact hi.elim | exact he.elim | omega | (rcases hi with hi | hi <;> omega) | (rcases he with he | he <;> omega) | (first | (have := hFG _ hi; omega) | (have := hG _ hi.1; omega)))
            replace HS2 := HS2.keep k111 (by intro i _ hi he; have he0 := he; (try dsimp only [NoK, AllB] at hi he); (try simp only [Value.ownBlock, Option.some.injEq] at he); first | exact hi.elim | exact he.elim | omega | (rcases hi with hi | hi <;> omega) | (rcases he with he | he <;> omega) | (first | (have := hFG _ hi; omega) | (have := hG _ hi.1; omega)))
            replace HB3 := HX111
            clear HX111
            try simp only [List.set_cons_zero, List.set_cons_succ, setAt, List.take_zero, List.take_succ_cons, List.drop_zero, List.drop_succ_cons, List.nil_append, List.cons_append, List.append_nil, List.length_cons, List.length_nil, Nat.zero_add, Nat.reduceAdd, List.drop_nil] at HB3
            refine l_nil ?_
            refine n_blk ?_
            refine n_then ?_
            refine wp_reg (by decide +kernel) ?_
            refine l_v (v_move (t := .int _ _) rfl) ?_
            refine l_v (v_add rfl rfl (by first | exact wr_i64 (by omega) (by omega) | rfl)) ?_
            refine l_v (v_assign (t := .int _ _) rfl) ?_
            refine l_nil ?_
            refine n_then ?_
            obtain ⟨cs2, HB4, HT4⟩ : ∃ l, Blk w111 b l 48 ∧ RfC w111 (fun i => (F i ∨ G i) ∧ i < n0) l (updS (jpS S O (([1, 2, 3, 4] : List Int).take (3 - 1))) (3 : Nat) (numS O (3 : Nat), ansS O (3 : Nat))) := ⟨_, HB3, HT3.put (c := 3) (by decide) (tAn_mk (HS1.mono fun i _ h => ⟨.inr h.1, h.2⟩) (HS2.mono fun i _ h => ⟨.inr h.1, h.2⟩) hi9)⟩
            refine ⟨(3 + 1, cs2), _, rfl, by (repeat (first | exact Off.of_over _ _ _ | refine Off.upd ?_ (by decide) _ | refine Off.overs ?_ (by decide) _)), ⟨by first | rfl | exact congrArg (Value.int _) (by omega) | (simp; done), trivial⟩, ⟨E, EL1, ?_⟩, ?_⟩
            · skip
              refine ⟨by omega, by omega, HB4, ?_⟩
              rw [show ([1, 2, 3, 4] : List Int).take (3 + 1 - 1) = ([1, 2, 3, 4] : List Int).take (3 - 1) ++ [((3 : Nat) : Int)] from rfl, jpS_yes hlt (hx9.trans (congrArg some hx9e))]
              exact HT4
            · (dsimp only; omega)
          · skip
            have hk4 : c = 4 := by omega
            subst hk4
            refine wp_any (by kernel_rfl) ?_
            have e112 : Ext w102 { w102 with drawn := w102.drawn + 1 } := Keep.drawn _ _
            generalize hw112 : ({ w102 with drawn := w102.drawn + 1 } : World) = w112 at e112 ⊢
            clear hw112
            have zs_e112 := e112.size
            replace E := E.trans (Ext.keep e112)
            replace HB2 := HB2.ext e112
            replace HT2 := HT2.ext e112
            replace HB3 := HB3.ext e112
            replace HT3 := HT3.ext e112
            replace EL1 := EL1.trans (Ext.keep e112)
            replace HPo := HPo.ext e112
            replace HPa := HPa.ext e112
            replace HS1 := HS1.ext e112
            replace HS2 := HS2.ext e112
            refine r_cut 23 rfl (by decide +kernel) (by decide +kernel) (by decide +kernel) ?_
            refine wp_regJW (fun k => k = b) (StJ b _ _ [(19, 4, some 9, (undef : Value))]) (by decide +kernel) (by decide +kernel) (fun vals done hd => StJ.start HB3 (fun a ha => hd a.1 (st_lt (n := 23) rfl a ha))) ?_
            refine rj_vJ (fun done vals w hR hcl hdk hJ hdn hd => v_move (t := .pointer _) rfl) (fun done vals w hdk hJ => hJ.src (Keep.refl _) hdk rfl) ?_
            refine rj_vJ (fun done vals w hR hcl hdk hJ hdn hd => v_move (t := .int _ _) rfl) (fun done vals w hdk hJ => hJ.src (Keep.refl _) hdk rfl) ?_
            refine rj_vJ (fun done vals w hR hcl hdk hJ hdn hd => v_move (t := .pointer _) rfl) (fun done vals w hdk hJ => hJ.src (Keep.refl _) hdk rfl) ?_
            refine rj_vJ (fun done vals w hR hcl hdk hJ hdn hd => v_move (t := .int _ _) rfl) (fun done vals w hdk hJ => hJ.src (Keep.refl _) hdk rfl) ?_
            refine rj_vJ (fun done vals w hR hcl hdk hJ hdn hd => v_move (t := .pointer _) rfl) (fun done vals w hdk hJ => hJ.src (Keep.refl _) hdk rfl) ?_
            refine rj_vJ (fun done vals w hR hcl hdk hJ hdn hd => v_move (t := .int _ _) rfl) (fun done vals w hdk hJ => hJ.src (Keep.refl _) hdk rfl) ?_
            refine rj_vJ (fun done vals w hR hcl hdk hJ hdn hd => v_nilCheck (hd 4 rfl)) (fun done vals w hdk hJ => hJ.src (Keep.refl _) hdk rfl) ?_
            refine rj_vJ (fun done vals w hR hcl hdk hJ hdn hd => v_fieldAddr (off := 0) (ft := 45) (by kernel_rfl) (hd 6 rfl)) (fun done vals w hdk hJ => hJ.src (Keep.refl _) hdk rfl) ?_
            refine rj_vJ (fun done vals w hR hcl hdk hJ hdn hd => v_arrAddr (et := 2) (n := 5) (sz := 1) (k := 4) (by kernel_rfl) (hd 7 rfl) (hd 5 rfl) rfl (by decide)) (fun done vals w hdk hJ => hJ.src (Keep.refl _) hdk rfl) ?_
            refine rj_vJ (fun done vals w hR hcl hdk hJ hdn hd => v_load (by kernel_rfl) (hd 8 rfl) (by first | exact (HPa.keep hR (by intro h; have he0 := h; (try dsimp only at h); (try simp only [Value.ownBlock, Option.some.injEq] at h); (try simp only [add_block] at h); (try simp only [add_block] at he0); first | omega | (have he := he0; first | (have := hFG _ hi; omega) | (have := hG _ hi.1; omega)))) 4 _ rfl | exact pv_1 (HPa.keep hR (by intro h; have he0 := h; (try dsimp only at h); (try simp only [Value.ownBlock, Option.some.injEq] at h); (try simp only [add_block] at h); (try simp only [add_block] at he0); first | omega | (have he := he0; first | (have := hFG _ hi; omega) | (have := hG _ hi.1; omega)))) | exact (HPo.keep hR (by intro h; have he0 := h; (try dsimp only at h); (try simp only [Value.ownBlock, Option.some.injEq] at h); (try simp only [add_block] at h); (try simp only [add_block] at he0); first | omega | (have he := he0; first | (have := hFG _ hi; omega) | (have := hG _ hi.1; omega)))) 4 _ rfl | exact pv_1 (HPo.keep hR (by intro h; have he0 := h; (try dsimp only at h); (try simp only [Value.ownBlock, Option.some.injEq] at h); (try simp only [add_block] at h); (try simp only [add_block] at he0); first | omega | (have he := he0; first | (have := hFG _ hi; omega) | (have := hG _ hi.1; omega)))) | exact (hJ.at0 hcl hdk ⟨_, _, rfl, rfl, by decide⟩).pv 4 _ rfl | exact (HB2.keep hR (by intro h; have he0 := h; (try dsimp only at h); (try simp only [Value.ownBlock, Option.some.injEq] at h); first | omega | (have he := he0; first | (have := hFG _ hi; omega) | (have := hG _ hi.1; omega)))).pv 4 _ rfl | assumption)) (fun done vals w hdk hJ => hJ.src (Keep.refl _) hdk rfl) ?_
            refine rj_vJ (fun done vals w hR hcl hdk hJ hdn hd => v_move (t := .pointer _) rfl) (fun done vals w hdk hJ => hJ.src (Keep.refl _) hdk rfl) ?_
            refine rj_vJ (fun done vals w hR hcl hdk hJ hdn hd => v_move (t := .int _ _) rfl) (fun done vals w hdk hJ => hJ.src (Keep.refl _) hdk rfl) ?_
            refine rj_vJ (fun done vals w hR hcl hdk hJ hdn hd => v_nilCheck (hd 10 rfl)) (fun done vals w hdk hJ => hJ.src (Keep.refl _) hdk rfl) ?_
            refine rj_vJ (fun done vals w hR hcl hdk hJ hdn hd => v_fieldAddr (off := 5) (ft := 46) (by kernel_rfl) (hd 12 rfl)) (fun done vals w hdk hJ => hJ.src (Keep.refl _) hdk rfl) ?_
            refine rj_vJ (fun done vals w hR hcl hdk hJ hdn hd => v_arrAddr (et := 33) (n := 5) (sz := 3) (k := 4) (by kernel_rfl) (hd 13 rfl) (hd 11 rfl) rfl (by decide)) (fun done vals w hdk hJ => hJ.src (Keep.refl _) hdk rfl) ?_
            refine rj_vJ (fun done vals w hR hcl hdk hJ hdn hd => v_loadA (by kernel_rfl) (hd 14 rfl) (by first | exact (show Pv _ _ [_, _, _] from pv_sub 12 3 (HPa.keep hR (by intro h; have he0 := h; (try dsimp only at h); (try simp only [Value.ownBlock, Option.some.injEq] at h); (try simp only [add_block] at h); (try simp only [add_block] at he0); first | omega | (have he := he0; first | (have := hFG _ hi; omega) | (have := hG _ hi.1; omega))))) | exact (show Pv _ _ [_, _, _] from pv_sub 12 3 (HPo.keep hR (by intro h; have he0 := h; (try dsimp only at h); (try simp only [Value.ownBlock, Option.some.injEq] at h); (try simp only [add_block] at h); (try simp only [add_block] at he0); first | omega | (have he := he0; first | (have := hFG _ hi; omega) | (have := hG _ hi.1; omega))))) | exact (show Pv _ _ [_, _, _] from pv_sub 12 3 (HB3.keep hR (by intro h; have he0 := h; (try dsimp only at h); (try simp only [Value.ownBlock, Option.some.injEq] at h); first | omega | (have he := he0; first | (have := hFG _ hi; omega) | (have := hG _ hi.1; omega)))).pv) | exact (show Pv _ _ [_, _, _] from pv_sub 12 3 (HB2.keep hR (by intro h; have he0 := h; (try dsimp only at h); (try simp only [Value.ownBlock, Option.some.injEq] at h); first | omega | (have he := he0; first | (have := hFG _ hi; omega) | (have := hG _ hi.1; omega)))).pv) | exact pv_at 12 (HPa.keep hR (by intro h; have he0 := h; (try dsimp only at h); (try simp only [Value.ownBlock, Option.some.injEq] at h); (try simp only [add_block] at h); (try simp only [add_block] at he0); first | omega | (have he := he0; first | (have := hFG _ hi; omega) | (have := hG _ hi.1; omega)))) | exact pv_at 12 (HPo.keep hR (by intro h; have he0 := h; (try dsimp only at h); (try simp only [Value.ownBlock, Option.some.injEq] at h); (try simp only [add_block] at h); (try simp only [add_block] at he0); first | omega | (have he := he0; first | (have := hFG _ hi; omega) | (have := hG _ hi.1; omega)))) | exact pv_at 12 (HB3.keep hR (by intro h; have he0 := h; (try dsimp only at h); (try simp only [Value.ownBlock, Option.some.injEq] at h); first | omega | (have he := he0; first | (have := hFG _ hi; omega) | (have := hG _ hi.1; omega)))).pv | exact pv_at 12 (HB2.keep hR (by intro h; have he0 := h; (try dsimp only at h); (try simp only [Value.ownBlock, Option.some.injEq] at h); first | omega | (have he := he0; first | (have := hFG _ hi; omega) | (have := hG _ hi.1; omega)))).pv | exact (HPa.keep hR (by intro h; have he0 := h; (try dsimp only at h); (try simp only [Value.ownBlock, Option.some.injEq] at h); (try simp only [add_block] at h); (try simp only [add_block] at he0); first | omega | (have he := he0; first | (have := hFG _ hi; omega) | (have := hG _ hi.1; omega)))) | exact (HPo.keep hR (by intro h; have he0 := h; (try dsimp only at h); (try simp only [Value.ownBlock, Option.some.injEq] at h); (try simp only [add_block] at h); (try simp only [add_block] at he0); first | omega | (have he := he0; first | (have := hFG _ hi; omega) | (have := hG _ hi.1; omega)))) | assumption) rfl) (fun done vals w hdk hJ => hJ.src (Keep.refl _) hdk rfl) ?_
            refine rj_vJ (fun done vals w hR hcl hdk hJ hdn hd => v_nilCheck (hd 0 rfl)) (fun done vals w hdk hJ => hJ.src (Keep.refl _) hdk rfl) ?_
            refine rj_vJ (fun done vals w hR hcl hdk hJ hdn hd => v_fieldAddr (off := 0) (ft := 45) (by kernel_rfl) (hd 16 rfl)) (fun done vals w hdk hJ => hJ.src (Keep.refl _) hdk rfl) ?_
            refine rj_vJ (fun done vals w hR hcl hdk hJ hdn hd => v_arrAddr (et := 2) (n := 5) (sz := 1) (k := 4) (by kernel_rfl) (hd 17 rfl) (hd 1 rfl) rfl (by decide)) (fun done vals w hdk hJ => hJ.src (Keep.refl _) hdk rfl) ?_
            refine rj_d (fun done vals w hR hcl hdk hJ hdn hd => to_store (hd 18 rfl) rfl rfl (by first | exact SlV.one (hd 9 rfl) | exact SlV.one (hd 9 rfl).1 | exact OwV.one (hd 9 rfl) | exact OwV.one (hd 9 rfl).1 | (have h := hd 9 rfl; dsimp only [setS] at h; rw [h]; rfl) | exact (hd 9 rfl).1 | (obtain ⟨_, h⟩ := hd 9 rfl; rw [h]; rfl) | exact (congrArg Value.oneCell' (hd 9 rfl)).trans rfl) (by kernel_rfl) (hJ.at (n := 0) rfl hdk (fun m h => by cases h)) (by rw [conts_len]; first | exact of_decide_eq_true rfl | (rw [hlen]; exact of_decide_eq_true rfl)) (fun w1 hB k z => ⟨k, hJ.step (n := 0) rfl hdk (fun m h => by cases h) (fun k h => by cases h; exact hdn 9 rfl) (once_st rfl) rfl hB⟩)) ?_
            refine rj_vJ (fun done vals w hR hcl hdk hJ hdn hd => v_nilCheck (hd 2 rfl)) (fun done vals w hdk hJ => hJ.src (Keep.refl _) hdk rfl) ?_
            refine rj_vJ (fun done vals w hR hcl hdk hJ hdn hd => v_fieldAddr (off := 5) (ft := 46) (by kernel_rfl) (hd 20 rfl)) (fun done vals w hdk hJ => hJ.src (Keep.refl _) hdk rfl) ?_
            refine rj_vJ (fun done vals w hR hcl hdk hJ hdn hd => v_arrAddr (et := 33) (n := 5) (sz := 3) (k := 4) (by kernel_rfl) (hd 21 rfl) (hd 3 rfl) rfl (by decide)) (fun done vals w hdk hJ => hJ.src (Keep.refl _) hdk rfl) ?_
            refine rj_nil (fun vals w113 k113 J113 => ?_)
            rintro _ - rfl _ - rfl _ - rfl _ - rfl _ - rfl _ - rfl _ - rfl _ - rfl _ - rfl _ qs9 rfl _ - rfl _ - rfl _ - rfl _ - rfl _ - rfl _ - rfl _ - rfl _ - rfl _ - rfl _ - - _ - rfl _ - rfl _ - rfl
            have zs_k113 := k113.size
            have HX113 := J113.fin
            simp only [conts, sv, ← qs9] at HX113
            replace E := E.step k113 (by intro i hi he; have he0 := he; (try dsimp only [NoK] at hi he ⊢); (try simp only [Value.ownBlock, Option.some.injEq] at he); first | exact he.elim | omega | exact he | (first | (have := hFG _ hi; omega) | (have := hG _ hi.1; omega)))
            replace HB2 := HB2.keep k113 (by intro h; have he0 := h; (try dsimp only at h); (try simp only [Value.ownBlock, Option.some.injEq] at h); first | omega | (have he := he0; first | (have := hFG _ hi; omega) | (have := hG _ hi.1; omega)))
            replace HT2 := HT2.keep k113 (by intro i _ hi he; have he0 := he; (try dsimp only [NoK, AllB] at hi he); (try simp only [Value.ownBlock, Option.some.injEq] at he); first | exact hi.elim | exact he.elim | omega | (rcases hi with hi | hi <;> omega) | (rcases he with he | he <;> omega) | (first | (have := hFG _ hi; omega) | (have := hG _ hi.1; omega)))
            replace HT3 := HT3.keep k113 (by intro i _ hi he; have he0 := he; (try dsimp only [NoK, AllB] at hi he); (try simp only [Value.ownBlock, Option.some.injEq] at he); first | exact hi.elim | exact he.elim | omega | (rcases hi with hi | hi <;> omega) | (rcases he with he | he <;> omega) | (first | (have := hFG _ hi; omega) | (have := hG _ hi.1; omega)))
            replace EL1 := EL1.step k113 (by intro i hi he; have he0 := he; (try dsimp only [NoK] at hi he ⊢); (try simp only [Value.ownBlock, Option.some.injEq] at he); first | exact he.elim | omega | exact he | (first | (have := hFG _ hi; omega) | (have := hG _ hi.1; omega)))
            replace HPo := HPo.keep k113 (by intro h; have he0 := h; (try dsimp only at h); (try simp only [Value.ownBlock, Option.some.injEq] at h); (try simp only [add_block] at h); (try simp only [add_block] at he0); first | omega | (have he := he0; first | (have := hFG _ hi; omega) | (have := hG _ hi.1; omega)))
            replace HPa := HPa.keep k113 (by intro h; have he0 := h; (try dsimp only at h); (try simp only [Value.ownBlock, Option.some.injEq] at h); (try simp only [add_block] at h); (try simp only [add_block] at he0); first | omega | (have he := he0; first | (have := hFG _ hi; omega) | (have := hG _ hi.1; omega)))
            replace HS1 := HS1.keep k113 (by intro i _ hi he; have he0 := he; (try dsimp only [NoK, AllB] at hi he); (try simp only [Value.ownBlock, Option.some.injEq] at he); first | exact hi.elim | exact he.elim | omega | (rcases hi with hi | hi <;> omega) | (rcases he with he | he <;> omega) | (first | (have := hFG _ hi; omega) | (have := hG _ hi.1; omega)))
            replace HS2 := HS2.keep k113 (by intro i _ hi he; have he0 := he; (try dsimp only [NoK, AllB] at hi he); (try simp only [Value.ownBlock, Option.some.injEq] at he); first | exact hi.elim | exact he.elim | omega | (rcases hi with hi | hi <;> omega) | (rcases he with he | he <;> omega) | (first | (have := hFG _ hi; omega) | (have := hG _ hi.1; omega)))
            replace HB3 := HX113
            clear HX113
            try simp only [List.set_cons_zero, List.set_cons_succ, setAt, List.take_zero, List.take_succ_cons, List.drop_zero, List.drop_succ_cons, List.nil_append, List.cons_append, List.append_nil, List.length_cons, List.length_nil, Nat.zero_add, Nat.reduceAdd, List.drop_nil] at HB3
            refine fin_nilJ ?_
            refine n_then ?_
            refine r_one (by decide +kernel) rfl ?_
            refine l_to (to_storeA (n := 3) rfl rfl (show _ = (Value.agg _) from rfl) (by kernel_rfl) rfl (by first | (simp [slice_one]; done) | (simp only [List.forall_mem_cons, List.cons_append, List.nil_append]; repeat' (first | exact rfl | apply And.intro | (intro u hu; cases hu; done)))) HB3 (by first | exact of_decide_eq_true rfl | (simp; done) | decide | (simp only [List.length_set, hlen]; exact of_decide_eq_true rfl)) ?_)
            rintro w114 HX114 k114 z114
            have zs_k114 := k114.size
            try simp only [add_block] at k114
            try simp only [add_block] at HX114
            replace E := E.step k114 (by intro i hi he; have he0 := he; (try dsimp only [NoK] at hi he ⊢); (try simp only [Value.ownBlock, Option.some.injEq] at he); first | exact he.elim | omega | exact he | (first | (have := hFG _ hi; omega) | (have := hG _ hi.1; omega)))
            replace HB2 := HB2.keep k114 (by intro h; have he0 := h; (try dsimp only at h); (try simp only [Value.ownBlock, Option.some.injEq] at h); first | omega | (have he := he0; first | (have := hFG _ hi; omega) | (have := hG _ hi.1; omega)))
            replace HT2 := HT2.keep k114 (by intro i _ hi he; have he0 := he; (try dsimp only [NoK, AllB] at hi he); (try simp only [Value.ownBlock, Option.some.injEq] at he); first | exact hi.elim | exact he.elim | omega | (rcases hi with hi | hi <;> omega) | (rcases he with he | he <;> omega) | (first | (have := hFG _ hi; omega) | (have := hG _ hi.1; omega)))
            replace HT3 := HT3.keep k114 (by intro i _ hi he; have he0 := he; (try dsimp only [NoK, AllB] at hi he); (try simp only [Value.ownBlock, Option.some.injEq] at he); first | exact hi.elim | exact he.elim | omega | (rcases hi with hi | hi <;> omega) | (rcases he with he | he <;> omega) | (first | (have := hFG _ hi; omega) | (have := hG _ hi.1; omega)))
            replace EL1 := EL1.step k114 (by intro i hi he; have he0 := he; (try dsimp only [NoK] at hi he ⊢); (try simp only [Value.ownBlock, Option.some.injEq] at he); first | exact he.elim | omega | exact he | (first | (have := hFG _ hi; omega) | (have := hG _ hi.1; omega)))
            replace HPo := HPo.keep k114 (by intro h; have he0 := h; (try dsimp only at h); (try simp only [Value.ownBlock, Option.some.injEq] at h); (try simp only [add_block] at h); (try simp only [add_block] at he0); first | omega | (have he := he0; first | (have := hFG _ hi; omega) | (have := hG _ hi.1; omega)))
            replace HPa := HPa.keep k114 (by intro h; have he0 := h; (try dsimp only at h); (try simp only [Value.ownBlock, Option.some.injEq] at h); (try simp only [add_block] at h); (try simp only [add_block] at he0); first | omega | (have he := he0; first | (have := hFG _ hi; omega) | (have := hG _ hi.1; omega)))
            replace HS1 := HS1.keep k114 (by intro i _ hi he; have he0 := he; (try dsimp only [NoK, AllB] at hi he); (try simp only [Value.ownBlock, Option.some.injEq] at he); first | exact hi.elim | exact he.elim | omega | (rcases hi with hi | hi <;> omega) | (rcases he with he | he <;> omega) | (first | (have := hFG _ hi; omega) | (have := hG _ hi.1; omega)))
            replace HS2 := HS2.keep k114 (by intro i _ hi he; have he0 := he; (try dsimp only [NoK, AllB] at hi he); (try simp only [Value.ownBlock, Option.some.injEq] at he); first | exact hi.elim | exact he.elim | omega | (rcases hi with hi | hi <;> omega) | (rcases he with he | he <;> omega) | (first | (have := hFG _ hi; omega) | (have := hG _ hi.1; omega)))
            replace HB3 := HX114
            clear HX114
            try simp only [List.set_cons_zero, List.set_cons_succ, setAt, List.take_zero, List.take_succ_cons, List.drop_zero, List.drop_succ_cons, List.nil_append, List.cons_append, List.append_nil, List.length_cons, List.length_nil, Nat.zero_add, Nat.reduceAdd, List.drop_nil] at HB3
            refine l_nil ?_
            refine n_blk ?_
            refine n_then ?_
            refine wp_reg (by decide +kernel) ?_
            refine l_v (v_move (t := .int _ _) rfl) ?_
            refine l_v (v_add rfl rfl (by first | exact wr_i64 (by omega) (by omega) | rfl)) ?_
            refine l_v (v_assign (t := .int _ _) rfl) ?_
            refine l_nil ?_
            refine n_then ?_
            obtain ⟨cs2, HB4, HT4⟩ : ∃ l, Blk w114 b l 48 ∧ RfC w114 (fun i => (F i ∨ G i) ∧ i < n0) l (updS (jpS S O (([1, 2, 3, 4] : List Int).take (4 - 1))) (4 : Nat) (numS O (4 : Nat), ansS O (4 : Nat))) := ⟨_, HB3, HT3.put (c := 4) (by decide) (tAn_mk (HS1.mono fun i _ h => ⟨.inr h.1, h.2⟩) (HS2.mono fun i _ h => ⟨.inr h.1, h.2⟩) hi9)⟩
            refine ⟨(4 + 1, cs2), _, rfl, by (repeat (first | exact Off.of_over _ _ _ | refine Off.upd ?_ (by decide) _ | refine Off.overs ?_ (by decide) _)), ⟨by first | rfl | exact congrArg (Value.int _) (by omega) | (simp; done), trivial⟩, ⟨E, EL1, ?_⟩, ?_⟩
            · skip
              refine ⟨by omega, by omega, HB4, ?_⟩
              rw [show ([1, 2, 3, 4] : List Int).take (4 + 1 - 1) = ([1, 2, 3, 4] : List Int).take (4 - 1) ++ [((4 : Nat) : Int)] from rfl, jpS_yes hlt (hx9.trans (congrArg some hx9e))]
              exact HT4
            · (dsimp only; omega)
    · skip
      have hgt := dfalse hgt
      refine c_skip ?_
      refine n_blk ?_
      refine n_then ?_
      refine wp_reg (by decide +kernel) ?_
      refine l_v (v_move (t := .int _ _) rfl) ?_
      refine l_v (v_add rfl rfl (by first | exact wr_i64 (by omega) (by omega) | rfl)) ?_
      refine l_v (v_assign (t := .int _ _) rfl) ?_
      refine l_nil ?_
      refine n_then ?_
      refine ⟨(c + 1, cs), _, rfl, by (repeat (first | exact Off.of_over _ _ _ | refine Off.upd ?_ (by decide) _ | refine Off.overs ?_ (by decide) _)), ⟨by first | rfl | exact congrArg (Value.int _) (by omega) | (simp; done), trivial⟩, ⟨E, EL1, ?_⟩, ?_⟩
      · skip
        refine ⟨by omega, by omega, HB3, ?_⟩
        rw [clients_take h1 hlt4, jc2 hgt]
        exact HT3
      · (dsimp only; omega)
  · skip
    refine c_exit ?_
    refine x_then ?_
    refine x_then ?_
    refine x_hit ?_
    refine end0 rfl ?_
    have hc5 : c = 5 := by have := dfalse hlt; omega
    subst hc5
    refine ⟨⟨rfl, _, HB3, ?_⟩, E⟩
    rw [show ([1, 2, 3, 4] : List Int).take (5 - 1) = [1, 2, 3, 4] from rfl, jpS_clients okS okO] at HT3
    exact HT3.mono fun i _ h => h.1
end Go.Proofs.Ytlhanmlpionomaa

namespace Go.Proofs.Ytlhanmlpionomaa
open Go.Vc
set_option linter.unusedVariables false
set_option linter.unusedSimpArgs false
set_option maxRecDepth 100000

def eqC (S O : TbS) (c : Int) : Bool := decide (numS S c = numS O c) && (!decide (0 < numS S c) || decide (ansS S c = ansS O c))
def eqT (S O : TbS) : Bool := ([1, 2, 3, 4] : List Int).all (eqC S O)
theorem eqT_iff {S O : TbS} (okS : TbOk S) (okO : TbOk O) : eqT S O = true ↔ S = O := by
  constructor
  · intro h
    funext c
    by_cases hc : 1 ≤ c ∧ c ≤ 4
    · have hm : c ∈ ([1, 2, 3, 4] : List Int) := by
        have h5 : c = 1 ∨ c = 2 ∨ c = 3 ∨ c = 4 := by omega
        rcases h5 with rfl | rfl | rfl | rfl <;> simp
      have h2 := List.all_eq_true.1 h c hm
      unfold eqC at h2
      simp only [Bool.and_eq_true, decide_eq_true_eq, Bool.or_eq_true, Bool.not_eq_true', decide_eq_false_iff_not] at h2
      obtain ⟨h3, h4⟩ := h2
      by_cases h0 : 0 < numS S c
      · obtain ⟨x, hx, hx2⟩ := some_of_num h0
        obtain ⟨y, hy, hy2⟩ := some_of_num (S := O) (c := c) (by omega)
        rw [hx, hy, hx2, hy2, h3, h4.resolve_left (fun h => h h0)]
      · have e1 := numS_some okS c
        have e2 := numS_some okO c
        rw [decide_eq_false h0] at e1
        rw [decide_eq_false (by omega)] at e2
        rw [Option.isSome_eq_false_iff, Option.isNone_iff_eq_none] at e1 e2
        rw [e1, e2]
    · cases hS : S c with
      | some x => exact absurd (okS c x hS).1 hc
      | none =>
        cases hO : O c with
        | some x => exact absurd (okO c x hO).1 hc
        | none => rfl
  · rintro rfl
    simp [eqT, eqC]
end Go.Proofs.Ytlhanmlpionomaa
