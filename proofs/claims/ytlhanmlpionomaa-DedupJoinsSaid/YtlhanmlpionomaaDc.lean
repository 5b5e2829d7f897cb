/- A part of the proof: steps and lemmas for the walks through the given program. -/
import Derived.Test.YtlhanmlpionomaaDb
import Derived.Test.YtlhanmlpionomaaGz
namespace Go.Proofs.Ytlhanmlpionomaa
open Go.Vc
set_option linter.unusedVariables false
set_option linter.unusedSimpArgs false
set_option maxRecDepth 100000

set_option maxHeartbeats 8000000 in
theorem TJoin_c {w : World} {F G : Nat → Prop} {b bm bo bmo : Nat} {S O : TbS} (HB1 : Blk w b [.map (some bm)] 65) (HT1 : TbI w F bm S) (HB2 : Blk w bo [.map (some bmo)] 65) (HT2 : TbI w G bmo O) (okS : TbOk S) (okO : TbOk O) (hne : bm ≠ bmo) (hF : ∀ i, F i → i ≠ bm) (hG : ∀ i, G i → i ≠ bm) :
    CallsR Try.prog 29 #[.pointer (some ⟨b, 0, none⟩), .pointer (some ⟨bo, 0, none⟩)] w (fun o w' => (o = .int .i64 0 ∧ TbI w' (fun i => F i ∨ G i) bm (joinS S O)) ∧ Keep (fun i => i = bm) w w') := by
  obtain ⟨n0, hn0⟩ : ∃ n, n = w.heap.size := ⟨_, rfl⟩
  have zl1 := HB1.lt
  have zl2 := HB2.lt
  have zlm := HT1.lt
  have zlo := HT2.lt
  have ne1 := HT1.ne_blk HB1
  have ne2 := HT1.ne_blk HB2
  replace HT1 := HT1.mono (F' := fun i => (F i ∨ G i) ∧ i < n0) fun i hi h => ⟨.inl h, by omega⟩
  replace HT2 := HT2.mono (F' := fun i => G i ∧ i < n0) fun i hi h => ⟨h, by omega⟩
  have hFG : ∀ i, ((F i ∨ G i) ∧ i < n0) → i ≠ bm := fun i h => h.1.elim (hF i) (hG i)
  refine enterM 39 Try.func29 rfl rfl (by simp) ?_
  refine c_seq ?_
  have E := Keep.refl (K := fun i => i = bm) w
  refine wp_reg (by decide +kernel) ?_
  refine l_to (to_box (show _ = (Value.pointer _) from rfl) ?_)
  rintro b2 w2 zb2 HB12 e2 z2
  have zs_e2 := e2.size
  replace E := E.trans (Ext.keep e2)
  replace HB1 := HB1.ext e2
  replace HB2 := HB2.ext e2
  replace HT1 := HT1.ext e2
  replace HT2 := HT2.ext e2
  try simp only [Value.cells] at HB12
  refine l_to (to_box (show _ = (Value.pointer _) from rfl) ?_)
  rintro b3 w3 zb3 HB13 e3 z3
  have zs_e3 := e3.size
  replace E := E.trans (Ext.keep e3)
  replace HB1 := HB1.ext e3
  replace HB2 := HB2.ext e3
  replace HT1 := HT1.ext e3
  replace HT2 := HT2.ext e3
  replace HB12 := HB12.ext e3
  try simp only [Value.cells] at HB13
  refine l_v (v_assign rfl) ?_
  refine l_nil ?_
  refine n_then ?_
  refine c_seq ?_
  refine c_seq ?_
  refine wp_reg (by decide +kernel) ?_
  refine l_v (v_load (by kernel_rfl) rfl (by first | exact HB13.cell rfl | exact HB12.cell rfl | exact HB2.cell rfl | exact HB1.cell rfl | assumption)) ?_
  refine l_to (to_f1 (by kernel_rfl) (show _ = (Value.pointer _) from rfl) (CallsR.mono (there_c HB1) ?_))
  rintro _ w101 ⟨rfl, e101⟩
  have zs_e101 := e101.size
  replace E := E.trans (Ext.keep e101)
  replace HB1 := HB1.ext e101
  replace HB2 := HB2.ext e101
  replace HT1 := HT1.ext e101
  replace HT2 := HT2.ext e101
  replace HB12 := HB12.ext e101
  replace HB13 := HB13.ext e101
  refine l_v (v_not rfl) ?_
  refine l_v (v_move (t := .bool _) rfl) ?_
  refine l_g1 rfl rfl (fun hG => v_load (by kernel_rfl) rfl (by first | exact HB13.cell rfl | exact HB12.cell rfl | exact HB2.cell rfl | exact HB1.cell rfl | assumption)) ?_
  refine l_g1f rfl rfl (fun hG => to_f1 (by kernel_rfl) (gd hG rfl) (there_c HB2)) ?_
  rintro w102 e102
  have zs_e102 := e102.size
  replace E := E.trans (Ext.keep e102)
  replace HB1 := HB1.ext e102
  replace HB2 := HB2.ext e102
  replace HT1 := HT1.ext e102
  replace HT2 := HT2.ext e102
  replace HB12 := HB12.ext e102
  replace HB13 := HB13.ext e102
  refine l_g1 rfl rfl (fun hG => v_not (gd hG rfl)) ?_
  refine l_v (v_or rfl rfl) ?_
  refine l_nil ?_
  refine n_then ?_
  refine c_cond rfl rfl (fun h0 => ?_) (fun h0 => ?_)
  · skip
    cases h0
  · skip
    refine c_skip ?_
    refine n_then ?_
    refine c_seq ?_
    refine c_seq ?_
    refine wp_reg (by decide +kernel) ?_
    refine l_v (v_load (by kernel_rfl) rfl (by first | exact HB13.cell rfl | exact HB12.cell rfl | exact HB2.cell rfl | exact HB1.cell rfl | assumption)) ?_
    refine l_to (to_f1 (by kernel_rfl) (show _ = (Value.pointer _) from rfl) (CallsR.mono (All_c) ?_))
    rintro _ w4 ⟨b4, hb4, rfl, HB4, z4, e4⟩
    have zs_e4 := e4.size
    replace E := E.trans (Ext.keep e4)
    replace HB1 := HB1.ext e4
    replace HB2 := HB2.ext e4
    replace HT1 := HT1.ext e4
    replace HT2 := HT2.ext e4
    replace HB12 := HB12.ext e4
    replace HB13 := HB13.ext e4
    refine l_nil ?_
    refine n_then ?_
    refine c_block ?_
    obtain ⟨n4, hn4⟩ : ∃ n, n = w4.heap.size := ⟨_, rfl⟩
    refine c_rangeH (N := 39) rfl (show _ = (Value.func _ _ _) from rfl) (by kernel_rfl) (by decide) E (fun x : Fin (ksS O).length => [.int .i64 (ksS O)[x], .int .i64 (numS O (ksS O)[x])]) (fun _ => rfl) (fun i => i = bm) (fun i h => ⟨fun _ => h, by have h := h; (try dsimp only at h); omega⟩) (tabAll_stops (K := fun i => i = bm ∨ w4.heap.size ≤ i) okO HB4 HB2 HT2 (fun h => by have h := h; (try dsimp only at h); omega) (fun h => by have h := h; (try dsimp only at h); omega) (fun h => by have h := h; (try dsimp only at h); omega) (fun i h hk => by have := hG i h.1; have := h.2; have hk := hk; (try dsimp only at hk); omega)) (fun pre W => TbI W (fun i => (F i ∨ G i) ∧ i < n0) bm (jpS S O (pre.map fun x => (ksS O)[x]))) (fun c pre W => False) (fun s W W' t h => h.turn t (by omega) (fun i h => by have := h.2; omega)) (fun c s W W' t h => h) ((by rw [List.map_nil, jpS_nil]; exact HT1)) (fun x e1 W => Holds [(2, .pointer (some ⟨b2, 0, none⟩)), (3, .pointer (some ⟨b3, 0, none⟩)), (5, .int .i64 (ksS O)[x]), (6, .int .i64 (numS O (ksS O)[x]))] e1) (fun x e1 W W' t h => h) ?_ ?_ ?_ ?_
    · skip
      rintro l pre x w103 E EK HT5
      have zs_EK103 := EK.size
      have zs_E103 := E.size
      replace HB1 := HB1.keep EK (by intro h; have he0 := h; (try dsimp only at h); (try simp only [Value.ownBlock, Option.some.injEq] at h); first | omega | (have he := he0; first | (have := hFG _ hi; omega) | (rcases hi with hi | hi; (have := hG _ hi.1; omega); omega) | (rcases hi with hi | hi; (have := hFG _ hi; omega); omega)))
      replace HB2 := HB2.keep EK (by intro h; have he0 := h; (try dsimp only at h); (try simp only [Value.ownBlock, Option.some.injEq] at h); first | omega | (have he := he0; first | (have := hFG _ hi; omega) | (rcases hi with hi | hi; (have := hG _ hi.1; omega); omega) | (rcases hi with hi | hi; (have := hFG _ hi; omega); omega)))
      replace HT2 := HT2.keep EK (by intro i _ hi he; have he0 := he; (try dsimp only [NoK, AllB] at hi he); (try simp only [Value.ownBlock, Option.some.injEq] at he); first | exact hi.elim | exact he.elim | omega | (rcases hi with hi | hi <;> omega) | (rcases he with he | he <;> omega) | (first | (have := hFG _ hi; omega) | (rcases hi with hi | hi; (have := hG _ hi.1; omega); omega) | (rcases hi with hi | hi; (have := hFG _ hi; omega); omega)))
      replace HB12 := HB12.keep EK (by intro h; have he0 := h; (try dsimp only at h); (try simp only [Value.ownBlock, Option.some.injEq] at h); first | omega | (have he := he0; first | (have := hFG _ hi; omega) | (rcases hi with hi | hi; (have := hG _ hi.1; omega); omega) | (rcases hi with hi | hi; (have := hFG _ hi; omega); omega)))
      replace HB13 := HB13.keep EK (by intro h; have he0 := h; (try dsimp only at h); (try simp only [Value.ownBlock, Option.some.injEq] at h); first | omega | (have he := he0; first | (have := hFG _ hi; omega) | (rcases hi with hi | hi; (have := hG _ hi.1; omega); omega) | (rcases hi with hi | hi; (have := hFG _ hi; omega); omega)))
      have EL1 := Keep.refl (K := NoK) w103
      refine c_seq ?_
      refine wp_reg (by decide +kernel) ?_
      refine l_v (v_assign (t := .int _ _) rfl) ?_
      refine l_nil ?_
      refine n_then ?_
      refine wp_reg (by decide +kernel) ?_
      refine l_v (v_assign (t := .int _ _) rfl) ?_
      refine l_nil ?_
      refine n_then ?_
      exact ⟨_, rfl, EL1, HT5, ⟨rfl, rfl, rfl, rfl, trivial⟩⟩
    · skip
      rintro l pre x e1 w104 E EK HT5 hh hlen
      have zs_EK104 := EK.size
      have zs_E104 := E.size
      replace HB1 := HB1.keep EK (by intro h; have he0 := h; (try dsimp only at h); (try simp only [Value.ownBlock, Option.some.injEq] at h); first | omega | (have he := he0; first | (have := hFG _ hi; omega) | (rcases hi with hi | hi; (have := hG _ hi.1; omega); omega) | (rcases hi with hi | hi; (have := hFG _ hi; omega); omega)))
      replace HB2 := HB2.keep EK (by intro h; have he0 := h; (try dsimp only at h); (try simp only [Value.ownBlock, Option.some.injEq] at h); first | omega | (have he := he0; first | (have := hFG _ hi; omega) | (rcases hi with hi | hi; (have := hG _ hi.1; omega); omega) | (rcases hi with hi | hi; (have := hFG _ hi; omega); omega)))
      replace HT2 := HT2.keep EK (by intro i _ hi he; have he0 := he; (try dsimp only [NoK, AllB] at hi he); (try simp only [Value.ownBlock, Option.some.injEq] at he); first | exact hi.elim | exact he.elim | omega | (rcases hi with hi | hi <;> omega) | (rcases he with he | he <;> omega) | (first | (have := hFG _ hi; omega) | (rcases hi with hi | hi; (have := hG _ hi.1; omega); omega) | (rcases hi with hi | hi; (have := hFG _ hi; omega); omega)))
      replace HB12 := HB12.keep EK (by intro h; have he0 := h; (try dsimp only at h); (try simp only [Value.ownBlock, Option.some.injEq] at h); first | omega | (have he := he0; first | (have := hFG _ hi; omega) | (rcases hi with hi | hi; (have := hG _ hi.1; omega); omega) | (rcases hi with hi | hi; (have := hFG _ hi; omega); omega)))
      replace HB13 := HB13.keep EK (by intro h; have he0 := h; (try dsimp only at h); (try simp only [Value.ownBlock, Option.some.injEq] at h); first | omega | (have he := he0; first | (have := hFG _ hi; omega) | (rcases hi with hi | hi; (have := hG _ hi.1; omega); omega) | (rcases hi with hi | hi; (have := hFG _ hi; omega); omega)))
      obtain ⟨jj, rfl⟩ : ∃ j, e1 = updL _ j := ⟨_, hh.upd⟩
      have EL1 := Keep.refl (K := fun i => i = bm) w104
      refine c_block ?_
      refine c_seq ?_
      obtain ⟨l5, vs5, HT6⟩ := HT5.parts
      obtain ⟨l7, vs7, HT8⟩ := HT2.parts
      obtain ⟨ci, hci⟩ : ∃ ci, ci = (ksS O)[x] := ⟨_, rfl⟩
      obtain ⟨a5, c5, a6, c6, hl5, _, _, _, _, _⟩ := HT6.look ci
      obtain ⟨a7, c7, a8, c8, hl7, hs7, hs8, hi7, hi8, _⟩ := HT8.look ci
      obtain ⟨jc1, jc2⟩ := jp_cond (S := S) (O := O) (l := pre.map fun x => (ksS O)[x]) (c := ci)
      rw [← hci]
      refine wp_reg (by decide +kernel) ?_
      refine l_v (v_move (t := .int _ _) rfl) ?_
      refine l_v (v_load (by kernel_rfl) rfl (by first | exact HB13.cell rfl | exact HB12.cell rfl | exact HB2.cell rfl | exact HB1.cell rfl | assumption)) ?_
      refine l_v (v_nilCheck rfl) ?_
      refine l_v (v_fieldAddr (off := 0) (ft := 63) (by kernel_rfl) rfl) ?_
      refine l_v (v_load (by kernel_rfl) rfl (by first | exact HB13.pv 0 _ rfl | exact HB12.pv 0 _ rfl | exact HB2.pv 0 _ rfl | exact HB1.pv 0 _ rfl | assumption)) ?_
      refine l_v (v_move (t := .int _ _) rfl) ?_
      refine l_v (v_lookupE (el := 79) (k := ci) (z := .agg #[.int .i64 0, .int .i64 0, .slice none 0 0, .slice none 0 0]) kInt ⟨3, by kernel_rfl, by kernel_rfl⟩ (by unfold kZero; kernel_rfl) rfl (show _ = (Value.int _ _) from rfl) rfl HT6.1 hl5) ?_
      refine l_v (v_field (off := 0) (ft := 2) (by kernel_rfl) (by kernel_rfl) rfl rfl) ?_
      refine l_v (v_gtr rfl rfl) ?_
      refine l_nil ?_
      refine n_then ?_
      refine c_cond rfl rfl (fun hgt => ?_) (fun hgt => ?_)
      · skip
        have hgt := dtrue hgt
        have hlt := jc1 hgt
        obtain ⟨x9, hx9, hx9e⟩ := some_of_num (S := O) (c := ci) (by have := numS_rng okS ci; omega)
        have HG9 : AgV tAd _ (fun i => (F i ∨ G i) ∧ i < n0) _ (numS O ci, ansS O ci) := (AgV.mkAd hs7 hs8 hi8 hi7).mono fun i _ h => ⟨.inr h.1, h.2⟩
        refine wp_any (by kernel_rfl) ?_
        have e105 : Ext w104 { w104 with drawn := w104.drawn + 1 } := Keep.drawn _ _
        generalize hw105 : ({ w104 with drawn := w104.drawn + 1 } : World) = w105 at e105 ⊢
        clear hw105
        have zs_e105 := e105.size
        replace HB1 := HB1.ext e105
        replace HB2 := HB2.ext e105
        replace HB12 := HB12.ext e105
        replace HB13 := HB13.ext e105
        replace E := E.trans (Ext.keep e105)
        replace EL1 := EL1.trans (Ext.keep e105)
        replace HT6 := HT6.ext e105
        replace HT8 := HT8.ext e105
        replace HG9 := HG9.ext e105
        refine r_cut 11 rfl (by decide +kernel) (by decide +kernel) (by decide +kernel) ?_
        refine wp_regdW (NoK) (by decide +kernel) (by decide +kernel) ?_
        refine rt_v (fun vals w hR hd => v_load (by kernel_rfl) rfl (by first | exact (HB13.ext hR).cell rfl | exact (HB12.ext hR).cell rfl | exact (HB2.ext hR).cell rfl | exact (HB1.ext hR).cell rfl | assumption)) ?_
        refine rt_v (fun vals w hR hd => v_nilCheck (hd 0 rfl)) ?_
        refine rt_v (fun vals w hR hd => v_fieldAddr (off := 0) (ft := 63) (by kernel_rfl) (hd 1 rfl)) ?_
        refine rt_v (fun vals w hR hd => v_load (by kernel_rfl) (hd 2 rfl) (by first | exact (HB13.ext hR).pv 0 _ rfl | exact (HB12.ext hR).pv 0 _ rfl | exact (HB2.ext hR).pv 0 _ rfl | exact (HB1.ext hR).pv 0 _ rfl | assumption)) ?_
        refine rt_v (fun vals w hR hd => v_move (t := .int _ _) rfl) ?_
        refine rt_v (fun vals w hR hd => v_load (by kernel_rfl) rfl (by first | exact (HB13.ext hR).cell rfl | exact (HB12.ext hR).cell rfl | exact (HB2.ext hR).cell rfl | exact (HB1.ext hR).cell rfl | assumption)) ?_
        refine rt_v (fun vals w hR hd => v_nilCheck (hd 5 rfl)) ?_
        refine rt_v (fun vals w hR hd => v_fieldAddr (off := 0) (ft := 63) (by kernel_rfl) (hd 6 rfl)) ?_
        refine rt_v (fun vals w hR hd => v_load (by kernel_rfl) (hd 7 rfl) (by first | exact (HB13.ext hR).pv 0 _ rfl | exact (HB12.ext hR).pv 0 _ rfl | exact (HB2.ext hR).pv 0 _ rfl | exact (HB1.ext hR).pv 0 _ rfl | assumption)) ?_
        refine rt_v (fun vals w hR hd => v_move (t := .int _ _) rfl) ?_
        refine rt_v (fun vals w hR hd => v_lookupE (el := 79) (k := ci) (z := .agg #[.int .i64 0, .int .i64 0, .slice none 0 0, .slice none 0 0]) kInt ⟨3, by kernel_rfl, by kernel_rfl⟩ (by unfold kZero; kernel_rfl) (hd 8 rfl) (hd 9 rfl) rfl (HT8.ext hR).1 hl7) ?_
        refine rt_nil (fun w20 e20 => ?_)
        rintro _ rfl _ rfl _ rfl _ rfl _ rfl _ rfl _ rfl _ rfl _ rfl _ rfl _ rfl
        have zs_e20 := e20.size
        replace HB1 := HB1.ext e20
        replace HB2 := HB2.ext e20
        replace HB12 := HB12.ext e20
        replace HB13 := HB13.ext e20
        replace E := E.trans (Ext.keep e20)
        replace EL1 := EL1.trans (Ext.keep e20)
        replace HT6 := HT6.ext e20
        replace HT8 := HT8.ext e20
        replace HG9 := HG9.ext e20
        refine fin_nil ?_
        refine n_then ?_
        refine r_one (by decide +kernel) rfl ?_
        have hv9 := HG9
        refine l_to (to_mapUpdate (el := 79) (k := ci) kInt ⟨3, by kernel_rfl, by kernel_rfl⟩ rfl (show _ = (Value.int _ _) from rfl) rfl (show _ = (Value.agg _) from rfl) HT6.1 ?_)
        rintro w40 HM40 k40 z40
        have zs_k40 := k40.size
        replace HB1 := HB1.keep k40 (by intro h; have he0 := h; (try dsimp only at h); (try simp only [Value.ownBlock, Option.some.injEq] at h); first | omega | (have he := he0; first | (have := hFG _ hi; omega) | (rcases hi with hi | hi; (have := hG _ hi.1; omega); omega) | (rcases hi with hi | hi; (have := hFG _ hi; omega); omega)))
        replace HB2 := HB2.keep k40 (by intro h; have he0 := h; (try dsimp only at h); (try simp only [Value.ownBlock, Option.some.injEq] at h); first | omega | (have he := he0; first | (have := hFG _ hi; omega) | (rcases hi with hi | hi; (have := hG _ hi.1; omega); omega) | (rcases hi with hi | hi; (have := hFG _ hi; omega); omega)))
        replace HB12 := HB12.keep k40 (by intro h; have he0 := h; (try dsimp only at h); (try simp only [Value.ownBlock, Option.some.injEq] at h); first | omega | (have he := he0; first | (have := hFG _ hi; omega) | (rcases hi with hi | hi; (have := hG _ hi.1; omega); omega) | (rcases hi with hi | hi; (have := hFG _ hi; omega); omega)))
        replace HB13 := HB13.keep k40 (by intro h; have he0 := h; (try dsimp only at h); (try simp only [Value.ownBlock, Option.some.injEq] at h); first | omega | (have he := he0; first | (have := hFG _ hi; omega) | (rcases hi with hi | hi; (have := hG _ hi.1; omega); omega) | (rcases hi with hi | hi; (have := hFG _ hi; omega); omega)))
        replace E := E.step k40 (by intro i hi he; have he0 := he; (try dsimp only [NoK] at hi he ⊢); (try simp only [Value.ownBlock, Option.some.injEq] at he); first | exact he.elim | omega | exact he | (first | (have := hFG _ hi; omega) | (rcases hi with hi | hi; (have := hG _ hi.1; omega); omega) | (rcases hi with hi | hi; (have := hFG _ hi; omega); omega)))
        replace EL1 := EL1.step k40 (by intro i hi he; have he0 := he; (try dsimp only [NoK] at hi he ⊢); (try simp only [Value.ownBlock, Option.some.injEq] at he); first | exact he.elim | omega | exact he | (first | (have := hFG _ hi; omega) | (rcases hi with hi | hi; (have := hG _ hi.1; omega); omega) | (rcases hi with hi | hi; (have := hFG _ hi; omega); omega)))
        refine l_nil ?_
        refine n_blk ?_
        refine ⟨EL1, ?_⟩
        have hT := HT6.set (F' := fun i => (F i ∨ G i) ∧ i < n0) hv9 (fun i _ h => h) (fun i h => hFG i h) k40 HM40
        show TbI _ _ _ (jpS S O ((pre ++ [x]).map fun x => (ksS O)[x]))
        rw [List.map_append, List.map_singleton, ← hci, jpS_yes hlt (hx9.trans (congrArg some hx9e))]
        exact hT
      · skip
        have hgt := dfalse hgt
        refine c_skip ?_
        refine n_blk ?_
        refine ⟨EL1, ?_⟩
        show TbI _ _ _ (jpS S O ((pre ++ [x]).map fun x => (ksS O)[x]))
        rw [List.map_append, List.map_singleton, ← hci, jc2 hgt]
        exact HT6.tb
    · skip
      rintro D w106 hD E EK HT5 HD
      have zs_EK106 := EK.size
      have zs_E106 := E.size
      replace HB1 := HB1.keep EK (by intro h; have he0 := h; (try dsimp only at h); (try simp only [Value.ownBlock, Option.some.injEq] at h); first | omega | (have he := he0; first | (have := hFG _ hi; omega) | (rcases hi with hi | hi; (have := hG _ hi.1; omega); omega) | (rcases hi with hi | hi; (have := hFG _ hi; omega); omega)))
      replace HB2 := HB2.keep EK (by intro h; have he0 := h; (try dsimp only at h); (try simp only [Value.ownBlock, Option.some.injEq] at h); first | omega | (have he := he0; first | (have := hFG _ hi; omega) | (rcases hi with hi | hi; (have := hG _ hi.1; omega); omega) | (rcases hi with hi | hi; (have := hFG _ hi; omega); omega)))
      replace HT2 := HT2.keep EK (by intro i _ hi he; have he0 := he; (try dsimp only [NoK, AllB] at hi he); (try simp only [Value.ownBlock, Option.some.injEq] at he); first | exact hi.elim | exact he.elim | omega | (rcases hi with hi | hi <;> omega) | (rcases he with he | he <;> omega) | (first | (have := hFG _ hi; omega) | (rcases hi with hi | hi; (have := hG _ hi.1; omega); omega) | (rcases hi with hi | hi; (have := hFG _ hi; omega); omega)))
      replace HB12 := HB12.keep EK (by intro h; have he0 := h; (try dsimp only at h); (try simp only [Value.ownBlock, Option.some.injEq] at h); first | omega | (have he := he0; first | (have := hFG _ hi; omega) | (rcases hi with hi | hi; (have := hG _ hi.1; omega); omega) | (rcases hi with hi | hi; (have := hFG _ hi; omega); omega)))
      replace HB13 := HB13.keep EK (by intro h; have he0 := h; (try dsimp only at h); (try simp only [Value.ownBlock, Option.some.injEq] at h); first | omega | (have he := he0; first | (have := hFG _ hi; omega) | (rcases hi with hi | hi; (have := hG _ hi.1; omega); omega) | (rcases hi with hi | hi; (have := hFG _ hi; omega); omega)))
      refine n_blk ?_
      refine n_then ?_
      refine c_seq ?_
      refine wp_reg (by decide +kernel) ?_
      refine l_v (v_assign rfl) ?_
      refine l_nil ?_
      refine n_then ?_
      refine c_ret ?_
      refine retM1v HD rfl (by decide) (show _ = (Value.int _ _) from rfl) ?_
      have E := keep_put E (by omega : w.heap.size ≤ D) (.deferred none)
      rw [map_fin, jpS_all okS okO] at HT5
      exact ⟨⟨rfl, (HT5.turn (turn_put HD hD (.deferred none)) (by omega) (fun i h => by have := h.2; omega)).mono fun i _ h => h.1⟩, E⟩
    · skip
      rintro D _ pre W hD E EK hpre h HD; exact h.elim
end Go.Proofs.Ytlhanmlpionomaa

namespace Go.Proofs.Ytlhanmlpionomaa
open Go.Vc
set_option linter.unusedVariables false
set_option linter.unusedSimpArgs false
set_option maxRecDepth 100000

set_option maxHeartbeats 8000000 in
theorem TJoinSelf_c {w : World} {F : Nat → Prop} {b bm : Nat} {S : TbS} (HB1 : Blk w b [.map (some bm)] 65) (HT1 : TbI w F bm S) (okS : TbOk S) :
    CallsR Try.prog 29 #[.pointer (some ⟨b, 0, none⟩), .pointer (some ⟨b, 0, none⟩)] w (fun o w' => o = .int .i64 0 ∧ Ext w w') := by
  obtain ⟨n0, hn0⟩ : ∃ n, n = w.heap.size := ⟨_, rfl⟩
  have zl1 := HB1.lt
  have zlm := HT1.lt
  replace HT1 := HT1.mono (F' := fun i => F i ∧ i < n0) fun i hi h => ⟨h, by omega⟩
  refine enterM 39 Try.func29 rfl rfl (by simp) ?_
  refine c_seq ?_
  have E := Keep.refl (K := NoK) w
  refine wp_reg (by decide +kernel) ?_
  refine l_to (to_box (show _ = (Value.pointer _) from rfl) ?_)
  rintro b2 w2 zb2 HB12 e2 z2
  have zs_e2 := e2.size
  replace E := E.trans (Ext.keep e2)
  replace HB1 := HB1.ext e2
  replace HT1 := HT1.ext e2
  try simp only [Value.cells] at HB12
  refine l_to (to_box (show _ = (Value.pointer _) from rfl) ?_)
  rintro b3 w3 zb3 HB13 e3 z3
  have zs_e3 := e3.size
  replace E := E.trans (Ext.keep e3)
  replace HB1 := HB1.ext e3
  replace HT1 := HT1.ext e3
  replace HB12 := HB12.ext e3
  try simp only [Value.cells] at HB13
  refine l_v (v_assign rfl) ?_
  refine l_nil ?_
  refine n_then ?_
  refine c_seq ?_
  refine c_seq ?_
  refine wp_reg (by decide +kernel) ?_
  refine l_v (v_load (by kernel_rfl) rfl (by first | exact HB13.cell rfl | exact HB12.cell rfl | exact HB1.cell rfl | assumption)) ?_
  refine l_to (to_f1 (by kernel_rfl) (show _ = (Value.pointer _) from rfl) (CallsR.mono (there_c HB1) ?_))
  rintro _ w101 ⟨rfl, e101⟩
  have zs_e101 := e101.size
  replace E := E.trans (Ext.keep e101)
  replace HB1 := HB1.ext e101
  replace HT1 := HT1.ext e101
  replace HB12 := HB12.ext e101
  replace HB13 := HB13.ext e101
  refine l_v (v_not rfl) ?_
  refine l_v (v_move (t := .bool _) rfl) ?_
  refine l_g1 rfl rfl (fun hG => v_load (by kernel_rfl) rfl (by first | exact HB13.cell rfl | exact HB12.cell rfl | exact HB1.cell rfl | assumption)) ?_
  refine l_g1f rfl rfl (fun hG => to_f1 (by kernel_rfl) (gd hG rfl) (there_c HB1)) ?_
  rintro w102 e102
  have zs_e102 := e102.size
  replace E := E.trans (Ext.keep e102)
  replace HB1 := HB1.ext e102
  replace HT1 := HT1.ext e102
  replace HB12 := HB12.ext e102
  replace HB13 := HB13.ext e102
  refine l_g1 rfl rfl (fun hG => v_not (gd hG rfl)) ?_
  refine l_v (v_or rfl rfl) ?_
  refine l_nil ?_
  refine n_then ?_
  refine c_cond rfl rfl (fun h0 => ?_) (fun h0 => ?_)
  · skip
    cases h0
  · skip
    refine c_skip ?_
    refine n_then ?_
    refine c_seq ?_
    refine c_seq ?_
    refine wp_reg (by decide +kernel) ?_
    refine l_v (v_load (by kernel_rfl) rfl (by first | exact HB13.cell rfl | exact HB12.cell rfl | exact HB1.cell rfl | assumption)) ?_
    refine l_to (to_f1 (by kernel_rfl) (show _ = (Value.pointer _) from rfl) (CallsR.mono (All_c) ?_))
    rintro _ w4 ⟨b4, hb4, rfl, HB4, z4, e4⟩
    have zs_e4 := e4.size
    replace E := E.trans (Ext.keep e4)
    replace HB1 := HB1.ext e4
    replace HT1 := HT1.ext e4
    replace HB12 := HB12.ext e4
    replace HB13 := HB13.ext e4
    refine l_nil ?_
    refine n_then ?_
    refine c_block ?_
    refine c_rangeK (N := 39) rfl (show _ = (Value.func _ _ _) from rfl) (by kernel_rfl) (by decide) E (fun x : Fin (ksS S).length => [.int .i64 (ksS S)[x], .int .i64 (numS S (ksS S)[x])]) (fun _ => rfl) (NoK) (fun i h => h.elim) (tabAll_stops (K := fun i => NoK i ∨ w4.heap.size ≤ i) okS HB4 HB1 HT1 (fun h => by rcases h with h | h; exact h.elim; (try dsimp only at h); omega) (fun h => by rcases h with h | h; exact h.elim; (try dsimp only at h); omega) (fun h => by rcases h with h | h; exact h.elim; (try dsimp only at h); omega) (fun i h hk => by have := h.2; rcases hk with hk | hk; exact hk.elim; (try dsimp only at hk); omega)) (fun pre W => True) (fun c pre W => False) (fun s W W' t h => h) (fun c s W W' t h => h) (trivial) (fun x e1 W => Holds [(2, .pointer (some ⟨b2, 0, none⟩)), (3, .pointer (some ⟨b3, 0, none⟩)), (5, .int .i64 (ksS S)[x]), (6, .int .i64 (numS S (ksS S)[x]))] e1) (fun x e1 W W' t h => h) ?_ ?_ ?_ ?_
    · skip
      rintro l pre x w103 E EK _
      have zs_EK103 := EK.size
      have zs_E103 := E.size
      replace HB1 := HB1.ext EK
      replace HT1 := HT1.ext EK
      replace HB12 := HB12.ext EK
      replace HB13 := HB13.ext EK
      have EL1 := Keep.refl (K := NoK) w103
      refine c_seq ?_
      refine wp_reg (by decide +kernel) ?_
      refine l_v (v_assign (t := .int _ _) rfl) ?_
      refine l_nil ?_
      refine n_then ?_
      refine wp_reg (by decide +kernel) ?_
      refine l_v (v_assign (t := .int _ _) rfl) ?_
      refine l_nil ?_
      refine n_then ?_
      exact ⟨_, rfl, EL1, trivial, ⟨rfl, rfl, rfl, rfl, trivial⟩⟩
    · skip
      rintro l pre x e1 w104 E EK _ hh hlen
      have zs_EK104 := EK.size
      have zs_E104 := E.size
      replace HB1 := HB1.ext EK
      replace HT1 := HT1.ext EK
      replace HB12 := HB12.ext EK
      replace HB13 := HB13.ext EK
      obtain ⟨jj, rfl⟩ : ∃ j, e1 = updL _ j := ⟨_, hh.upd⟩
      have EL1 := Keep.refl (K := NoK) w104
      refine c_block ?_
      refine c_seq ?_
      obtain ⟨l7, vs7, HT8⟩ := HT1.parts
      obtain ⟨ci, hci⟩ : ∃ ci, ci = (ksS S)[x] := ⟨_, rfl⟩
      obtain ⟨a7, c7, a8, c8, hl7, _⟩ := HT8.look ci
      rw [← hci]
      refine wp_reg (by decide +kernel) ?_
      refine l_v (v_move (t := .int _ _) rfl) ?_
      refine l_v (v_load (by kernel_rfl) rfl (by first | exact HB13.cell rfl | exact HB12.cell rfl | exact HB1.cell rfl | assumption)) ?_
      refine l_v (v_nilCheck rfl) ?_
      refine l_v (v_fieldAddr (off := 0) (ft := 63) (by kernel_rfl) rfl) ?_
      refine l_v (v_load (by kernel_rfl) rfl (by first | exact HB13.pv 0 _ rfl | exact HB12.pv 0 _ rfl | exact HB1.pv 0 _ rfl | assumption)) ?_
      refine l_v (v_move (t := .int _ _) rfl) ?_
      refine l_v (v_lookupE (el := 79) (k := ci) (z := .agg #[.int .i64 0, .int .i64 0, .slice none 0 0, .slice none 0 0]) kInt ⟨3, by kernel_rfl, by kernel_rfl⟩ (by unfold kZero; kernel_rfl) rfl (show _ = (Value.int _ _) from rfl) rfl HT8.1 hl7) ?_
      refine l_v (v_field (off := 0) (ft := 2) (by kernel_rfl) (by kernel_rfl) rfl rfl) ?_
      refine l_v (v_gtr rfl rfl) ?_
      refine l_nil ?_
      refine n_then ?_
      refine c_cond rfl rfl (fun hgt => ?_) (fun hgt => ?_)
      · skip
        have := dtrue hgt; omega
      · skip
        refine c_skip ?_
        refine n_blk ?_
        refine ⟨EL1, ?_⟩
        trivial
    · skip
      rintro D w105 hD E EK _ HD
      have zs_EK105 := EK.size
      have zs_E105 := E.size
      replace HB1 := HB1.ext EK
      replace HT1 := HT1.ext EK
      replace HB12 := HB12.ext EK
      replace HB13 := HB13.ext EK
      refine n_blk ?_
      refine n_then ?_
      refine c_seq ?_
      refine wp_reg (by decide +kernel) ?_
      refine l_v (v_assign rfl) ?_
      refine l_nil ?_
      refine n_then ?_
      refine c_ret ?_
      refine retM1v HD rfl (by decide) (show _ = (Value.int _ _) from rfl) ?_
      have E := keep_put E (by omega : w.heap.size ≤ D) (.deferred none)
      exact ⟨rfl, E⟩
    · skip
      rintro D _ pre W hD E EK hpre h HD; exact h.elim
theorem TCopy_c {w : World} {F : Nat → Prop} {b bm : Nat} {S : TbS} (HB1 : Blk w b [.map (some bm)] 65) (HT1 : TbI w F bm S) (okS : TbOk S) :
    CallsR Try.prog 26 #[.pointer (some ⟨b, 0, none⟩)] w (fun o w' => (∃ b' bm', o = .pointer (some ⟨b', 0, none⟩) ∧ w.heap.size ≤ b' ∧ w.heap.size ≤ bm' ∧ b' ≠ bm' ∧ Blk w' b' [.map (some bm')] 65 ∧ TbI w' F bm' S) ∧ Ext w w') := by
  have zl1 := HB1.lt
  have zlm := HT1.lt
  replace HT1 := HT1.mono (F' := fun i => F i ∧ i < w.heap.size) fun i hi h => ⟨h, hi⟩
  refine enter 12 Try.func26 rfl rfl (by simp) ?_
  refine c_seq ?_
  have E := Keep.refl (K := NoK) w
  refine wp_reg (by decide +kernel) ?_
  refine l_v (v_assign rfl) ?_
  refine l_nil ?_
  refine n_then ?_
  refine c_seq ?_
  refine c_seq ?_
  refine wp_reg (by decide +kernel) ?_
  refine l_v (v_move (t := .pointer _) rfl) ?_
  refine l_to (to_f1 (by kernel_rfl) (show _ = (Value.pointer _) from rfl) (CallsR.mono (there_c HB1) ?_))
  rintro _ w101 ⟨rfl, e101⟩
  have zs_e101 := e101.size
  replace E := E.trans (Ext.keep e101)
  replace HB1 := HB1.ext e101
  replace HT1 := HT1.ext e101
  refine l_v (v_not rfl) ?_
  refine l_nil ?_
  refine n_then ?_
  refine c_cond rfl rfl (fun h0 => ?_) (fun h0 => ?_)
  · skip
    cases h0
  · skip
    refine c_skip ?_
    refine n_then ?_
    refine c_seq ?_
    refine wp_reg (by decide +kernel) ?_
    refine l_to (to_f0 (by kernel_rfl) (CallsR.mono (New_c) ?_))
    rintro _ w2 ⟨b2, bm2, rfl, hb2, hb3, hne, HB2, HT2, e2⟩
    have zs_e2 := e2.size
    replace E := E.trans (Ext.keep e2)
    replace HB1 := HB1.ext e2
    replace HT1 := HT1.ext e2
    refine l_v (v_assign (t := .pointer _) rfl) ?_
    refine l_nil ?_
    refine n_then ?_
    refine c_seq ?_
    refine wp_reg (by decide +kernel) ?_
    refine l_v (v_move (t := .pointer _) rfl) ?_
    refine l_v (v_move (t := .pointer _) rfl) ?_
    refine l_to (to_f2 (by kernel_rfl) (show _ = (Value.pointer _) from rfl) (show _ = (Value.pointer _) from rfl) (CallsR.mono (TJoin_c HB2 HT2 HB1 HT1 ok_new okS (by omega) (fun i h => h.elim) (fun i h => by have := h.2; omega)) ?_))
    rintro _ w3 ⟨⟨rfl, HT3⟩, k3⟩
    have zs_k3 := k3.size
    replace E := E.step k3 (by intro i hi he; (try dsimp only [NoK] at hi he ⊢); first | exact he.elim | omega | exact he)
    replace HB1 := HB1.keep k3 (by intro h; (try dsimp only at h); first | omega)
    replace HT1 := HT1.keep k3 (by intro i _ hi he; (try dsimp only [NoK, AllB] at hi he); first | exact hi.elim | exact he.elim | omega | (rcases hi with hi | hi <;> omega) | (rcases he with he | he <;> omega))
    replace HB2 := HB2.keep k3 (by intro h; (try dsimp only at h); first | omega)
    refine l_nil ?_
    refine n_then ?_
    refine c_seq ?_
    refine wp_reg (by decide +kernel) ?_
    refine l_v (v_move (t := .pointer _) rfl) ?_
    refine l_v (v_assign (t := .pointer _) rfl) ?_
    refine l_nil ?_
    refine n_then ?_
    refine c_ret ?_
    refine ret1v rfl (by decide) (show _ = (Value.pointer _) from rfl) ?_
    rw [joinS_new okS] at HT3
    exact ⟨⟨b2, bm2, rfl, by omega, by omega, hne, HB2, HT3.mono fun i _ h => h.elim (fun h => h.elim) (fun h => h.1)⟩, E⟩
end Go.Proofs.Ytlhanmlpionomaa

namespace Go.Proofs.Ytlhanmlpionomaa
open Go.Vc
set_option linter.unusedVariables false
set_option linter.unusedSimpArgs false
set_option maxRecDepth 100000

/-- what a table's clients are told to be, in any later world -/
def LastOk (o : Option Addr) (S : TbS) (K : Nat → Prop) (w0 : World) : Prop := ∀ W c, Keep K w0 W → CallsR Try.prog 18 #[.pointer o, .int .i64 c] W (fun r W' => r = .tuple #[.int .i64 (numS S c), .bool (S c).isSome] ∧ Ext W W')
theorem LastOk.made {w0 : World} {F K : Nat → Prop} {b bm : Nat} {S : TbS} (hok : TbOk S) (HB1 : Blk w0 b [.map (some bm)] 65) (HT1 : TbI w0 F bm S) (hb : ¬ K b) (hm : ¬ K bm) (hF : ∀ i, i < w0.heap.size → F i → ¬ K i) : LastOk (some ⟨b, 0, none⟩) S K w0 :=
  fun W c k => Last_c (HB1.keep k hb) (HT1.keep k (fun i hi h => h.elim (fun h => hF i hi h) (fun h => h ▸ hm))) hok
theorem ks_cnt (S : TbS) : (ksS S).length = cntS S := rfl
end Go.Proofs.Ytlhanmlpionomaa
