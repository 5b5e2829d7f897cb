/- A part of the proof: steps and lemmas for the walks through the given program. -/
import Derived.Test.YtlhanmlpionomaaDb
import Derived.Test.YtlhanmlpionomaaGz
namespace Go.Proofs.Ytlhanmlpionomaa
open Go.Vc
set_option linter.unusedVariables false
set_option linter.unusedSimpArgs false
set_option maxRecDepth 100000

set_option maxHeartbeats 8000000 in
theorem TJoin_c {w : World} {F G : Nat → Prop} {b bm bo bmo : Nat} {S O : TbS} (HB1 : Blk w b [.map (some bm)] 65) (HT1 : TbI w F bm S) (HB2 : Blk w bo [.map (some bmo)] 65) (HT2 : TbI w G bmo O) (okS : TbOk S) (okO : TbOk O) (hne : bm ≠ bmo) (hF : ∀ i, F i → i ≠ bm) (hG : ∀ i, G i → i ≠ bm) :
    CallsR Try.prog 29 #[.pointer (some ⟨b, 0, none⟩), .pointer (some ⟨bo, 0, none⟩)] w (fun o w' => (o = .int .i64 0 ∧ TbI w' (fun i => F i ∨ G i) bm (joinS S O)) ∧ Keep (fun i => i = bm) w w') := by
  obtain ⟨n0, hn0⟩ : ∃ n, n = w.heap.size := ⟨_, rfl⟩
  have zl1 := HB1.lt
  have zl2 := HB2.lt
  have zlm := HT1.lt
  have zlo := HT2.lt
  have ne1 := HT1.ne_blk HB1
  have ne2 := HT1.ne_blk HB2
  replace HT1 := HT1.mono (F' := fun i => (F i ∨ G i) ∧ i < n0) fun i hi h => ⟨.inl h, by omega⟩
  replace HT2 := HT2.mono (F' := fun i => G i ∧ i < n0) fun i hi h => ⟨h, by omega⟩
  have hFG : ∀ i, ((F i ∨ G i) ∧ i < n0) → i ≠ bm := fun i h => h.1.elim (hF i) (hG i)
  refine enterM 39 Try.func29 rfl rfl (by simp) ?_
  refine c_seq ?_
  have E := Keep.refl (K := fun i => i = bm) w
  refine wp_reg (by decide +kernel) ?_
  refine l_to (to_box (show _ = (Value.pointer _) from rfl) ?_)
  rintro b2 w2 zb2 HB12 e2 z2
  have zs_e2 := e2.size
  replace E := E.trans (Ext.keep e2)
  replace HB1 := HB1.ext e2
  replace HB2 := HB2.ext e2
  replace HT1 := HT1.ext e2
  replace HT2 := HT2.ext e2
  try simp only [Value.cells] at HB12
  refine l_to (to_box (show _ = (Value.pointer _) from rfl) ?_)
  rintro b3 w3 zb3 HB13 e3 z3
  have zs_e3 := e3.size
  replace E := E.trans (Ext.keep e3)
  replace HB1 := HB1.ext e3
  replace HB2 := HB2.ext e3
  replace HT1 := HT1.ext e3
  replace HT2 := HT2.ext e3
  replace HB12 := HB12.ext e3
  try simp only [Value.cells] at HB13
  refine l_v (v_assign rfl) ?_
  refine l_nil ?_
  refine n_then ?_
  refine c_seq ?_
  refine c_seq ?_
  refine wp_reg (by decide +kernel) ?_
  refine l_v (v_load (by kernel_rfl) rfl (by first | exact HB13.cell rfl | exact HB12.cell rfl | exact HB2.cell rfl | exact HB1.cell rfl | assumption)) ?_
  refine l_to (to_f1 (by kernel_rfl) (show _ = (Value.pointer _) from rfl) (CallsR.mono (there_c HB1) ?_))
  rintro _ w101 ⟨rfl, e101⟩
  have zs_e101 := e101.size
  replace E := E.trans (Ext.keep e101)
  replace HB1 := HB1.ext e101
  replace HB2 := HB2.ext e101
  replace HT1 := HT1.ext e101
  replace HT2 := HT2.ext e101
  replace HB12 := HB12.ext e101
  replace HB13 := HB13.ext e101
  refine l_v (v_not rfl) ?_
  refine l_v (v_move (t := .bool _) rfl) ?_
  refine l_g1 rfl rfl (fun hG => v_load (by kernel_rfl) rfl (by first | exact HB13.cell rfl | exact HB12.cell rfl | exact HB2.cell rfl | exact HB1.cell rfl | assumption)) ?_
  refine l_g1f rfl rfl (fun hG => to_f1 (by kernel_rfl) (gd hG rfl) (there_c HB2)) ?_
  rintro w102 e102
  have zs_e102 := e102.size
  replace E := E.trans (Ext.keep e102)
  replace HB1 := HB1.ext e102
  replace HB2 := HB2.ext e102
  replace HT1 := HT1.ext e102
  replace HT2 := HT2.ext e102
  replace HB12 := HB12.ext e102
  replace HB13 := HB13.ext e102
  refine l_g1 rfl rfl (fun hG => v_not (gd hG rfl)) ?_
  refine l_v (v_or rfl rfl) ?_
  refine l_nil ?_
  refine n_then ?_
  refine c_cond rfl rfl (fun h0 => ?_) (fun h0 => ?_)
  · skip
    cases h0
  · skip
    refine c_skip ?_
    refine n_then ?_
    refine c_seq ?_
    refine c_seq ?_
    refine wp_reg (by decide +kernel) ?_
    refine l_v (v_load (by kernel_rfl) rfl (by first | exact HB13.cell rfl | exact HB12.cell rfl | exact HB2.cell rfl | exact HB1.cell rfl | assumption)) ?_
    refine l_to (to_f1 (by kernel_rfl) (show _ = (Value.pointer _) from rfl) (CallsR.mono (All_c) ?_))
    rintro _ w4 ⟨b4, hb4, rfl, HB4, z4, e4⟩
    have zs_e4 := e4.size
    replace E := E.trans (Ext.keep e4)
    replace HB1 := HB1.ext e4
    replace HB2 := HB2.ext e4
    replace HT1 := HT1.ext e4
    replace HT2 := HT2.ext e4
    replace HB12 := HB12.ext e4
    replace HB13 := HB13.ext e4
    refine l_nil ?_
    refine n_then ?_
    refine c_block ?_
    obtain ⟨n4, hn4⟩ : ∃ n, n = w4.heap.size := ⟨_, rfl⟩
    refine c_rangeH (N := 39) rfl (show _ = (Value.func _ _ _) from rfl) (by kernel_rfl) (by decide) E (fun x : Fin (ksS O).length => [.int .i64 (ksS O)[x], .int .i64 (numS O (ksS O)[x])]) (fun _ => rfl) (fun i => i = bm) (fun i h => ⟨fun _ => h, by have h := h; (try dsimp only at h); omega⟩) (tabAll_stops (K := fun i => i = bm ∨ w4.heap.size ≤ i) okO HB4 HB2 HT2 (fun h => by have h := h; (try dsimp only at h); omega) (fun h => by have h := h; (try dsimp only at h); omega) (fun h => by have h := h; (try dsimp only at h); omega) (fun i h hk => by have := hG i h.1; have := h.2; have hk := hk; (try dsimp only at hk); omega)) (fun pre W => TbI W (fun i => (F i ∨ G i) ∧ i < n0) bm (jpS S O (pre.map fun x => (ksS O)[x]))) (fun c pre W => False) (fun s W W' t h => h.turn t (by omega) (fun i h => by have := h.2; omega)) (fun c s W W' t h => h) ((by rw [List.map_nil, jpS_nil]; exact HT1)) (fun x e1 W => Holds [(2, .pointer (some ⟨b2, 0, none⟩)), (3, .pointer (some ⟨b3, 0, none⟩)), (5, .int .i64 (ksS O)[x]), (6, .int .i64 (numS O (ksS O)[x]))] e1) (fun x e1 W W' t h => h) ?_ ?_ ?_ ?_
    · skip
      rintro l pre x w103 E EK HT5
      have zs_EK103 := EK.size
      have zs_E103 := E.size
      replace HB1 := HB1.keep EK (by intro h; have he0 := h; (try dsimp only at h); (try simp only [Value.ownBlock, Option.some.injEq] at h); first | omega | (have he := he0; first | (have := hFG _ hi; omega) | (rcases hi with hi | hi; (have := hG _ hi.1; omega); omega) | (rcases hi with hi | hi; (have := hFG _ hi; omega); omega)))
      replace HB2 := HB2.keep EK (by intro h; have he0 := h; (try dsimp only at h); (try simp only [Value.ownBlock, Option.some.injEq] at h); first | omega | (have he := he0; first | (have := hFG _ hi; omega) | (rcases hi with hi | hi; (have := hG _ hi.1; omega); omega) | (rcases hi with hi | hi; (have := hFG _ hi; omega); omega)))
      replace HT2 := HT2.keep EK (by intro i _ hi he; have he0 := he; (try dsimp only [NoK, AllB] at hi he); (try simp only [Value.ownBlock, Option.some.injEq] at he); first | exact hi.elim | exact he.elim | omega | (rcases hi with hi | hi <;> omega) | (rcases he with he | he <;> omega) | (first | (have := hFG _ hi; omega) | (rcases hi with hi | hi; (have := hG _ hi.1; omega); omega) | (rcases hi with hi | hi; (have := hFG _ hi; omega); omega)))
      replace HB12 := HB12.keep EK (by intro h; have he0 := h; (try dsimp only at h); (try simp only [Value.ownBlock, Option.some.injEq] at h); first | omega | (have he := he0; first | (have := hFG _ hi; omega) | (rcases hi with hi | hi; (have := hG _ hi.1; omega); omega) | (rcases hi with hi | hi; (have := hFG _ hi; omega); omega)))
      replace HB13 := HB13.keep EK (by intro h; have he0 := h; (try dsimp only at h); (try simp only [Value.ownBlock, Option.some.injEq] at h); first | omega | (have he := he0; first | (have := hFG _ hi; omega) | (rcases hi with hi | hi; (have := hG _ hi.1; omega); omega) | (rcases hi with hi | hi; (have := hFG _ hi; omega); omega)))
      have EL1 := Keep.refl (K := NoK) w103
      refine c_seq ?_
      refine wp_reg (by decide +kernel) ?_
      refine l_v (v_assign (t := .int _ _) rfl) ?_
      refine l_nil ?_
      refine n_then ?_
      refine wp_reg (by decide +kernel) ?_
      refine l_v (v_assign (t := .int _ _) rfl) ?_
      refine l_nil ?_
      refine n_then ?_
      exact ⟨_, rfl, EL1, HT5, ⟨rfl, rfl, rfl, rfl, trivial⟩⟩
    · skip
      rintro l pre x e1 w104 E EK HT5 hh hlen
      have zs_EK104 := EK.size
      have zs_E104 := E.size
      replace HB1 := HB1.keep EK (by intro h; have he0 := h; (try dsimp only at h); (try simp only [Value.ownBlock, Option.some.injEq] at h); first | omega | (have he := he0; first | (have := hFG _ hi; omega) | (rcases hi with hi | hi; (have := hG _ hi.1; omega); omega) | (rcases hi with hi | hi; (have := hFG _ hi; omega); omega)))
      replace HB2 := HB2.keep EK (by intro h; have he0 := h; (try dsimp only at h); (try simp only [Value.ownBlock, Option.some.injEq] at h); first | omega | (have he := he0; first | (have := hFG _ hi; omega) | (rcases hi with hi | hi; (have := hG _ hi.1; omega); omega) | (rcases hi with hi | hi; (have := hFG _ hi; omega); omega)))
      replace HT2 := HT2.keep EK (by intro i _ hi he; have he0 := he; (try dsimp only [NoK, AllB] at hi he); (try simp only [Value.ownBlock, Option.some.injEq] at he); first | exact hi.elim | exact he.elim | omega | (rcases hi with hi | hi <;> omega) | (rcases he with he | he <;> omega) | (first | (have := hFG _ hi; omega) | (rcases hi with hi | hi; (have := hG _ hi.1; omega); omega) | (rcases hi with hi | hi; (have := hFG _ hi; omega); omega)))
      replace HB12 := HB12.keep EK (by intro h; have he0 := h; (try dsimp only at h); (try simp only [Value.ownBlock, Option.some.injEq] at h); first | omega | (have he := he0; first | (have := hFG _ hi; omega) | (rcases hi with hi | hi; (have := hG _ hi.1; omega); omega) | (rcases hi with hi | hi; (have := hFG _ hi; omega); omega)))
      replace HB13 := HB13.keep EK (by intro h; have he0 := h; (try dsimp only at h); (try simp only [Value.ownBlock, Option.some.injEq] at h); first | omega | (have he := he0; first | (have := hFG _ hi; omega) | (rcases hi with hi | hi; (have := hG _ hi.1; omega); omega) | (rcases hi with hi | hi; (have := hFG _ hi; omega); omega)))
      obtain ⟨jj, rfl⟩ : ∃ j, e1 = updL _ j := ⟨_, hh.upd⟩
      have EL1 := Keep.refl (K := fun i => i = bm) w104
      refine c_block ?_
      refine c_seq ?_
      obtain ⟨l5, vs5, HT6⟩ := HT5.parts
      obtain ⟨l7, vs7, HT8⟩ := HT2.parts
      obtain ⟨ci, hci⟩ : ∃ ci, ci = (ksS O)[x] := ⟨_, rfl⟩
      obtain ⟨a5, c5, a6, c6, hl5, _, _, _, _, _⟩ := HT6.look ci
      obtain ⟨a7, c7, a8, c8, hl7, hs7, hs8, hi7, hi8, _⟩ := HT8.look ci
      obtain ⟨jc1, jc2⟩ := jp_cond (S := S) (O := O) (l := pre.map fun x => (ksS O)[x]) (c := ci)
      rw [← hci]
      refine wp_reg (by decide +kernel) ?_
      refine l_v (v_move (t := .int _ _) rfl) ?_
      refine l_v (v_load (by kernel_rfl) rfl (by first | exact HB13.cell rfl | exact HB12.cell rfl | exact HB2.cell rfl | exact HB1.cell rfl | assumption)) ?_
      refine l_v (v_nilCheck rfl) ?_
      refine l_v (v_fieldAddr (off := 0) (ft := 63) (by kernel_rfl) rfl) ?_
      refine l_v (v_load (by kernel_rfl) rfl (by first | exact HB13.pv 0 _ rfl | exact HB12.pv 0 _ rfl | exact HB2.pv 0 _ rfl | exact HB1.pv 0 _ rfl | assumption)) ?_
      refine l_v (v_move (t := .int _ _) rfl) ?_
      refine l_v (v_lookupE (el := 79) (k := ci) (z := .agg #[.int .i64 0, .int .i64 0, .slice none 0 0, .slice none 0 0]) kInt ⟨3, by kernel_rfl, by kernel_rfl⟩ (by unfold kZero; kernel_rfl) rfl (show _ = (Value.int _ _) from rfl) rfl HT6.1 hl5) ?_
      refine l_v (v_field (off := 0) (ft := 2) (by kernel_rfl) (by kernel_rfl) rfl rfl) ?_
      refine l_v (v_gtr rfl rfl) ?_
      refine l_nil ?_
      refine n_then ?_
      refine c_cond rfl rfl (fun hgt => ?_) (fun hgt => ?_)
      · skip
        have hgt := dtrue hgt
        have hlt := jc1 hgt
        obtain ⟨x9, hx9, hx9e⟩ := some_of_num (S := O) (c := ci) (by have := numS_rng okS ci; omega)
        have HG9 : AgV tAd _ (fun i => (F i ∨ G i) ∧ i < n0) _ (numS O ci, ansS O ci) := (AgV.mkAd hs7 hs8 hi8 hi7).mono fun i _ h => ⟨.inr h.1, h.2⟩
        refine wp_any (by kernel_rfl) ?_
        have e105 : Ext w104 { w104 with drawn := w104.drawn + 1 } := Keep.drawn _ _
        generalize hw105 : ({ w104 with drawn := w104.drawn + 1 } : World) = w105 at e105 ⊢
        clear hw105
        have zs_e105 := e105.size
        replace HB1 := HB1.ext e105
        replace HB2 := HB2.ext e105
        replace HB12 := HB12.ext e105
        replace HB13 := HB13.ext e105
        replace E := E.trans (Ext.keep e105)
        replace EL1 := EL1.trans (Ext.keep e105)
        replace HT6 := HT6.ext e105
        replace HT8 := HT8.ext e105
        replace HG9 := HG9.ext e105
        refine r_cut 11 rfl (by decide +kernel) (by decide +kernel) (by decide +kernel) ?_
        refine wp_regdW (NoK) (by decide +kernel) (by decide +kernel) ?_
        refine rt_v (fun vals w hR hd => v_load (by kernel_rfl) rfl (by first | exact (HB13.ext hR).cell rfl | exact (HB12.ext hR).cell rfl | exact (HB2.ext hR).cell rfl | exact (HB1.ext hR).cell rfl | assumption)) ?_
        refine rt_v (fun vals w hR hd => v_nilCheck (hd 0 rfl)) ?_
        refine rt_v (fun vals w hR hd => v_fieldAddr (off := 0) (ft := 63) (by kernel_rfl) (hd 1 rfl)) ?_
        refine rt_v (fun vals w hR hd => v_load (by kernel_rfl) (hd 2 rfl) (by first | exact (HB13.ext hR).pv 0 _ rfl | exact (HB12.ext hR).pv 0 _ rfl | exact (HB2.ext hR).pv 0 _ rfl | exact (HB1.ext hR).pv 0 _ rfl | assumption)) ?_
        refine rt_v (fun vals w hR hd => v_move (t := .int _ _) rfl) ?_
        refine rt_v (fun vals w hR hd => v_load (by kernel_rfl) rfl (by first | exact (HB13.ext hR).cell rfl | exact (HB12.ext hR).cell rfl | exact (HB2.ext hR).cell rfl | exact (HB1.ext hR).cell rfl | assumption)) ?_
        refine rt_v (fun vals w hR hd => v_nilCheck (hd 5 rfl)) ?_
        refine rt_v (fun vals w hR hd => v_fieldAddr (off := 0) (ft := 63) (by kernel_rfl) (hd 6 rfl)) ?_
        refine rt_v (fun vals w hR hd => v_load (by kernel_rfl) (hd 7 rfl) (by first | exact (HB13.ext hR).pv 0 _ rfl | exact (HB12.ext hR).pv 0 _ rfl | exact (HB2.ext hR).pv 0 _ rfl | exact (HB1.ext hR).pv 0 _ rfl | assumption)) ?_
        refine rt_v (fun vals w hR hd => v_move (t := .int _ _) rfl) ?_
        refine rt_v (fun vals w hR hd => v_lookupE (el := 79) (k := ci) (z := .agg #[.int .i64 0, .int .i64 0, .slice none 0 0, .slice none 0 0]) kInt ⟨3, by kernel_rfl, by kernel_rfl⟩ (by unfold kZero; kernel_rfl) (hd 8 rfl) (hd 9 rfl) rfl (HT8.ext hR).1 hl7) ?_
        refine rt_nil (fun w20 e20 => ?_)
        rintro _ rfl _ rfl _ rfl _ rfl _ rfl _ rfl _ rfl _ rfl _ rfl _ rfl _ rfl
        have zs_e20 := e20.size
        replace HB1 := HB1.ext e20
        replace HB2 := HB2.ext e20
        replace HB12 := HB12.ext e20
        replace HB13 := HB13.ext e20
        replace E := E.trans (Ext.keep e20)
        replace EL1 := EL1.trans (Ext.keep e20)
        replace HT6 := HT6.ext e20
        replace HT8 := HT8.ext e20
        replace HG9 := HG9.ext e20
        refine fin_nil ?_
        refine n_then ?_
        refine r_one (by decide +kernel) rfl ?_
        have hv9 := HG9
        refine l_to (to_mapUpdate (el := 79) (k := ci) kInt ⟨3, by kernel_rfl, by kernel_rfl⟩ rfl (show _ = (Value.int _ _) from rfl) rfl (show _ = (Value.agg _) from rfl) HT6.1 ?_)
        rintro w40 HM40 k40 z40
        have zs_k40 := k40.size
        replace HB1 := HB1.keep k40 (by intro h; have he0 := h; (try dsimp only at h); (try simp only [Value.ownBlock, Option.some.injEq] at h); first | omega | (have he := he0; first | (have := hFG _ hi; omega) | (rcases hi with hi | hi; (have := hG _ hi.1; omega); omega) | (rcases hi with hi | hi; (have := hFG _ hi; omega); omega)))
        replace HB2 := HB2.keep k40 (by intro h; have he0 := h; (try dsimp only at h); (try simp only [Value.ownBlock, Option.some.injEq] at h); first | omega | (have he := he0; first | (have := hFG _ hi; omega) | (rcases hi with hi | hi; (have := hG _ hi.1; omega); omega) | (rcases hi with hi | hi; (have := hFG _ hi; omega); omega)))
        replace HB12 := HB12.keep k40 (by intro h; have he0 := h; (try dsimp only at h); (try simp only [Value.ownBlock, Option.some.injEq] at h); first | omega | (have he := he0; first | (have := hFG _ hi; omega) | (rcases hi with hi | hi; (have := hG _ hi.1; omega); omega) | (rcases hi with hi | hi; (have := hFG _ hi; omega); omega)))
        replace HB13 := HB13.keep k40 (by intro h; have he0 := h; (try dsimp only at h); (try simp only [Value.ownBlock, Option.some.injEq] at h); first | omega | (have he := he0; first | (have := hFG _ hi; omega) | (rcases hi with hi | hi; (have := hG _ hi.1; omega); omega) | (rcases hi with hi | hi; (have := hFG _ hi; omega); omega)))
        replace E := E.step k40 (by intro i hi he; have he0 := he; (try dsimp only [NoK] at hi he ⊢); (try simp only [Value.ownBlock, Option.some.injEq] at he); first | exact he.elim | omega | exact he | (first | (have := hFG _ hi; omega) | (rcases hi with hi | hi; (have := hG _ hi.1; omega); omega) | (rcases hi with hi | hi; (have := hFG _ hi; omega); omega)))
        replace EL1 := EL1.step k40 (by intro i hi he; have he0 := he; (try dsimp only [NoK] at hi he ⊢); (try simp only [Value.ownBlock, Option.some.injEq] at he); first | exact he.elim | omega | exact he | (first | (have := hFG _ hi; omega) | (rcases hi with hi | hi; (have := hG _ hi.1; omega); omega) | (rcases hi with hi | hi; (have := hFG _ hi; omega); omega)))
        refine l_nil ?_
        refine n_blk ?_
        refine ⟨EL1, ?_⟩
        have hT := HT6.set (F' := fun i => (F i ∨ G i) ∧ i < n0) hv9 (fun i _ h => h) (fun i h => hFG i h) k40 HM40
        show TbI _ _ _ (jpS S O ((pre ++ [x]).map fun x => (ksS O)[x]))
        rw [List.map_append, List.map_singleton, ← hci, jpS_yes hlt (hx9.trans (congrArg some hx9e))]
        exact hT
      · skip
        have hgt := dfalse hgt
        refine c_skip ?_
        refine n_blk ?_
        refine ⟨EL1, ?_⟩
        show TbI _ _ _ (jpS S O ((pre ++ [x]).map fun x => (ksS O)[x]))
        rw [List.map_append, List.map_singleton, ← hci, jc2 hgt]
        exact HT6.tb
    · skip
      rintro D w106 hD E EK HT5 HD
      have zs_EK106 := EK.size
      have zs_E106 := E.size
      replace HB1 := HB1.keep EK (by intro h; have he0 := h; (try dsimp only at h); (try simp only [Value.ownBlock, Option.some.injEq] at h); first | omega | (have he := he0; first | (have := hFG _ hi; omega) | (rcases hi with hi | hi; (have := hG _ hi.1; omega); omega) | (rcases hi with hi | hi; (have := hFG _ hi; omega); omega)))
      replace HB2 := HB2.keep EK (by intro h; have he0 := h; (try dsimp only at h); (try simp only [Value.ownBlock, Option.some.injEq] at h); first | omega | (have he := he0; first | (have := hFG _ hi; omega) | (rcases hi with hi | hi; (have := hG _ hi.1; omega); omega) | (rcases hi with hi | hi; (have := hFG _ hi; omega); omega)))
      replace HT2 := HT2.keep EK (by intro i _ hi he; have he0 := he; (try dsimp only [NoK, AllB] at hi he); (try simp only [Value.ownBlock, Option.some.injEq] at he); first | exact hi.elim | exact he.elim | omega | (rcases hi with hi | hi <;> omega) | (rcases he with he | he <;> omega) | (first | (have := hFG _ hi; omega) | (rcases hi with hi | hi; (have := hG _ hi.1; omega); omega) | (rcases hi with hi | hi; (have := hFG _ hi; omega); omega)))
      replace HB12 := HB12.keep EK (by intro h; have he0 := h; (try dsimp only at h); (try simp only [Value.ownBlock, Option.some.injEq] at h); first | omega | (have he := he0; first | (have := hFG _ hi; omega) | (rcases hi with hi | hi; (have := hG _ hi.1; omega); omega) | (rcases hi with hi | hi; (have := hFG _ hi; omega); omega)))
      replace HB13 := HB13.keep EK (by intro h; have he0 := h; (try dsimp only at h); (try simp only [Value.ownBlock, Option.some.injEq] at h); first | omega | (have he := he0; first | (have := hFG _ hi; omega) | (rcases hi with hi | hi; (have := hG _ hi.1; omega); omega) | (rcases hi with hi | hi; (have := hFG _ hi; omega); omega)))
      refine n_blk ?_
      refine n_then ?_
      refine c_seq ?_
      refine wp_reg (by decide +kernel) ?_
      refine l_v (v_assign rfl) ?_
      refine l_nil ?_
      refine n_then ?_
      refine c_ret ?_
      refine retM1v HD rfl (by decide) (show _ = (Value.int _ _) from rfl) ?_
      have E := keep_put E (by omega : w.heap.size ≤ D) (.deferred none)
      rw [map_fin, jpS_all okS okO] at HT5
      exact ⟨⟨rfl, (HT5.turn (turn_put HD hD (.deferred none)) (by omega) (fun i h => by have := h.2; omega)).mono fun i _ h => h.1⟩, E⟩
    · skip
      rintro D _ pre W hD E EK hpre h HD; exact h.elim
end Go.Proofs.Ytlhanmlpionomaa

namespace Go.Proofs.Ytlhanmlpionomaa
open Go.Vc
set_option linter.unusedVariables false
set_option linter.unusedSimpArgs false
set_option maxRecDepth 100000

theorem refTLen_c {w : World} {F : Nat → Prop} {b : Nat} {cells : List Value} {S : TbS} (HB1 : Blk w b cells 48) (HT1 : RfC w F cells S) (hok : TbOk S) : CallsR Try.prog 20 #[.pointer (some ⟨b, 0, none⟩)] w (fun o w' => o = .int .i64 (cntS S : Nat) ∧ Ext w w') := by
  have hpn := fun (c : Nat) (hc : c < 5) => HT1.pn HB1 hc
  refine enter 19 Try.func20 rfl rfl (by simp) ?_
  refine c_seq ?_
  have E := Keep.refl (K := NoK) w
  refine wp_reg (by decide +kernel) ?_
  refine l_v (v_assign rfl) ?_
  refine l_nil ?_
  refine n_then ?_
  refine c_seq ?_
  refine wp_reg (by decide +kernel) ?_
  refine l_v (v_assign rfl) ?_
  refine l_nil ?_
  refine n_then ?_
  refine c_seq ?_
  refine c_seq ?_
  refine wp_reg (by decide +kernel) ?_
  refine l_v (v_assign rfl) ?_
  refine l_nil ?_
  refine n_then ?_
  refine c_block ?_
  refine c_loop (τ := Nat) [3, 4, 5, 6, 7, 8, 9, 10, 11, 12, 13, 14, 15, 16, 17] (fun i => [(4, .int .i64 ((i : Int) + 1)), (3, .int .i64 (idxK (fun c => (S c).isSome) i : Nat))]) (fun i W => Ext w W ∧ Keep (NoK) w W ∧ i ≤ 4) (fun i => 4 - i) 0 (by exact ⟨rfl, rfl, trivial⟩) (by exact ⟨E, Keep.refl _, Nat.zero_le _⟩) ?_
  rintro i w101 j ⟨E, EL1, h1⟩
  have zs_EL1 := EL1.size
  replace HB1 := HB1.ext EL1
  refine c_seq ?_
  refine c_seq ?_
  refine wp_reg (by decide +kernel) ?_
  refine l_v (v_move (t := .int _ _) rfl) ?_
  refine l_v (v_leq rfl rfl) ?_
  refine l_nil ?_
  refine n_then ?_
  refine c_cond rfl rfl (fun hlt => ?_) (fun hlt => ?_)
  · skip
    have hlt : i < 4 := by have := dtrue hlt; omega
    have h9 : (((i + 1 : Nat)) : Int) = (i : Int) + 1 := by omega
    have HPn := (hpn (i + 1) (by omega)).ext E
    have hps := numS_some hok ((i : Int) + 1)
    have hil : idxK (fun c => (S c).isSome) i ≤ 4 := by unfold idxK; exact Nat.le_trans (List.length_filter_le _ _) (by simp; omega)
    refine c_skip ?_
    refine n_then ?_
    refine c_seq ?_
    refine c_block ?_
    refine c_seq ?_
    refine wp_reg (by decide +kernel) ?_
    refine l_v (v_move (t := .pointer _) rfl) ?_
    refine l_v (v_move (t := .int _ _) rfl) ?_
    refine l_v (v_nilCheck rfl) ?_
    refine l_v (v_fieldAddr (off := 0) (ft := 45) (by kernel_rfl) rfl) ?_
    refine l_v (v_arrAddr (et := 2) (n := 5) (sz := 1) (k := i + 1) (by kernel_rfl) rfl rfl rfl (by omega)) ?_
    refine l_v (v_load (by kernel_rfl) rfl (by first | exact pv_1 HPn | exact HB1.cell rfl | assumption)) ?_
    refine l_v (v_gtr rfl rfl) ?_
    refine l_nil ?_
    refine n_then ?_
    refine c_cond rfl rfl (fun hq => ?_) (fun hq => ?_)
    · skip
      have hq2 : (S ((i : Int) + 1)).isSome = true := by rw [hps]; rw [← h9]; exact hq
      have hk2 := (idxK_yes (p := fun c => (S c).isSome) hlt hq2).2
      refine wp_reg (by decide +kernel) ?_
      refine l_v (v_move (t := .int _ _) rfl) ?_
      refine l_v (v_add rfl rfl (by first | exact wr_i64 (by omega) (by omega) | rfl)) ?_
      refine l_v (v_assign (t := .int _ _) rfl) ?_
      refine l_nil ?_
      refine n_blk ?_
      refine n_then ?_
      refine wp_reg (by decide +kernel) ?_
      refine l_v (v_move (t := .int _ _) rfl) ?_
      refine l_v (v_add rfl rfl (by first | exact wr_i64 (by omega) (by omega) | rfl)) ?_
      refine l_v (v_assign (t := .int _ _) rfl) ?_
      refine l_nil ?_
      refine n_then ?_
      refine ⟨i + 1, _, rfl, by (repeat (first | exact Off.of_over _ _ _ | refine Off.upd ?_ (by decide) _ | refine Off.overs ?_ (by decide) _)), ⟨by first | rfl | exact congrArg (Value.int _) (by omega) | (simp; done) | (rw [hk2]; rfl), by first | rfl | exact congrArg (Value.int _) (by omega) | (simp; done) | (rw [hk2]; rfl), trivial⟩, ⟨E, EL1, ?_⟩, ?_⟩
      · skip
        omega
      · (dsimp only; omega)
    · skip
      have hq2 : (S ((i : Int) + 1)).isSome = false := by rw [hps]; rw [← h9]; exact hq
      have hk2 := idxK_no (p := fun c => (S c).isSome) hlt hq2
      refine c_skip ?_
      refine n_blk ?_
      refine n_then ?_
      refine wp_reg (by decide +kernel) ?_
      refine l_v (v_move (t := .int _ _) rfl) ?_
      refine l_v (v_add rfl rfl (by first | exact wr_i64 (by omega) (by omega) | rfl)) ?_
      refine l_v (v_assign (t := .int _ _) rfl) ?_
      refine l_nil ?_
      refine n_then ?_
      refine ⟨i + 1, _, rfl, by (repeat (first | exact Off.of_over _ _ _ | refine Off.upd ?_ (by decide) _ | refine Off.overs ?_ (by decide) _)), ⟨by first | rfl | exact congrArg (Value.int _) (by omega) | (simp; done) | (rw [hk2]), by first | rfl | exact congrArg (Value.int _) (by omega) | (simp; done) | (rw [hk2]), trivial⟩, ⟨E, EL1, ?_⟩, ?_⟩
      · skip
        omega
      · (dsimp only; omega)
  · skip
    have hi : i = 4 := by have := dfalse hlt; omega
    refine c_exit ?_
    refine x_then ?_
    refine x_then ?_
    refine x_hit ?_
    refine n_then ?_
    refine c_seq ?_
    refine wp_reg (by decide +kernel) ?_
    refine l_v (v_move (t := .int _ _) rfl) ?_
    refine l_v (v_assign (t := .int _ _) rfl) ?_
    refine l_nil ?_
    refine n_then ?_
    refine c_ret ?_
    refine ret1v rfl (by decide) (show _ = (Value.int _ _) from rfl) ?_
    subst hi
    exact ⟨rfl, E⟩
end Go.Proofs.Ytlhanmlpionomaa

namespace Go.Proofs.Ytlhanmlpionomaa
open Go.Vc
set_option linter.unusedVariables false
set_option linter.unusedSimpArgs false
set_option maxRecDepth 100000

/-- what a table's clients are told to be, in any later world -/
def LastOk (o : Option Addr) (S : TbS) (K : Nat → Prop) (w0 : World) : Prop := ∀ W c, Keep K w0 W → CallsR Try.prog 18 #[.pointer o, .int .i64 c] W (fun r W' => r = .tuple #[.int .i64 (numS S c), .bool (S c).isSome] ∧ Ext W W')
theorem LastOk.made {w0 : World} {F K : Nat → Prop} {b bm : Nat} {S : TbS} (hok : TbOk S) (HB1 : Blk w0 b [.map (some bm)] 65) (HT1 : TbI w0 F bm S) (hb : ¬ K b) (hm : ¬ K bm) (hF : ∀ i, i < w0.heap.size → F i → ¬ K i) : LastOk (some ⟨b, 0, none⟩) S K w0 :=
  fun W c k => Last_c (HB1.keep k hb) (HT1.keep k (fun i hi h => h.elim (fun h => hF i hi h) (fun h => h ▸ hm))) hok
theorem tabAll_seq {w0 : World} {bc : Nat} {o : Option Addr} {K : Nat → Prop} {S : TbS} (HB0 : Blk w0 bc [.pointer o] 25) (hL : LastOk o S K w0) (hc : ¬ K bc) :
    SeqY Try.prog 66 #[.pointer (some ⟨bc, 0, none⟩)] (fun c : Int => [.int .i64 c, .int .i64 (numS S c)]) (YK S) K (fun xs => xs = ksS S) (fun _ => True) w0 := by
  refine fun l J Jx W hx hz hJ hJx hY h0 => ?_
  refine CallsR.mono (R := fun _ W' => (∃ xs, xs = ksS S ∧ J xs W') ∨ ∃ pre, True ∧ Jx pre W') ?_ fun _ _ h => h
  show CallsR _ _ (#[.func (.yield l) #[] #[], .pointer (some ⟨bc, 0, none⟩)]) W _
  obtain ⟨p, hp⟩ : ∃ p : Int → Bool, p = fun c => (S c).isSome := ⟨_, rfl⟩
  have hks : ksS S = ksP p := by rw [hp]; rfl
  refine enter 23 Try.func66 rfl rfl (by simp) ?_
  refine c_scope ?_
  refine c_seq ?_
  refine c_label ?_
  refine n_then ?_
  refine c_seq ?_
  refine wp_reg (by decide +kernel) ?_
  refine l_v (v_assign rfl) ?_
  refine l_nil ?_
  refine n_then ?_
  refine c_block ?_
  refine c_loop (τ := Nat) [3, 4, 5, 6, 7, 8, 9, 10, 11, 12, 13, 14, 15, 16, 17, 18, 19, 20, 21, 22] (fun j => [(3, .int .i64 ((j : Int) + 1))]) (fun j w => j ≤ 4 ∧ Keep K w0 w ∧ J ((ksS S).take (idxK p j)) w) (fun j => 4 - j) 0 (by exact ⟨rfl, trivial⟩) (by exact ⟨Nat.zero_le _, hx.keep, by rw [show idxK p 0 = 0 from rfl, List.take_zero]; exact h0⟩) ?_
  rintro i w1 j ⟨h1, k1, hj⟩
  refine c_seq ?_
  refine c_seq ?_
  refine wp_reg (by decide +kernel) ?_
  refine l_v (v_move (t := .int _ _) rfl) ?_
  refine l_v (v_leq rfl rfl) ?_
  refine l_nil ?_
  refine n_then ?_
  refine c_cond rfl rfl (fun hlt => ?_) (fun hlt => ?_)
  · skip
    have hlt : i < 4 := by have := dtrue hlt; omega
    refine c_skip ?_
    refine n_then ?_
    refine c_seq ?_
    refine c_block ?_
    refine c_seq ?_
    refine wp_reg (by decide +kernel) ?_
    refine l_v (v_load (by kernel_rfl) rfl ((HB0.keep k1 hc).cell rfl)) ?_
    refine l_v (v_move (t := .int _ _) rfl) ?_
    refine l_to (to_f2 (by kernel_rfl) (show _ = (Value.pointer _) from rfl) (show _ = (Value.int _ _) from rfl) (CallsR.mono (hL w1 ((i : Int) + 1) k1) ?_))
    rintro _ w2 ⟨rfl, e2⟩
    have zs_e2 := e2.size
    have hps : (S ((i : Int) + 1)).isSome = p ((i : Int) + 1) := by rw [hp]
    refine l_v (v_move (t := .tuple _) rfl) ?_
    refine l_v (v_extract (t := .int _ _) rfl rfl) ?_
    refine l_v (v_extract (t := .bool _) rfl rfl) ?_
    refine l_v (v_assign (t := .int _ _) rfl) ?_
    refine l_v (v_assign (t := .bool _) rfl) ?_
    refine l_nil ?_
    refine n_then ?_
    refine c_seq ?_
    refine c_seq ?_
    refine wp_reg (by decide +kernel) ?_
    refine l_v (v_move (t := .bool _) rfl) ?_
    refine l_v (v_not rfl) ?_
    refine l_nil ?_
    refine n_then ?_
    refine c_cond rfl rfl (fun hq => ?_) (fun hq => ?_)
    · skip
      have hq2 : p ((i : Int) + 1) = false := by rw [← hps]; simpa using hq
      refine c_exit ?_
      refine x_then ?_
      refine x_hit ?_
      refine n_then ?_
      refine wp_reg (by decide +kernel) ?_
      refine l_v (v_move (t := .int _ _) rfl) ?_
      refine l_v (v_add rfl rfl (by first | exact wr_i64 (by omega) (by omega) | rfl)) ?_
      refine l_v (v_assign (t := .int _ _) rfl) ?_
      refine l_nil ?_
      refine n_then ?_
      refine ⟨i + 1, _, rfl, by (repeat (first | exact Off.of_over _ _ _ | refine Off.upd ?_ (by decide) _ | refine Off.overs ?_ (by decide) _)), ⟨by first | rfl | exact congrArg (Value.int _) (by omega) | (simp; done), trivial⟩, ?_, ?_⟩
      · exact ⟨by omega, k1.trans (Ext.keep e2), by rw [idxK_no hlt hq2]; exact hJ _ _ _ e2 hj⟩
      · dsimp only; omega
    · skip
      have hq2 : p ((i : Int) + 1) = true := by rw [← hps]; simpa using hq
      obtain ⟨hk1, hk2⟩ := idxK_yes hlt hq2
      rw [← hks] at hk1
      have hkl := (List.getElem?_eq_some_iff.1 hk1).1
      have htl : ((ksS S).take (idxK p i)).length = idxK p i := by rw [List.length_take]; omega
      refine c_skip ?_
      refine n_then ?_
      refine c_seq ?_
      refine wp_reg (by decide +kernel) ?_
      refine l_v (v_move (t := .func _ _ _) rfl) ?_
      refine l_v (v_move (t := .int _ _) rfl) ?_
      refine l_v (v_move (t := .int _ _) rfl) ?_
      refine l_to (to_yield2 rfl (show _ = (Value.int _ _) from rfl) (show _ = (Value.int _ _) from rfl) (YieldAt.mono (hY ((ksS S).take (idxK p i)) ((i : Int) + 1) w2 (hJ _ _ _ e2 hj) ⟨by rw [htl]; exact hk1, by rw [htl]⟩) ?_))
      rintro en w4 ⟨v, rfl, hv⟩
      refine ⟨v, rfl, ?_⟩
      obtain ⟨bb, rfl, hb1, hb2⟩ := yb hv
      refine l_v (v_not rfl) ?_
      refine l_nil ?_
      refine n_then ?_
      refine c_cond rfl rfl (fun hcc => ?_) (fun hcc => ?_)
      · skip
        refine c_ret ?_
        refine r_blk ?_
        refine r_then ?_
        refine r_then ?_
        refine r_blk ?_
        refine r_scp ?_
        refine ret0 rfl ?_
        obtain rfl : bb = false := by cases bb <;> simp_all
        exact .inr ⟨_, trivial, hb2 rfl⟩
      · skip
        obtain rfl : bb = true := by cases bb <;> simp_all
        obtain ⟨hj4, k4⟩ := hb1 rfl
        refine c_skip ?_
        refine n_blk ?_
        refine n_then ?_
        refine wp_reg (by decide +kernel) ?_
        refine l_v (v_move (t := .int _ _) rfl) ?_
        refine l_v (v_add rfl rfl (by first | exact wr_i64 (by omega) (by omega) | rfl)) ?_
        refine l_v (v_assign (t := .int _ _) rfl) ?_
        refine l_nil ?_
        refine n_then ?_
        refine ⟨i + 1, _, rfl, by (repeat (first | exact Off.of_over _ _ _ | refine Off.upd ?_ (by decide) _ | refine Off.overs ?_ (by decide) _)), ⟨by first | rfl | exact congrArg (Value.int _) (by omega) | (simp; done), trivial⟩, ?_, ?_⟩
        · exact ⟨by omega, k1.trans ((Ext.keep e2).trans k4), by rw [hk2, List.take_add_one, hk1]; exact hj4⟩
        · dsimp only; omega
  · skip
    refine c_exit ?_
    refine x_then ?_
    refine x_then ?_
    refine x_hit ?_
    refine n_scp ?_
    refine end0 rfl ?_
    have hi : i = 4 := by have := dfalse hlt; omega
    subst hi
    rw [idxK_all, ← hks, List.take_length] at hj
    exact .inl ⟨_, rfl, hj⟩
theorem ks_cnt (S : TbS) : (ksS S).length = cntS S := rfl
set_option maxHeartbeats 4000000 in
theorem once_g {w : World} {o : Option Addr} {S : TbS} {F : Nat → Prop} {br : Nat} {cells : List Value} {mo : Int} (hs : LastOk o S (fun i => w.heap.size ≤ i) w) (hok : TbOk S) (HBr : Blk w br cells 48) (HT1 : RfC w F cells S) : CallsR Try.prog 21 #[.pointer o, .pointer (some ⟨br, 0, none⟩), .int .i64 mo] w (fun r w' => r = .bool true ∧ Ext w w') := by
  have zlr := HBr.lt
  replace HT1 := HT1.mono (F' := fun i => F i ∧ i < w.heap.size) fun i hi h => ⟨h, hi⟩
  refine enterM 50 Try.func21 rfl rfl (by simp) ?_
  refine c_seq ?_
  have E := Keep.refl (K := NoK) w
  refine wp_reg (by decide +kernel) ?_
  refine l_to (to_box (show _ = (Value.pointer _) from rfl) ?_)
  rintro b4 w4 zb4 HB4 e4 z4
  have zs_e4 := e4.size
  replace E := E.trans (Ext.keep e4)
  replace HBr := HBr.ext e4
  replace HT1 := HT1.ext e4
  try simp only [Value.cells] at HB4
  refine l_to (to_box (show _ = (Value.int _ _) from rfl) ?_)
  rintro b5 w5 zb5 HB5 e5 z5
  have zs_e5 := e5.size
  replace E := E.trans (Ext.keep e5)
  replace HBr := HBr.ext e5
  replace HT1 := HT1.ext e5
  replace HB4 := HB4.ext e5
  try simp only [Value.cells] at HB5
  refine l_to (to_alloc (z := (.bool false)) (by unfold kZero; kernel_rfl) ?_)
  rintro b6 w6 zb6 HB6 e6 z6
  have zs_e6 := e6.size
  replace E := E.trans (Ext.keep e6)
  replace HBr := HBr.ext e6
  replace HT1 := HT1.ext e6
  replace HB4 := HB4.ext e6
  replace HB5 := HB5.ext e6
  try simp only [Value.cells] at HB6
  refine l_nil ?_
  refine n_then ?_
  refine c_seq ?_
  refine wp_reg (by decide +kernel) ?_
  refine l_to (to_alloc (z := (.int .i64 0)) (by unfold kZero; kernel_rfl) ?_)
  rintro b7 w7 zb7 HB7 e7 z7
  have zs_e7 := e7.size
  replace E := E.trans (Ext.keep e7)
  replace HBr := HBr.ext e7
  replace HT1 := HT1.ext e7
  replace HB4 := HB4.ext e7
  replace HB5 := HB5.ext e7
  replace HB6 := HB6.ext e7
  try simp only [Value.cells] at HB7
  refine l_to (to_alloc (z := (.int .i64 0)) (by unfold kZero; kernel_rfl) ?_)
  rintro b8 w8 zb8 HB8 e8 z8
  have zs_e8 := e8.size
  replace E := E.trans (Ext.keep e8)
  replace HBr := HBr.ext e8
  replace HT1 := HT1.ext e8
  replace HB4 := HB4.ext e8
  replace HB5 := HB5.ext e8
  replace HB6 := HB6.ext e8
  replace HB7 := HB7.ext e8
  try simp only [Value.cells] at HB8
  refine l_to (to_store rfl rfl (show _ = (Value.int _ _) from rfl) rfl (by kernel_rfl) HB7 (by first | exact of_decide_eq_true rfl | (simp; done) | decide | (simp only [List.length_set, hlen]; exact of_decide_eq_true rfl)) ?_)
  rintro w101 HX101 k101 z101
  have zs_k101 := k101.size
  replace E := E.step k101 (by intro i hi he; (try dsimp only [NoK] at hi he ⊢); first | exact he.elim | omega | exact he)
  replace HBr := HBr.keep k101 (by intro h; (try dsimp only at h); first | omega)
  replace HT1 := HT1.keep k101 (by intro i _ hi he; (try dsimp only [NoK, AllB] at hi he); first | exact hi.elim | exact he.elim | omega | (rcases hi with hi | hi <;> omega) | (rcases he with he | he <;> omega))
  replace HB4 := HB4.keep k101 (by intro h; (try dsimp only at h); first | omega)
  replace HB5 := HB5.keep k101 (by intro h; (try dsimp only at h); first | omega)
  replace HB6 := HB6.keep k101 (by intro h; (try dsimp only at h); first | omega)
  replace HB8 := HB8.keep k101 (by intro h; (try dsimp only at h); first | omega)
  replace HB7 := HX101
  clear HX101
  try simp only [List.set_cons_zero, List.set_cons_succ, setAt, List.take_zero, List.take_succ_cons, List.drop_zero, List.drop_succ_cons, List.nil_append, List.cons_append, List.append_nil, List.length_cons, List.length_nil, Nat.zero_add, Nat.reduceAdd, List.drop_nil] at HB7
  refine l_to (to_store rfl rfl (show _ = (Value.int _ _) from rfl) rfl (by kernel_rfl) HB8 (by first | exact of_decide_eq_true rfl | (simp; done) | decide | (simp only [List.length_set, hlen]; exact of_decide_eq_true rfl)) ?_)
  rintro w102 HX102 k102 z102
  have zs_k102 := k102.size
  replace E := E.step k102 (by intro i hi he; (try dsimp only [NoK] at hi he ⊢); first | exact he.elim | omega | exact he)
  replace HBr := HBr.keep k102 (by intro h; (try dsimp only at h); first | omega)
  replace HT1 := HT1.keep k102 (by intro i _ hi he; (try dsimp only [NoK, AllB] at hi he); first | exact hi.elim | exact he.elim | omega | (rcases hi with hi | hi <;> omega) | (rcases he with he | he <;> omega))
  replace HB4 := HB4.keep k102 (by intro h; (try dsimp only at h); first | omega)
  replace HB5 := HB5.keep k102 (by intro h; (try dsimp only at h); first | omega)
  replace HB6 := HB6.keep k102 (by intro h; (try dsimp only at h); first | omega)
  replace HB7 := HB7.keep k102 (by intro h; (try dsimp only at h); first | omega)
  replace HB8 := HX102
  clear HX102
  try simp only [List.set_cons_zero, List.set_cons_succ, setAt, List.take_zero, List.take_succ_cons, List.drop_zero, List.drop_succ_cons, List.nil_append, List.cons_append, List.append_nil, List.length_cons, List.length_nil, Nat.zero_add, Nat.reduceAdd, List.drop_nil] at HB8
  refine l_nil ?_
  refine n_then ?_
  refine c_seq ?_
  refine wp_reg (by decide +kernel) ?_
  refine l_v (v_move (t := .pointer _) rfl) ?_
  refine l_to (to_f1 (by kernel_rfl) (show _ = (Value.pointer _) from rfl) (CallsR.mono (All_c) ?_))
  rintro _ w9 ⟨b9, hb9, rfl, HB9, z9, e9⟩
  have zs_e9 := e9.size
  replace E := E.trans (Ext.keep e9)
  replace HBr := HBr.ext e9
  replace HT1 := HT1.ext e9
  replace HB4 := HB4.ext e9
  replace HB5 := HB5.ext e9
  replace HB6 := HB6.ext e9
  replace HB7 := HB7.ext e9
  replace HB8 := HB8.ext e9
  refine l_v (v_assign (t := .func _ _ _) rfl) ?_
  refine l_nil ?_
  refine n_then ?_
  refine c_seq ?_
  refine c_seq ?_
  refine wp_reg (by decide +kernel) ?_
  refine l_v (v_move (t := .func _ _ _) rfl) ?_
  refine l_v (v_feqlnil (ps := #[80]) (rs := #[]) (v := false) (by kernel_rfl) rfl rfl) ?_
  refine l_nil ?_
  refine n_then ?_
  refine c_cond rfl rfl (fun hn => ?_) (fun hn => ?_)
  · skip
    cases hn
  · skip
    refine c_skip ?_
    refine n_then ?_
    refine c_seq ?_
    refine c_seq ?_
    refine wp_reg (by decide +kernel) ?_
    refine l_v (v_move (t := .func _ _ _) rfl) ?_
    refine l_nil ?_
    refine n_then ?_
    refine c_block ?_
    refine c_rangeY (N := 50) rfl (show _ = (Value.func _ _ _) from rfl) (by kernel_rfl) (by decide) E (fun c : Int => [.int .i64 c, .int .i64 (numS S c)]) (fun _ => rfl) (YK S) (fun xs => xs = ksS S) (fun _ => True) (fun i => i = b6 ∨ i = b7 ∨ i = b8) (fun i h => by have h := h; (try dsimp only at h); omega) (tabAll_seq (K := fun i => (i = b6 ∨ i = b7 ∨ i = b8) ∨ w9.heap.size ≤ i) HB9 (fun W c k => hs W c ((Ext.keep E).trans (k.mono (K' := fun i => w.heap.size ≤ i) (fun i hi h => by rcases h with (h | h | h) | h <;> omega)))) (fun h => by have h := h; (try dsimp only at h); omega)) (fun pre W => Blk W b7 [.int .i64 (pre.length : Int)] 3 ∧ Blk W b8 [.int .i64 (lastK pre)] 3 ∧ Blk W b6 [.bool false] 4 ∧ pre.length ≤ 4) (fun c pre W => c = .ret ∧ Blk W b6 [.bool true] 4) (fun s W W' t h => ⟨h.1.turn t, h.2.1.turn t, h.2.2.1.turn t, h.2.2.2⟩) (fun c s W W' t h => ⟨h.1, h.2.turn t⟩) (⟨HB7, HB8, HB6, Nat.zero_le _⟩) (fun pre x e1 W => Holds [(4, .pointer (some ⟨b4, 0, none⟩)), (5, .pointer (some ⟨b5, 0, none⟩)), (6, .pointer (some ⟨b6, 0, none⟩)), (7, .pointer (some ⟨b7, 0, none⟩)), (8, .pointer (some ⟨b8, 0, none⟩)), (10, .int .i64 x), (11, .int .i64 (numS S x))] e1 ∧ YK S pre x W) (fun pre x e1 W W' t h => h) ?_ ?_ ?_ ?_
    · skip
      rintro l pre x w103 E EK hY ⟨HB7, HB8, HB6, hp1⟩
      have zs_EK103 := EK.size
      have zs_E103 := E.size
      replace HBr := HBr.keep EK (by intro h; (try dsimp only at h); first | omega)
      replace HT1 := HT1.keep EK (by intro i _ hi he; (try dsimp only [NoK, AllB] at hi he); first | exact hi.elim | exact he.elim | omega | (rcases hi with hi | hi <;> omega) | (rcases he with he | he <;> omega))
      replace HB4 := HB4.keep EK (by intro h; (try dsimp only at h); first | omega)
      replace HB5 := HB5.keep EK (by intro h; (try dsimp only at h); first | omega)
      have EL1 := Keep.refl (K := NoK) w103
      refine c_seq ?_
      refine wp_reg (by decide +kernel) ?_
      refine l_v (v_assign (t := .int _ _) rfl) ?_
      refine l_nil ?_
      refine n_then ?_
      refine wp_reg (by decide +kernel) ?_
      refine l_v (v_assign (t := .int _ _) rfl) ?_
      refine l_nil ?_
      refine n_then ?_
      exact ⟨_, rfl, EL1, ⟨HB7, HB8, HB6, hp1⟩, ⟨rfl, rfl, rfl, rfl, rfl, rfl, rfl, trivial⟩, hY⟩
    · skip
      rintro l pre x e1 w104 E EK ⟨HB7, HB8, HB6, hp1⟩ ⟨hh, hy⟩
      have zs_EK104 := EK.size
      have zs_E104 := E.size
      replace HBr := HBr.keep EK (by intro h; (try dsimp only at h); first | omega)
      replace HT1 := HT1.keep EK (by intro i _ hi he; (try dsimp only [NoK, AllB] at hi he); first | exact hi.elim | exact he.elim | omega | (rcases hi with hi | hi <;> omega) | (rcases he with he | he <;> omega))
      replace HB4 := HB4.keep EK (by intro h; (try dsimp only at h); first | omega)
      replace HB5 := HB5.keep EK (by intro h; (try dsimp only at h); first | omega)
      obtain ⟨jj, rfl⟩ : ∃ j, e1 = updL _ j := ⟨_, hh.upd⟩
      obtain ⟨hy1, hy2, hy3, hy4⟩ := YK.rng hy
      obtain ⟨k, rfl⟩ := Int.eq_ofNat_of_zero_le (show 0 ≤ x by omega)
      have EL1 := Keep.refl (K := fun i => i = b6 ∨ i = b7 ∨ i = b8) w104
      refine c_block ?_
      refine c_seq ?_
      refine c_seq ?_
      have HPn := HT1.pn HBr (c := k) (by omega)
      have hsm : (S k).isSome = true := (ksS_mem hok).1 (List.mem_of_getElem? hy.1)
      rw [numS_some hok] at hsm
      have hsm := dtrue hsm
      refine wp_reg (by decide +kernel) ?_
      refine l_v (v_move (t := .int _ _) rfl) ?_
      refine l_v (v_load (by kernel_rfl) rfl (by first | exact pv_1 HPn | exact HB6.cell rfl | exact HB8.cell rfl | exact HB7.cell rfl | exact HB5.cell rfl | exact HB4.cell rfl | exact HBr.cell rfl | assumption)) ?_
      refine l_v (OpVat.as (b := false) (v_leq rfl rfl) (decide_eq_false (by omega))) ?_
      refine l_v (v_move (t := .bool _) rfl) ?_
      refine l_gt rfl rfl (OpTo.of_v (v_move (t := .int _ _) rfl) ?_)
      refine l_gt rfl rfl (OpTo.of_v (OpVat.as (b := false) (v_gtr rfl rfl) (decide_eq_false (by omega))) ?_)
      refine l_v (v_orT rfl rfl) ?_
      refine l_v (v_move (t := .bool _) rfl) ?_
      refine l_gt rfl rfl (OpTo.of_v (v_move (t := .int _ _) rfl) ?_)
      refine l_gt rfl rfl (OpTo.of_v (v_load (by kernel_rfl) rfl (by first | exact pv_1 HPn | exact HB6.cell rfl | exact HB8.cell rfl | exact HB7.cell rfl | exact HB5.cell rfl | exact HB4.cell rfl | exact HBr.cell rfl | assumption)) ?_)
      refine l_gt rfl rfl (OpTo.of_v (v_move (t := .int _ _) rfl) ?_)
      refine l_gt rfl rfl (OpTo.of_v (v_nilCheck rfl) ?_)
      refine l_gt rfl rfl (OpTo.of_v (v_fieldAddr (off := 0) (ft := 45) (by kernel_rfl) rfl) ?_)
      refine l_gt rfl rfl (OpTo.of_v (v_arrAddr (et := 2) (n := 5) (sz := 1) (k := k) (by kernel_rfl) rfl rfl rfl (by omega)) ?_)
      refine l_gt rfl rfl (OpTo.of_v (v_load (by kernel_rfl) rfl (by first | exact pv_1 HPn | exact HB6.cell rfl | exact HB8.cell rfl | exact HB7.cell rfl | exact HB5.cell rfl | exact HB4.cell rfl | exact HBr.cell rfl | assumption)) ?_)
      refine l_gt rfl rfl (OpTo.of_v (OpVat.as (b := false) (v_neq rfl rfl) (by simp)) ?_)
      refine l_v (v_orT rfl rfl) ?_
      refine l_v (v_move (t := .bool _) rfl) ?_
      refine l_gt rfl rfl (OpTo.of_v (v_move (t := .int _ _) rfl) ?_)
      refine l_gt rfl rfl (OpTo.of_v (OpVat.as (b := false) (v_lss rfl rfl) (decide_eq_false (by omega))) ?_)
      refine l_v (v_orT rfl rfl) ?_
      refine l_nil ?_
      refine n_then ?_
      refine c_cond rfl rfl (fun hq => ?_) (fun hq => ?_)
      · skip
        cases hq
      · skip
        refine c_skip ?_
        refine n_then ?_
        refine c_seq ?_
        refine wp_reg (by decide +kernel) ?_
        refine l_v (v_move (t := .int _ _) rfl) ?_
        refine l_to (to_store rfl rfl (show _ = (Value.int _ _) from rfl) rfl (by kernel_rfl) HB8 (by first | exact of_decide_eq_true rfl | (simp; done) | decide | (simp only [List.length_set, hlen]; exact of_decide_eq_true rfl)) ?_)
        rintro w105 HX105 k105 z105
        have zs_k105 := k105.size
        replace HBr := HBr.keep k105 (by intro h; (try dsimp only at h); first | omega)
        replace HT1 := HT1.keep k105 (by intro i _ hi he; (try dsimp only [NoK, AllB] at hi he); first | exact hi.elim | exact he.elim | omega | (rcases hi with hi | hi <;> omega) | (rcases he with he | he <;> omega))
        replace HB4 := HB4.keep k105 (by intro h; (try dsimp only at h); first | omega)
        replace HB5 := HB5.keep k105 (by intro h; (try dsimp only at h); first | omega)
        replace E := E.step k105 (by intro i hi he; (try dsimp only [NoK] at hi he ⊢); first | exact he.elim | omega | exact he)
        replace HB7 := HB7.keep k105 (by intro h; (try dsimp only at h); first | omega)
        replace HB6 := HB6.keep k105 (by intro h; (try dsimp only at h); first | omega)
        replace EL1 := EL1.step k105 (by intro i hi he; (try dsimp only [NoK] at hi he ⊢); first | exact he.elim | omega | exact he)
        replace HPn := HPn.keep k105 (by intro h; (try dsimp only at h); (try simp only [add_block] at h); first | omega)
        replace HB8 := HX105
        clear HX105
        try simp only [List.set_cons_zero, List.set_cons_succ, setAt, List.take_zero, List.take_succ_cons, List.drop_zero, List.drop_succ_cons, List.nil_append, List.cons_append, List.append_nil, List.length_cons, List.length_nil, Nat.zero_add, Nat.reduceAdd, List.drop_nil] at HB8
        refine l_nil ?_
        refine n_then ?_
        refine c_seq ?_
        refine wp_reg (by decide +kernel) ?_
        refine l_v (v_load (by kernel_rfl) rfl (by first | exact pv_1 HPn | exact HB6.cell rfl | exact HB8.cell rfl | exact HB7.cell rfl | exact HB5.cell rfl | exact HB4.cell rfl | exact HBr.cell rfl | assumption)) ?_
        refine l_v (v_add rfl rfl (by first | exact wr_i64 (by omega) (by omega) | rfl)) ?_
        refine l_to (to_store rfl rfl (show _ = (Value.int _ _) from rfl) rfl (by kernel_rfl) HB7 (by first | exact of_decide_eq_true rfl | (simp; done) | decide | (simp only [List.length_set, hlen]; exact of_decide_eq_true rfl)) ?_)
        rintro w106 HX106 k106 z106
        have zs_k106 := k106.size
        replace HBr := HBr.keep k106 (by intro h; (try dsimp only at h); first | omega)
        replace HT1 := HT1.keep k106 (by intro i _ hi he; (try dsimp only [NoK, AllB] at hi he); first | exact hi.elim | exact he.elim | omega | (rcases hi with hi | hi <;> omega) | (rcases he with he | he <;> omega))
        replace HB4 := HB4.keep k106 (by intro h; (try dsimp only at h); first | omega)
        replace HB5 := HB5.keep k106 (by intro h; (try dsimp only at h); first | omega)
        replace E := E.step k106 (by intro i hi he; (try dsimp only [NoK] at hi he ⊢); first | exact he.elim | omega | exact he)
        replace HB8 := HB8.keep k106 (by intro h; (try dsimp only at h); first | omega)
        replace HB6 := HB6.keep k106 (by intro h; (try dsimp only at h); first | omega)
        replace EL1 := EL1.step k106 (by intro i hi he; (try dsimp only [NoK] at hi he ⊢); first | exact he.elim | omega | exact he)
        replace HPn := HPn.keep k106 (by intro h; (try dsimp only at h); (try simp only [add_block] at h); first | omega)
        replace HB7 := HX106
        clear HX106
        try simp only [List.set_cons_zero, List.set_cons_succ, setAt, List.take_zero, List.take_succ_cons, List.drop_zero, List.drop_succ_cons, List.nil_append, List.cons_append, List.append_nil, List.length_cons, List.length_nil, Nat.zero_add, Nat.reduceAdd, List.drop_nil] at HB7
        refine l_nil ?_
        refine n_then ?_
        refine c_seq ?_
        refine wp_reg (by decide +kernel) ?_
        refine l_v (v_load (by kernel_rfl) rfl (by first | exact pv_1 HPn | exact HB6.cell rfl | exact HB8.cell rfl | exact HB7.cell rfl | exact HB5.cell rfl | exact HB4.cell rfl | exact HBr.cell rfl | assumption)) ?_
        refine l_v (v_load (by kernel_rfl) rfl (by first | exact pv_1 HPn | exact HB6.cell rfl | exact HB8.cell rfl | exact HB7.cell rfl | exact HB5.cell rfl | exact HB4.cell rfl | exact HBr.cell rfl | assumption)) ?_
        refine l_v (v_eql rfl rfl) ?_
        refine l_nil ?_
        refine n_then ?_
        refine c_cond rfl rfl (fun hx => ?_) (fun hx => ?_)
        · skip
          refine c_seq ?_
          refine wp_reg (by decide +kernel) ?_
          refine l_to (to_store rfl rfl (show _ = (Value.bool _) from rfl) rfl (by kernel_rfl) HB6 (by first | exact of_decide_eq_true rfl | (simp; done) | decide | (simp only [List.length_set, hlen]; exact of_decide_eq_true rfl)) ?_)
          rintro w107 HX107 k107 z107
          have zs_k107 := k107.size
          replace HBr := HBr.keep k107 (by intro h; (try dsimp only at h); first | omega)
          replace HT1 := HT1.keep k107 (by intro i _ hi he; (try dsimp only [NoK, AllB] at hi he); first | exact hi.elim | exact he.elim | omega | (rcases hi with hi | hi <;> omega) | (rcases he with he | he <;> omega))
          replace HB4 := HB4.keep k107 (by intro h; (try dsimp only at h); first | omega)
          replace HB5 := HB5.keep k107 (by intro h; (try dsimp only at h); first | omega)
          replace E := E.step k107 (by intro i hi he; (try dsimp only [NoK] at hi he ⊢); first | exact he.elim | omega | exact he)
          replace HB7 := HB7.keep k107 (by intro h; (try dsimp only at h); first | omega)
          replace HB8 := HB8.keep k107 (by intro h; (try dsimp only at h); first | omega)
          replace EL1 := EL1.step k107 (by intro i hi he; (try dsimp only [NoK] at hi he ⊢); first | exact he.elim | omega | exact he)
          replace HPn := HPn.keep k107 (by intro h; (try dsimp only at h); (try simp only [add_block] at h); first | omega)
          replace HB6 := HX107
          clear HX107
          try simp only [List.set_cons_zero, List.set_cons_succ, setAt, List.take_zero, List.take_succ_cons, List.drop_zero, List.drop_succ_cons, List.nil_append, List.cons_append, List.append_nil, List.length_cons, List.length_nil, Nat.zero_add, Nat.reduceAdd, List.drop_nil] at HB6
          refine l_nil ?_
          refine n_then ?_
          refine c_ret ?_
          refine r_blk ?_
          refine ⟨EL1, ?_⟩
          exact ⟨rfl, HB6⟩
        · skip
          refine c_skip ?_
          refine n_blk ?_
          refine ⟨EL1, ?_⟩
          exact ⟨by simpa using HB7, by rw [lastK_snoc]; exact HB8, HB6, by simp; omega⟩
    · skip
      rintro D xs w108 hD E EK hS ⟨HB7, HB8, HB6, hp1⟩ HD
      have zs_EK108 := EK.size
      have zs_E108 := E.size
      replace HBr := HBr.keep EK (by intro h; (try dsimp only at h); first | omega)
      replace HT1 := HT1.keep EK (by intro i _ hi he; (try dsimp only [NoK, AllB] at hi he); first | exact hi.elim | exact he.elim | omega | (rcases hi with hi | hi <;> omega) | (rcases he with he | he <;> omega))
      replace HB4 := HB4.keep EK (by intro h; (try dsimp only at h); first | omega)
      replace HB5 := HB5.keep EK (by intro h; (try dsimp only at h); first | omega)
      refine n_blk ?_
      refine n_then ?_
      refine c_seq ?_
      refine wp_any (by kernel_rfl) ?_
      have e109 : Ext w108 { w108 with drawn := w108.drawn + 1 } := Keep.drawn _ _
      generalize hw109 : ({ w108 with drawn := w108.drawn + 1 } : World) = w109 at e109 ⊢
      clear hw109
      have zs_e109 := e109.size
      replace HBr := HBr.ext e109
      replace HT1 := HT1.ext e109
      replace HB4 := HB4.ext e109
      replace HB5 := HB5.ext e109
      replace E := E.trans (Ext.keep e109)
      replace HB7 := HB7.ext e109
      replace HB8 := HB8.ext e109
      replace HB6 := HB6.ext e109
      replace HD := defB_keep HD e109 (fun h => h)
      refine r_cut 3 rfl (by decide +kernel) (by decide +kernel) (by decide +kernel) ?_
      refine wp_regdW (NoK) (by decide +kernel) (by decide +kernel) ?_
      refine rt_v (fun vals w hR hd => v_load (by kernel_rfl) rfl (by first | exact (HB6.ext hR).cell rfl | exact (HB8.ext hR).cell rfl | exact (HB7.ext hR).cell rfl | exact (HB5.ext hR).cell rfl | exact (HB4.ext hR).cell rfl | exact (HBr.ext hR).cell rfl | assumption)) ?_
      refine rt_v (fun vals w hR hd => v_load (by kernel_rfl) rfl (by first | exact (HB6.ext hR).cell rfl | exact (HB8.ext hR).cell rfl | exact (HB7.ext hR).cell rfl | exact (HB5.ext hR).cell rfl | exact (HB4.ext hR).cell rfl | exact (HBr.ext hR).cell rfl | assumption)) ?_
      refine rt_vf (fun vals w hR hd => to_f1 (by kernel_rfl) (hd 1 rfl) (refTLen_c (HBr.ext hR) (HT1.ext hR) hok)) ?_
      refine rt_nil (fun w110 e110 => ?_)
      rintro _ rfl _ rfl _ rfl
      have zs_e110 := e110.size
      replace HBr := HBr.ext e110
      replace HT1 := HT1.ext e110
      replace HB4 := HB4.ext e110
      replace HB5 := HB5.ext e110
      replace E := E.trans (Ext.keep e110)
      replace HB7 := HB7.ext e110
      replace HB8 := HB8.ext e110
      replace HB6 := HB6.ext e110
      replace HD := defB_keep HD e110 (fun h => h)
      refine fin_nil ?_
      refine n_then ?_
      refine r_cut 1 rfl (by decide +kernel) (by decide +kernel) (by decide +kernel) ?_
      refine r_one (by decide +kernel) rfl ?_
      refine l_v (v_eql rfl rfl) ?_
      refine l_nil ?_
      refine n_then ?_
      refine r_one (by decide +kernel) rfl ?_
      refine l_to (to_store rfl rfl (show _ = (Value.bool _) from rfl) rfl (by kernel_rfl) HB6 (by first | exact of_decide_eq_true rfl | (simp; done) | decide | (simp only [List.length_set, hlen]; exact of_decide_eq_true rfl)) ?_)
      rintro w111 HX111 k111 z111
      have zs_k111 := k111.size
      replace HBr := HBr.keep k111 (by intro h; (try dsimp only at h); first | omega)
      replace HT1 := HT1.keep k111 (by intro i _ hi he; (try dsimp only [NoK, AllB] at hi he); first | exact hi.elim | exact he.elim | omega | (rcases hi with hi | hi <;> omega) | (rcases he with he | he <;> omega))
      replace HB4 := HB4.keep k111 (by intro h; (try dsimp only at h); first | omega)
      replace HB5 := HB5.keep k111 (by intro h; (try dsimp only at h); first | omega)
      replace E := E.step k111 (by intro i hi he; (try dsimp only [NoK] at hi he ⊢); first | exact he.elim | omega | exact he)
      replace HB7 := HB7.keep k111 (by intro h; (try dsimp only at h); first | omega)
      replace HB8 := HB8.keep k111 (by intro h; (try dsimp only at h); first | omega)
      replace HD := defB_keep HD k111 (by intro h; have h := h; (try dsimp only at h); omega)
      replace HB6 := HX111
      clear HX111
      try simp only [List.set_cons_zero, List.set_cons_succ, setAt, List.take_zero, List.take_succ_cons, List.drop_zero, List.drop_succ_cons, List.nil_append, List.cons_append, List.append_nil, List.length_cons, List.length_nil, Nat.zero_add, Nat.reduceAdd, List.drop_nil] at HB6
      refine l_nil ?_
      refine n_then ?_
      refine c_ret ?_
      refine retM1s HD rfl (by decide) rfl (by kernel_rfl) (HB6.cell rfl) ?_
      have E := keep_put E (by omega : w.heap.size ≤ D) (.deferred none)
      refine ⟨?_, E⟩
      rw [hS, ks_cnt]; simp
    · skip
      rintro D _ pre w112 hD E EK hpre ⟨rfl, HB6⟩ HD
      have zs_EK112 := EK.size
      have zs_E112 := E.size
      replace HBr := HBr.keep EK (by intro h; (try dsimp only at h); first | omega)
      replace HT1 := HT1.keep EK (by intro i _ hi he; (try dsimp only [NoK, AllB] at hi he); first | exact hi.elim | exact he.elim | omega | (rcases hi with hi | hi <;> omega) | (rcases he with he | he <;> omega))
      replace HB4 := HB4.keep EK (by intro h; (try dsimp only at h); first | omega)
      replace HB5 := HB5.keep EK (by intro h; (try dsimp only at h); first | omega)
      refine c_ret ?_
      refine r_blk ?_
      refine r_then ?_
      refine retM1s HD rfl (by decide) rfl (by kernel_rfl) (HB6.cell rfl) ?_
      have E := keep_put E (by omega : w.heap.size ≤ D) (.deferred none)
      exact ⟨rfl, E⟩
end Go.Proofs.Ytlhanmlpionomaa
