/- A part of the proof: steps and lemmas for the walks through the given program. -/
import Derived.Test.YtaidpdjlchnonaaN4
import Derived.Test.YtaidpdjlchnonaaGn
namespace Go.Proofs.Ytaidpdjlchnonaa
open Go.Vc
set_option linter.unusedVariables false
set_option linter.unusedSimpArgs false
set_option maxRecDepth 100000

theorem CloneE_c {w : World} {F : Nat → Prop} {v : Value} {l : List EnV} (HS1 : SlV tEn w F v l) (hn : l.length ≤ 1000000) : CallsR Try.prog 96 #[v] w (fun o w' => OwV tEn 73 w' w.heap.size F o l ∧ Ext w w') := by
  replace HS1 := HS1.mono (F' := fun b => F b ∧ b < w.heap.size) fun b h1 h2 => ⟨h2, h1⟩
  obtain ⟨a1, c1, rfl⟩ := HS1.shape
  refine enter 8 Try.func96 rfl rfl (by simp) ?_
  refine c_seq ?_
  have E := Keep.refl (K := NoK) w
  refine wp_reg (by decide +kernel) ?_
  refine l_v (v_assign rfl) ?_
  refine l_nil ?_
  refine n_then ?_
  refine c_seq ?_
  refine c_seq ?_
  refine wp_reg (by decide +kernel) ?_
  refine l_v (v_move (t := .slice _ _ _) rfl) ?_
  refine l_v (v_sleneq (et := 73) (by kernel_rfl) rfl rfl) ?_
  refine l_nil ?_
  refine n_then ?_
  refine c_cond rfl rfl (fun hc => ?_) (fun hc => ?_)
  · skip
    refine c_seq ?_
    refine wp_reg (by decide +kernel) ?_
    refine l_v (v_assign rfl) ?_
    refine l_nil ?_
    refine n_then ?_
    refine c_ret ?_
    refine r_then ?_
    refine ret1v rfl (by decide) (show _ = (Value.slice _ _ _) from rfl) ?_
    have hn : a1 = none := by simpa using hc
    subst hn
    obtain ⟨a, c, hv, _, _, h3, _⟩ := HS1
    cases hv
    have : l = [] := List.eq_nil_of_length_eq_zero (by have := h3 rfl; omega)
    subst this
    exact ⟨OwV.nil _ _ _ _ _, E⟩
  · skip
    refine c_skip ?_
    refine n_then ?_
    refine c_seq ?_
    refine wp_reg (by decide +kernel) ?_
    refine l_to (to_slice0 (t := tEn) (et := 73) (bytes := 32) (by kernel_rfl) ?_)
    rintro b2 w2 zb2 HO2 e2 z2
    have zs_e2 := e2.size
    replace E := E.trans (Ext.keep e2)
    replace HS1 := HS1.ext e2
    have zo_HO2 := fun (b : Nat) h => HO2.own_lt (b := b) h
    refine l_v (v_move (t := .slice _ _ _) rfl) ?_
    refine l_to (to_append (et := 73) (bytes := 32) (by kernel_rfl) (show _ = (Value.slice _ _ _) from rfl) (HO2.mono (F' := F) fun _ _ h => h.elim) (show _ = (Value.slice _ _ _) from rfl) HS1 (deepF fun b _ hb => ⟨hb.1, fun ho => by have := HO2.own_lt ho; omega⟩) (by first | omega | (simp; done) | (simp; omega)) (by simp only [maxLen]; first | omega | (simp; done) | (simp; omega)) (by omega) ?_)
    rintro a3 n3 c3 w3 HO3 hn3 k3 h3 i3
    have zs_k3 := k3.size
    replace E := E.step k3 (by intro i hi he; have he0 := he; (try dsimp only [NoK] at hi he ⊢); (try simp only [Value.ownBlock, Option.some.injEq] at he); first | exact he.elim | omega | exact he | (have := ((HO2.mono (F' := F) fun _ _ h => h.elim)).own_lt he0; omega) | (have := zo_HO2 _ he0; omega) | (have := ((HO2.mono (F' := F) fun _ _ h => h.elim)).own_lt he0; rcases hi with hi | hi <;> omega))
    replace HS1 := HS1.keep k3 (by intro i _ hi he; have he0 := he; (try dsimp only [NoK, AllB] at hi he); (try simp only [Value.ownBlock, Option.some.injEq] at he); first | exact hi.elim | exact he.elim | omega | (rcases hi with hi | hi <;> omega) | (rcases he with he | he <;> omega) | (have := ((HO2.mono (F' := F) fun _ _ h => h.elim)).own_lt he0; omega) | (have := zo_HO2 _ he0; omega) | (have := ((HO2.mono (F' := F) fun _ _ h => h.elim)).own_lt he0; rcases hi with hi | hi <;> omega))
    have zo_HO3 := fun (b : Nat) h => HO3.own_lt (b := b) h
    refine l_v (v_assign (t := .slice _ _ _) rfl) ?_
    refine l_nil ?_
    refine n_then ?_
    refine c_ret ?_
    refine ret1v rfl (by decide) (show _ = (Value.slice _ _ _) from rfl) ?_
    exact ⟨HO3.base (by omega), E⟩
theorem clone_c {w : World} {F : Nat → Prop} {v : Value} {m : Ms} (HG1 : AgV tMs w F v m) (hm : mayN m = true) : CallsR Try.prog 60 #[v] w (fun o w' => AgV tMs w' (fun b => w.heap.size ≤ b) o m ∧ Ext w w') := by
  obtain ⟨a1, c1, a2, c2, rfl, HSe, HSs, hw⟩ := HG1.ms
  obtain ⟨hl1, hl2, hl3⟩ := mayN_lens hm
  refine enter 32 Try.func60 rfl rfl (by simp) ?_
  refine c_seq ?_
  have E := Keep.refl (K := NoK) w
  replace HSe := HSe.all
  replace HSs := HSs.all
  refine wp_reg (by decide +kernel) ?_
  refine l_to (to_box (show _ = (Value.agg _) from rfl) ?_)
  rintro b1 w1 zb1 HB1 e1 z1
  have zs_e1 := e1.size
  replace E := E.trans (Ext.keep e1)
  replace HSe := HSe.ext e1
  replace HSs := HSs.ext e1
  try simp only [Value.cells] at HB1
  refine l_to (to_alloc (z := (.agg #[.int .i64 0, .int .i64 0, .int .i64 0, .int .i64 0, .int .i64 0, .int .i64 0, .int .i64 0, .int .i64 0, .slice none 0 0, .bool false, .slice none 0 0])) (by unfold kZero; kernel_rfl) ?_)
  rintro b2 w2 zb2 HB2 e2 z2
  have zs_e2 := e2.size
  replace E := E.trans (Ext.keep e2)
  replace HSe := HSe.ext e2
  replace HSs := HSs.ext e2
  replace HB1 := HB1.ext e2
  try simp only [Value.cells] at HB2
  refine l_nil ?_
  refine n_then ?_
  refine c_seq ?_
  refine wp_reg (by decide +kernel) ?_
  refine l_v (v_fieldAddr (off := 10) (ft := 24) (by kernel_rfl) rfl) ?_
  refine l_v (v_load (by kernel_rfl) rfl (by first | exact HB2.pv 10 _ rfl | exact HB1.pv 10 _ rfl | assumption)) ?_
  refine l_to (to_f1 (by kernel_rfl) (show _ = (Value.slice _ _ _) from rfl) (CallsR.mono (Clone_c HSs (by omega)) ?_))
  rintro _ w5 ⟨HO5, e5⟩
  have zs_e5 := e5.size
  obtain ⟨a5, c5, rfl⟩ := HO5.shape
  replace E := E.trans (Ext.keep e5)
  replace HSe := HSe.ext e5
  replace HSs := HSs.ext e5
  replace HB1 := HB1.ext e5
  replace HB2 := HB2.ext e5
  have zo_HO5 := fun (b : Nat) h => HO5.own_lt (b := b) h
  obtain ⟨n5, hn5⟩ : ∃ n, n = w5.heap.size := ⟨_, rfl⟩
  refine l_v (v_fieldAddr (off := 10) (ft := 24) (by kernel_rfl) rfl) ?_
  refine l_to (to_store rfl rfl (show _ = (Value.slice _ _ _) from rfl) rfl (by kernel_rfl) HB1 (by first | exact of_decide_eq_true rfl | (simp; done) | decide) ?_)
  rintro w101 HX101 k101 z101
  have zs_k101 := k101.size
  replace E := E.step k101 (by intro i hi he; (try dsimp only [NoK] at hi he ⊢); first | exact he.elim | omega | exact he)
  replace HSe := HSe.keep k101 (by intro i _ hi he; (try dsimp only [NoK, AllB] at hi he); first | exact hi.elim | exact he.elim | omega | (rcases hi with hi | hi <;> omega) | (rcases he with he | he <;> omega))
  replace HB2 := HB2.keep k101 (by intro h; (try dsimp only at h); first | omega)
  replace HO5 := HO5.keep k101 (by intro i ho he; have he0 := he; have ho0 := ho; (try dsimp only [NoK] at he); (try simp only [Value.ownBlock, Option.some.injEq, reduceCtorEq] at ho); (try simp only [Value.ownBlock, Option.some.injEq, reduceCtorEq] at he); first | exact he.elim | exact ho.elim | omega | (have := zo_HO5 _ ho0; omega)) (by intro i _ hi _ he; have he0 := he; have hi := hi; have he := he; (try dsimp only [NoK, AllB] at hi he); (try simp only [Value.ownBlock, Option.some.injEq, reduceCtorEq] at he); all_goals first | exact hi.elim | exact hi.1.elim | exact he.elim | omega | (rcases hi with hi | hi <;> omega) | (rcases he with he | he <;> omega))
  replace HB1 := HX101
  clear HX101
  try simp only [List.set_cons_zero, List.set_cons_succ, setAt, List.take_zero, List.take_succ_cons, List.drop_zero, List.drop_succ_cons, List.nil_append, List.cons_append, List.append_nil, List.length_cons, List.length_nil, Nat.zero_add, Nat.reduceAdd, List.drop_nil] at HB1
  refine l_nil ?_
  refine n_then ?_
  refine c_seq ?_
  refine wp_reg (by decide +kernel) ?_
  refine l_v (v_fieldAddr (off := 8) (ft := 23) (by kernel_rfl) rfl) ?_
  refine l_v (v_load (by kernel_rfl) rfl (by first | exact HB2.pv 8 _ rfl | exact HB1.pv 8 _ rfl | assumption)) ?_
  refine l_to (to_f1 (by kernel_rfl) (show _ = (Value.slice _ _ _) from rfl) (CallsR.mono (CloneE_c HSe (by omega)) ?_))
  rintro _ w6 ⟨HO6, e6⟩
  have zs_e6 := e6.size
  replace HO6 := (HO6.base (B' := n5) (by omega)).mono (F' := fun b => b ≠ b1 ∧ b ≠ b2) (fun b _ hb => by omega)
  replace HO6 := HO6.mark (n0 := w.heap.size)
  obtain ⟨a6, c6, rfl⟩ := HO6.shape
  simp only [mkM_len] at HO6 ⊢
  replace E := E.trans (Ext.keep e6)
  replace HSe := HSe.ext e6
  replace HB1 := HB1.ext e6
  replace HB2 := HB2.ext e6
  replace HO5 := HO5.ext e6
  have zo_HO6 := fun (b : Nat) h => HO6.own_lt (b := b) h
  refine l_v (v_fieldAddr (off := 8) (ft := 23) (by kernel_rfl) rfl) ?_
  refine l_to (to_store rfl rfl (show _ = (Value.slice _ _ _) from rfl) rfl (by kernel_rfl) HB1 (by first | exact of_decide_eq_true rfl | (simp; done) | decide) ?_)
  rintro w102 HX102 k102 z102
  have zs_k102 := k102.size
  replace E := E.step k102 (by intro i hi he; (try dsimp only [NoK] at hi he ⊢); first | exact he.elim | omega | exact he)
  replace HB2 := HB2.keep k102 (by intro h; (try dsimp only at h); first | omega)
  replace HO5 := HO5.keep k102 (by intro i ho he; have he0 := he; have ho0 := ho; (try dsimp only [NoK] at he); (try simp only [Value.ownBlock, Option.some.injEq, reduceCtorEq] at ho); (try simp only [Value.ownBlock, Option.some.injEq, reduceCtorEq] at he); first | exact he.elim | exact ho.elim | omega | (have := zo_HO5 _ ho0; omega)) (by intro i _ hi _ he; have he0 := he; have hi := hi; have he := he; (try dsimp only [NoK, AllB] at hi he); (try simp only [Value.ownBlock, Option.some.injEq, reduceCtorEq] at he); all_goals first | exact hi.elim | exact hi.1.elim | exact he.elim | omega | (rcases hi with hi | hi <;> omega) | (rcases he with he | he <;> omega))
  replace HO6 := HO6.keep k102 (by intro i ho he; have he0 := he; have ho0 := ho; (try dsimp only [NoK] at he); (try simp only [Value.ownBlock, Option.some.injEq, reduceCtorEq] at ho); (try simp only [Value.ownBlock, Option.some.injEq, reduceCtorEq] at he); first | exact he.elim | exact ho.elim | omega | (have := zo_HO6 _ ho0; omega)) (by intro i _ hi _ he; have he0 := he; have hi := hi; have he := he; (try dsimp only [NoK, AllB] at hi he); (try simp only [Value.ownBlock, Option.some.injEq, reduceCtorEq] at he); all_goals first | exact hi.elim | exact hi.1.elim | exact he.elim | omega | (rcases hi with hi | hi <;> omega) | (rcases he with he | he <;> omega))
  replace HB1 := HX102
  clear HX102
  try simp only [List.set_cons_zero, List.set_cons_succ, setAt, List.take_zero, List.take_succ_cons, List.drop_zero, List.drop_succ_cons, List.nil_append, List.cons_append, List.append_nil, List.length_cons, List.length_nil, Nat.zero_add, Nat.reduceAdd, List.drop_nil] at HB1
  refine l_nil ?_
  refine n_then ?_
  refine c_seq ?_
  refine c_seq ?_
  refine wp_reg (by decide +kernel) ?_
  refine l_v (v_fieldAddr (off := 8) (ft := 23) (by kernel_rfl) rfl) ?_
  refine l_v (v_load (by kernel_rfl) rfl (by first | exact HB2.pv 8 _ rfl | exact HB1.pv 8 _ rfl | assumption)) ?_
  refine l_v (v_len (et := 73) (by kernel_rfl) rfl) ?_
  refine l_v (v_move rfl) ?_
  refine l_nil ?_
  refine n_then ?_
  refine c_block ?_
  refine c_loop (τ := Nat) [3, 15, 16, 17, 18, 19, 20, 21, 22, 23, 24, 25, 26, 27, 28, 29, 30] (fun i => [(15, .int .i64 i)]) (fun i W => Ext w W ∧ Keep (fun b => n5 ≤ b) w102 W ∧ i ≤ m.ents.length ∧ OwV (tEnM w.heap.size) 73 W n5 (fun b => b ≠ b1 ∧ b ≠ b2) (.slice a6 m.ents.length c6) (mkM i m.ents)) (fun i => m.ents.length - i) 0 (by exact ⟨rfl, trivial⟩) (by exact ⟨E, Keep.refl _, Nat.zero_le _, HO6⟩) ?_
  rintro i w103 j ⟨E, EL1, h1, HOx⟩
  have zs_EL1 := EL1.size
  replace HB1 := HB1.keep EL1 (by intro h; (try dsimp only at h); first | omega)
  replace HB2 := HB2.keep EL1 (by intro h; (try dsimp only at h); first | omega)
  replace HO5 := HO5.keep EL1 (by intro i ho he; have he0 := he; have ho0 := ho; (try dsimp only [NoK] at he); (try simp only [Value.ownBlock, Option.some.injEq, reduceCtorEq] at ho); (try simp only [Value.ownBlock, Option.some.injEq, reduceCtorEq] at he); first | exact he.elim | exact ho.elim | omega | (have := zo_HO5 _ ho0; omega)) (by intro i _ hi _ he; have he0 := he; have hi := hi; have he := he; (try dsimp only [NoK, AllB] at hi he); (try simp only [Value.ownBlock, Option.some.injEq, reduceCtorEq] at he); all_goals first | exact hi.elim | exact hi.1.elim | exact he.elim | omega | (rcases hi with hi | hi <;> omega) | (rcases he with he | he <;> omega))
  have zo_HOx := fun (b : Nat) h => HOx.own_lt (b := b) h
  refine c_seq ?_
  refine wp_reg (by decide +kernel) ?_
  refine l_v (v_lss rfl rfl) ?_
  refine l_nil ?_
  refine n_then ?_
  refine c_seq ?_
  refine c_cond rfl rfl (fun hlt => ?_) (fun hlt => ?_)
  · skip
    have hlt := dtrue hlt
    obtain ⟨r, hx, hdr⟩ := getE (l := m.ents) (i := i) (by omega)
    have hx' : (mkM i m.ents)[i]? = some (r, false) := by rw [mkM_get, hx]; simp
    obtain ⟨b6, hb6, hb61, hb62⟩ := HOx.addr (by intro h0; rw [h0] at hx'; cases hx')
    subst hb6
    obtain ⟨q, cs, hq, hF, _, HPq, hr⟩ := (SlV.el (n := m.ents.length) (c := c6) (by simpa only [mkM_len] using HOx.view) hx')
    cases hq
    have hr : tEn.rep _ _ cs r := hr
    obtain ⟨a7, c7, rfl, HS7, hr1⟩ := tEn_cells hr
    have hl7 := (hl3 r (List.mem_of_getElem? hx)).1
    refine c_skip ?_
    refine n_then ?_
    refine c_seq ?_
    refine c_block ?_
    refine c_seq ?_
    refine wp_reg (by decide +kernel) ?_
    refine l_v (v_move (t := .int _ _) rfl) ?_
    refine l_v (v_assign (t := .int _ _) rfl) ?_
    refine l_nil ?_
    refine n_then ?_
    refine wp_any (by kernel_rfl) ?_
    have e104 : Ext w103 { w103 with drawn := w103.drawn + 1 } := Keep.drawn _ _
    generalize hw104 : ({ w103 with drawn := w103.drawn + 1 } : World) = w104 at e104 ⊢
    clear hw104
    have zs_e104 := e104.size
    replace E := E.trans (Ext.keep e104)
    replace HB1 := HB1.ext e104
    replace HB2 := HB2.ext e104
    replace HO5 := HO5.ext e104
    replace HOx := HOx.ext e104
    replace EL1 := EL1.trans (Ext.keep e104)
    replace HPq := HPq.ext e104
    replace HS7 := HS7.ext e104
    refine r_cut 10 rfl (by decide +kernel) (by decide +kernel) (by decide +kernel) ?_
    refine wp_regdW (NoK) (by decide +kernel) (by decide +kernel) ?_
    refine rt_v (fun vals w hR hd => v_fieldAddr (off := 8) (ft := 23) (by kernel_rfl) rfl) ?_
    refine rt_v (fun vals w hR hd => v_load (by kernel_rfl) (hd 0 rfl) (by first | exact (HPq.ext hR) 8 _ rfl | exact (HB2.ext hR).pv 8 _ rfl | exact (HB1.ext hR).pv 8 _ rfl | assumption)) ?_
    refine rt_v (fun vals w hR hd => v_move (t := .int _ _) rfl) ?_
    refine rt_v (fun vals w hR hd => v_fieldAddr (off := 8) (ft := 23) (by kernel_rfl) rfl) ?_
    refine rt_v (fun vals w hR hd => v_load (by kernel_rfl) (hd 3 rfl) (by first | exact (HPq.ext hR) 8 _ rfl | exact (HB2.ext hR).pv 8 _ rfl | exact (HB1.ext hR).pv 8 _ rfl | assumption)) ?_
    refine rt_v (fun vals w hR hd => v_move (t := .int _ _) rfl) ?_
    refine rt_v (fun vals w hR hd => v_indexAddr (et := 73) (sz := 2) (k := i) (by kernel_rfl) (by kernel_rfl) (hd 4 rfl) (hd 5 rfl) (by first | rfl | omega) (by omega)) ?_
    refine rt_v (fun vals w hR hd => v_fieldAddr (off := 1) (ft := 24) (by kernel_rfl) (hd 6 rfl)) ?_
    refine rt_v (fun vals w hR hd => v_load (by kernel_rfl) (hd 7 rfl) (by first | exact (HPq.ext hR) 1 _ rfl | exact (HB2.ext hR).pv 1 _ rfl | exact (HB1.ext hR).pv 1 _ rfl | assumption)) ?_
    refine rt_to (fun v W => Bv W (fun b => w.heap.size ≤ b ∧ b ≠ b1 ∧ b ≠ b2 ∧ b ≠ b6) v r.2) (fun v w w' h k => h.ext k) (fun vals w hR hd => to_f1 (by kernel_rfl) (hd 8 rfl) (CallsR.mono (Clone_c (HS7.ext hR) (by omega)) fun v w1 ⟨h, e⟩ => ⟨e, h.view.mono fun b _ hb => by have := hR.size; exact hb.elim (fun h => by omega) (fun h => h.elim)⟩)) ?_
    refine rt_nil (fun w105 e105 => ?_)
    rintro _ rfl _ rfl _ rfl _ rfl _ rfl _ rfl _ rfl _ rfl _ rfl v27 HS27
    have zs_e105 := e105.size
    have HS27 : Bv _ (fun b => w.heap.size ≤ b ∧ b ≠ b1 ∧ b ≠ b2 ∧ b ≠ b6) v27 r.2 := HS27
    obtain ⟨a27, c27, rfl⟩ := HS27.shape
    replace E := E.trans (Ext.keep e105)
    replace HB1 := HB1.ext e105
    replace HB2 := HB2.ext e105
    replace HO5 := HO5.ext e105
    replace HOx := HOx.ext e105
    replace EL1 := EL1.trans (Ext.keep e105)
    refine fin_nil ?_
    refine n_then ?_
    refine r_cut 2 rfl (by decide +kernel) (by decide +kernel) (by decide +kernel) ?_
    refine wp_regdW (NoK) (by decide +kernel) (by decide +kernel) ?_
    refine rt_v (fun vals w hR hd => v_indexAddr (et := 73) (sz := 2) (k := i) (by kernel_rfl) (by kernel_rfl) rfl rfl (by first | rfl | omega) (by omega)) ?_
    refine rt_v (fun vals w hR hd => v_fieldAddr (off := 1) (ft := 24) (by kernel_rfl) (hd 0 rfl)) ?_
    refine rt_nil (fun w106 e106 => ?_)
    rintro _ rfl _ rfl
    have zs_e106 := e106.size
    replace E := E.trans (Ext.keep e106)
    replace HB1 := HB1.ext e106
    replace HB2 := HB2.ext e106
    replace HO5 := HO5.ext e106
    replace HOx := HOx.ext e106
    replace EL1 := EL1.trans (Ext.keep e106)
    replace HS27 := HS27.ext e106
    refine fin_nil ?_
    refine n_then ?_
    refine r_one (by decide +kernel) rfl ?_
    refine l_to (to_storeO (k := i) (off := 1) rfl (by rw [show (tEnM w.heap.size).sz = 2 from rfl]; simp [add_lit]) (by first | decide | exact (of_decide_eq_true rfl : 1 < 2)) (show _ = (Value.slice _ _ _) from rfl) rfl (by kernel_rfl) HOx (x1 := (r, true)) hx' (fun cs h => tEnM_set HS27 (fun b _ hb => by have := hb; refine ⟨⟨⟨?_, ?_⟩, ?_⟩, ?_⟩ <;> omega) h) ?_)
    rintro w11 HO11 k11 z11
    have zs_k11 := k11.size
    replace E := E.step k11 (by intro i hi he; (try dsimp only [NoK] at hi he ⊢); first | exact he.elim | omega | exact he)
    replace HB1 := HB1.keep k11 (by intro h; (try dsimp only at h); first | omega)
    replace HB2 := HB2.keep k11 (by intro h; (try dsimp only at h); first | omega)
    replace HO5 := HO5.keep k11 (by intro i ho he; have he0 := he; have ho0 := ho; (try dsimp only [NoK] at he); (try simp only [Value.ownBlock, Option.some.injEq, reduceCtorEq] at ho); (try simp only [Value.ownBlock, Option.some.injEq, reduceCtorEq] at he); first | exact he.elim | exact ho.elim | omega | (have := zo_HO5 _ ho0; omega)) (by intro i _ hi _ he; have he0 := he; have hi := hi; have he := he; (try dsimp only [NoK, AllB] at hi he); (try simp only [Value.ownBlock, Option.some.injEq, reduceCtorEq] at he); all_goals first | exact hi.elim | exact hi.1.elim | exact he.elim | omega | (rcases hi with hi | hi <;> omega) | (rcases he with he | he <;> omega))
    replace EL1 := EL1.step k11 (by intro i hi he; (try dsimp only [NoK] at hi he ⊢); first | exact he.elim | omega | exact he)
    replace HS27 := HS27.keep k11 (by intro i _ hi he; (try dsimp only [NoK, AllB] at hi he); first | exact hi.elim | exact he.elim | omega | (rcases hi with hi | hi <;> omega) | (rcases he with he | he <;> omega))
    have zo_HO11 := fun (b : Nat) h => HO11.own_lt (b := b) h
    refine l_nil ?_
    refine n_blk ?_
    refine n_then ?_
    refine wp_reg (by decide +kernel) ?_
    refine l_v (v_add rfl rfl (by first | exact wr_i64 (by omega) (by omega) | rfl)) ?_
    refine l_v (v_move (t := .int _ _) rfl) ?_
    refine l_nil ?_
    refine n_then ?_
    refine ⟨i + 1, _, rfl, by (repeat (first | exact Off.of_over _ _ _ | refine Off.upd ?_ (by decide) _ | refine Off.overs ?_ (by decide) _)), ⟨by first | rfl | exact congrArg (Value.int _) (by omega) | (simp; done), trivial⟩, ⟨E, EL1, ?_⟩, ?_⟩
    · skip
      refine ⟨by omega, ?_⟩
      rw [mkM_set hx] at HO11
      exact HO11
    · (dsimp only; omega)
  · skip
    refine c_exit ?_
    refine x_then ?_
    refine x_then ?_
    refine x_hit ?_
    refine n_then ?_
    refine c_seq ?_
    refine wp_reg (by decide +kernel) ?_
    refine l_v (v_loadA (by kernel_rfl) rfl (by first | exact HB2.pv | exact HB1.pv | assumption) rfl) ?_
    refine l_to (to_storeA (n := 11) rfl rfl (show _ = (Value.agg _) from rfl) (by kernel_rfl) rfl (by first | (simp [slice_one]; done) | (simp only [List.forall_mem_cons, List.cons_append, List.nil_append]; repeat' (first | exact rfl | apply And.intro | (intro u hu; cases hu; done)))) HB2 (by first | exact of_decide_eq_true rfl | (simp; done) | decide) ?_)
    rintro w107 HX107 k107 z107
    have zs_k107 := k107.size
    replace E := E.step k107 (by intro i hi he; (try dsimp only [NoK] at hi he ⊢); first | exact he.elim | omega | exact he)
    replace HB1 := HB1.keep k107 (by intro h; (try dsimp only at h); first | omega)
    replace HO5 := HO5.keep k107 (by intro i ho he; have he0 := he; have ho0 := ho; (try dsimp only [NoK] at he); (try simp only [Value.ownBlock, Option.some.injEq, reduceCtorEq] at ho); (try simp only [Value.ownBlock, Option.some.injEq, reduceCtorEq] at he); first | exact he.elim | exact ho.elim | omega | (have := zo_HO5 _ ho0; omega)) (by intro i _ hi _ he; have he0 := he; have hi := hi; have he := he; (try dsimp only [NoK, AllB] at hi he); (try simp only [Value.ownBlock, Option.some.injEq, reduceCtorEq] at he); all_goals first | exact hi.elim | exact hi.1.elim | exact he.elim | omega | (rcases hi with hi | hi <;> omega) | (rcases he with he | he <;> omega))
    replace HOx := HOx.keep k107 (by intro i ho he; have he0 := he; have ho0 := ho; (try dsimp only [NoK] at he); (try simp only [Value.ownBlock, Option.some.injEq, reduceCtorEq] at ho); (try simp only [Value.ownBlock, Option.some.injEq, reduceCtorEq] at he); first | exact he.elim | exact ho.elim | omega | (have := zo_HOx _ ho0; omega)) (by intro i _ hi _ he; have he0 := he; have hi := hi; have he := he; (try dsimp only [NoK, AllB] at hi he); (try simp only [Value.ownBlock, Option.some.injEq, reduceCtorEq] at he); all_goals first | exact hi.elim | exact hi.1.elim | exact he.elim | omega | (rcases hi with hi | hi <;> omega) | (rcases he with he | he <;> omega))
    replace HB2 := HX107
    clear HX107
    try simp only [List.set_cons_zero, List.set_cons_succ, setAt, List.take_zero, List.take_succ_cons, List.drop_zero, List.drop_succ_cons, List.nil_append, List.cons_append, List.append_nil, List.length_cons, List.length_nil, Nat.zero_add, Nat.reduceAdd, List.drop_nil] at HB2
    refine l_nil ?_
    refine n_then ?_
    refine c_ret ?_
    refine ret1c (n := 11) rfl (by decide) rfl (by kernel_rfl) HB2.pv rfl ?_
    have h := dfalse hlt
    obtain rfl : i = m.ents.length := by omega
    exact ⟨AgV.mkMs (HOx.unmark (by omega)) (HO5.view.mono fun b _ hb => hb.elim (fun h => by omega) (fun h => h.elim)) hw, E⟩
end Go.Proofs.Ytaidpdjlchnonaa
