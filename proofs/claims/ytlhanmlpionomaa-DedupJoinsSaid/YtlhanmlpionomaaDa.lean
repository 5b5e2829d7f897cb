/- A part of the proof: steps and lemmas for the walks through the given program. -/
import Derived.Test.YtlhanmlpionomaaD1
import Derived.Test.YtlhanmlpionomaaGz
namespace Go.Proofs.Ytlhanmlpionomaa
open Go.Vc
set_option linter.unusedVariables false
set_option linter.unusedSimpArgs false
set_option maxRecDepth 100000

set_option maxHeartbeats 8000000 in
theorem clone_c {w : World} {F : Nat → Prop} {v : Value} {a : AnV} (HG1 : AgV tAn w F v a) (hp : a.2.1.length ≤ 1000000) (hn : a.2.2.length ≤ 1000000) (hd0 : ∀ p ∈ a.2.1, p.1.length ≤ 1000000 ∧ p.2.length ≤ 1000000) : CallsR Try.prog 42 #[v] w (fun o w' => AgV tAnF w' (fun b => w.heap.size ≤ b) o a ∧ Ext w w') := by
  obtain ⟨a1, c1, a2, c2, rfl, HS1, HS2, he⟩ := HG1.an
  refine enter 33 Try.func42 rfl rfl (by simp) ?_
  refine c_seq ?_
  have E := Keep.refl (K := NoK) w
  replace HS1 := HS1.all
  replace HS2 := HS2.all
  refine wp_reg (by decide +kernel) ?_
  refine l_to (to_box (show _ = (Value.agg _) from rfl) ?_)
  rintro b1 w1 zb1 HB1 e1 z1
  have zs_e1 := e1.size
  replace E := E.trans (Ext.keep e1)
  replace HS1 := HS1.ext e1
  replace HS2 := HS2.ext e1
  try simp only [Value.cells] at HB1
  refine l_to (to_alloc (z := (.agg #[.int .i64 0, .slice none 0 0, .slice none 0 0])) (by unfold kZero; kernel_rfl) ?_)
  rintro b2 w2 zb2 HB2 e2 z2
  have zs_e2 := e2.size
  replace E := E.trans (Ext.keep e2)
  replace HS1 := HS1.ext e2
  replace HS2 := HS2.ext e2
  replace HB1 := HB1.ext e2
  try simp only [Value.cells] at HB2
  refine l_nil ?_
  refine n_then ?_
  refine c_seq ?_
  obtain ⟨n0, hn0⟩ : ∃ n, n = w2.heap.size := ⟨_, rfl⟩
  refine wp_any (by kernel_rfl) ?_
  have e101 : Ext w2 { w2 with drawn := w2.drawn + 1 } := Keep.drawn _ _
  generalize hw101 : ({ w2 with drawn := w2.drawn + 1 } : World) = w101 at e101 ⊢
  clear hw101
  have zs_e101 := e101.size
  replace E := E.trans (Ext.keep e101)
  replace HS1 := HS1.ext e101
  replace HS2 := HS2.ext e101
  replace HB1 := HB1.ext e101
  replace HB2 := HB2.ext e101
  refine r_cut 7 rfl (by decide +kernel) (by decide +kernel) (by decide +kernel) ?_
  refine wp_regdW (NoK) (by decide +kernel) (by decide +kernel) ?_
  refine rt_v (fun vals w hR hd => v_fieldAddr (off := 0) (ft := 29) (by kernel_rfl) rfl) ?_
  refine rt_v (fun vals w hR hd => v_load (by kernel_rfl) (hd 0 rfl) (by first | exact (HB2.ext hR).pv 0 _ rfl | exact (HB1.ext hR).pv 0 _ rfl | assumption)) ?_
  refine rt_v (fun vals w hR hd => v_fieldAddr (off := 2) (ft := 31) (by kernel_rfl) rfl) ?_
  refine rt_v (fun vals w hR hd => v_load (by kernel_rfl) (hd 2 rfl) (by first | exact (HB2.ext hR).pv 2 _ rfl | exact (HB1.ext hR).pv 2 _ rfl | assumption)) ?_
  refine rt_to (fun v W => OwV tU8 5 W n0 NoK v a.2.2) (fun v w w' h k => h.ext k) (fun vals w hR hd => to_f1 (by kernel_rfl) (hd 3 rfl) (CallsR.mono (Clone_c (HS2.ext hR) (by omega)) fun v w1 ⟨h, e⟩ => ⟨e, h.base (by have := hR.size; omega)⟩)) ?_
  refine rt_to (fun v W => ∃ u, v = .agg #[.int .i64 a.1, .slice none 0 0, u] ∧ OwV tU8 5 W n0 NoK u a.2.2) (fun v w w' h k => by obtain ⟨u, h1, h2⟩ := h; exact ⟨u, h1, h2.ext k⟩) (fun vals w hR hd => OpTo.of_v (v_build (pl := [(0, 1), (1, 1), (2, 1)]) (z := .agg #[.int .i64 0, .slice none 0 0, .slice none 0 0]) (zl := [.int .i64 0, .slice none 0 0, .slice none 0 0]) (ps := [(0, .int .i64 a.1), (2, vals 4)]) (by kernel_rfl) (by unfold kZero; kernel_rfl) rfl (parts2 (hd 1 rfl) rfl) (cells := [.int .i64 a.1, .slice none 0 0, vals 4]) (by have h1 := OwV.one (show OwV tU8 5 _ n0 NoK _ a.2.2 from hd 4 rfl); simp [fillL, one_cells h1, setAt, cells_int])) ⟨Keep.refl _, _, rfl, (show OwV tU8 5 _ n0 NoK _ a.2.2 from hd 4 rfl)⟩) ?_
  refine rt_to (fun v W => ∃ b, v = .pointer (some ⟨b, 0, none⟩) ∧ n0 ≤ b ∧ Blk W b [.int .i64 0, .slice none 0 0, .slice none 0 0] 33) (fun v w w' h k => by obtain ⟨b, h1, h2, h3⟩ := h; exact ⟨b, h1, h2, h3.ext k⟩) (fun vals w hR hd => to_alloc (z := .agg #[.int .i64 0, .slice none 0 0, .slice none 0 0]) (by unfold kZero; kernel_rfl) (fun b w1 hb hB e z => ⟨e, b, rfl, by have := hR.size; omega, hB⟩)) ?_
  refine rt_nil (fun w20 e20 => ?_)
  rintro _ rfl _ rfl _ rfl _ rfl v4 hs4 v5 ⟨u5, rfl, HO5⟩ v6 ⟨b3, rfl, hb3, HB3⟩
  have zs_e20 := e20.size
  have zb3' := HB3.lt
  have HF5 := OwV.byN HO5 HB3 (by decide)
  obtain ⟨a5, c5, rfl⟩ := HF5.bv.shape
  replace E := E.trans (Ext.keep e20)
  replace HS1 := HS1.ext e20
  replace HS2 := HS2.ext e20
  replace HB1 := HB1.ext e20
  replace HB2 := HB2.ext e20
  refine fin_nil ?_
  refine n_then ?_
  refine r_one (by decide +kernel) rfl ?_
  obtain ⟨n6, hn6⟩ : ∃ n, n = w20.heap.size := ⟨_, rfl⟩
  replace HF5 := HF5.mono (F' := fun b => n0 ≤ b ∧ b ≠ b3 ∧ b < n6) fun b hb h => ⟨h.1, h.2, by omega⟩
  refine l_to (to_storeA (n := 3) rfl rfl (show _ = (Value.agg _) from rfl) (by kernel_rfl) rfl (by first | (simp [slice_one]; done) | (simp only [List.forall_mem_cons, List.cons_append, List.nil_append]; repeat' (first | exact rfl | apply And.intro | (intro u hu; cases hu; done)))) HB3 (by first | exact of_decide_eq_true rfl | (simp; done) | decide) ?_)
  rintro w31 HB3 k31 z31
  have zs_k31 := k31.size
  try simp only [List.set_cons_zero, List.set_cons_succ, setAt, List.take, List.drop, List.nil_append, List.cons_append, List.append_nil, List.length_cons, List.length_nil] at HB3
  replace E := E.step k31 (by intro i hi he; (try dsimp only [NoK] at hi he ⊢); first | exact he.elim | omega | exact he)
  replace HS1 := HS1.keep k31 (by intro i _ hi he; (try dsimp only [NoK, AllB] at hi he); first | exact hi.elim | exact he.elim | omega | (rcases hi with hi | hi <;> omega) | (rcases he with he | he <;> omega))
  replace HB1 := HB1.keep k31 (by intro h; (try dsimp only at h); first | omega)
  replace HB2 := HB2.keep k31 (by intro h; (try dsimp only at h); first | omega)
  replace HF5 := HF5.keep k31 (by first | exact fun h => h | (intro h; have he0 := h; have h := h; (try dsimp only at h); (try simp only [Value.ownBlock, Option.some.injEq] at h); (try simp only [add_block] at h); (try simp only [add_block] at he0); first | omega) | (intro i _ hi he; have he0 := he; have hi := hi; have he := he; (try dsimp only [NoK, AllB] at hi he); (try simp only [Value.ownBlock, Option.some.injEq] at he); first | exact hi.elim | exact he.elim | omega | (rcases hi with hi | hi <;> omega) | (rcases he with he | he <;> omega)))
  refine l_nil ?_
  refine n_then ?_
  refine c_seq ?_
  refine c_seq ?_
  refine wp_reg (by decide +kernel) ?_
  refine l_v (v_fieldAddr (off := 1) (ft := 30) (by kernel_rfl) rfl) ?_
  refine l_v (v_load (by kernel_rfl) rfl (by first | exact HB3.pv 1 _ rfl | exact HB2.pv 1 _ rfl | exact HB1.pv 1 _ rfl | assumption)) ?_
  refine l_v (v_len (et := 61) (by kernel_rfl) rfl) ?_
  refine l_v (v_move rfl) ?_
  refine l_nil ?_
  refine n_then ?_
  refine c_block ?_
  refine c_loop (τ := Nat × Value) [5, 15, 16, 17, 18, 19, 20, 21, 22, 23, 24, 25, 26, 27, 28, 29, 30, 31] (fun (i, x) => [(15, .int .i64 i)]) (fun (i, x) W => Ext w W ∧ Keep (fun b => b = b3 ∨ n6 ≤ b) w31 W ∧ i ≤ a.2.1.length ∧ Blk W b3 [.int .i64 a.1, x, .slice a5 a.2.2.length c5] 33 ∧ OwV tPrF 61 W n6 (fun b => n6 ≤ b ∧ b < W.heap.size) x (a.2.1.take i)) (fun (i, x) => a.2.1.length - i) (0, .slice none 0 0) (by exact ⟨rfl, trivial⟩) (by exact ⟨E, Keep.refl _, Nat.zero_le _, HB3, OwV.nil _ _ _ _ _⟩) ?_
  rintro ⟨i, x⟩ w102 j ⟨E, EL1, h1, HB3, HOx⟩
  have zs_EL1 := EL1.size
  replace HS1 := HS1.keep EL1 (by intro i _ hi he; (try dsimp only [NoK, AllB] at hi he); first | exact hi.elim | exact he.elim | omega | (rcases hi with hi | hi <;> omega) | (rcases he with he | he <;> omega))
  replace HB1 := HB1.keep EL1 (by intro h; (try dsimp only at h); first | omega)
  replace HB2 := HB2.keep EL1 (by intro h; (try dsimp only at h); first | omega)
  replace HF5 := HF5.keep EL1 (by first | exact fun h => h | (intro h; have he0 := h; have h := h; (try dsimp only at h); (try simp only [Value.ownBlock, Option.some.injEq] at h); (try simp only [add_block] at h); (try simp only [add_block] at he0); first | omega) | (intro i _ hi he; have he0 := he; have hi := hi; have he := he; (try dsimp only [NoK, AllB] at hi he); (try simp only [Value.ownBlock, Option.some.injEq] at he); first | exact hi.elim | exact he.elim | omega | (rcases hi with hi | hi <;> omega) | (rcases he with he | he <;> omega)))
  have zo_HOx := fun (b : Nat) h => HOx.own_lt (b := b) h
  refine c_seq ?_
  refine wp_reg (by decide +kernel) ?_
  refine l_v (v_lss rfl rfl) ?_
  refine l_nil ?_
  refine n_then ?_
  refine c_seq ?_
  refine c_cond rfl rfl (fun hlt => ?_) (fun hlt => ?_)
  · skip
    have hlt := dtrue hlt
    have htl : (a.2.1.take i).length = i := by rw [List.length_take]; omega
    obtain ⟨p, hx, _⟩ := getE (l := a.2.1) (i := i) (by omega)
    obtain ⟨hl7, hl8⟩ := hd0 p (List.mem_of_getElem? hx)
    obtain ⟨q1, cs1, hq1, hF1, _, HPq, hr1⟩ := HS1.el hx
    cases hq1
    obtain ⟨d1, d2, d3, d4, rfl, HS7, HS8⟩ := tPr_cells hr1
    obtain ⟨ax, cx, rfl⟩ := HOx.shape
    refine c_skip ?_
    refine n_then ?_
    refine c_seq ?_
    refine c_block ?_
    refine c_seq ?_
    refine wp_reg (by decide +kernel) ?_
    refine l_v (v_indexAddr (et := 61) (sz := 2) (k := i) (by kernel_rfl) (by kernel_rfl) rfl rfl (by first | rfl | omega) (by omega)) ?_
    refine l_v (v_loadA (by kernel_rfl) rfl (by first | exact HPq | exact HB3.pv | exact HB2.pv | exact HB1.pv | assumption) rfl) ?_
    refine l_to (to_alloc (z := (.agg #[.slice none 0 0, .slice none 0 0])) (by unfold kZero; kernel_rfl) ?_)
    rintro b9 w9 zb9 HB9 e9 z9
    have zs_e9 := e9.size
    replace E := E.trans (Ext.keep e9)
    replace HS1 := HS1.ext e9
    replace HB1 := HB1.ext e9
    replace HB2 := HB2.ext e9
    replace HF5 := HF5.ext e9
    replace HB3 := HB3.ext e9
    replace HOx := HOx.ext e9
    replace EL1 := EL1.trans (Ext.keep e9)
    replace HPq := HPq.ext e9
    replace HS7 := HS7.ext e9
    replace HS8 := HS8.ext e9
    try simp only [Value.cells] at HB9
    obtain ⟨n7, hn7⟩ : ∃ n, n = w9.heap.size := ⟨_, rfl⟩
    refine l_to (to_storeA (n := 2) rfl rfl (show _ = (Value.agg _) from rfl) (by kernel_rfl) rfl (by first | (simp [slice_one]; done) | (simp only [List.forall_mem_cons, List.cons_append, List.nil_append]; repeat' (first | exact rfl | apply And.intro | (intro u hu; cases hu; done)))) HB9 (by first | exact of_decide_eq_true rfl | (simp; done) | decide) ?_)
    rintro w103 HX103 k103 z103
    have zs_k103 := k103.size
    replace E := E.step k103 (by intro i hi he; (try dsimp only [NoK] at hi he ⊢); first | exact he.elim | omega | exact he)
    replace HS1 := HS1.keep k103 (by intro i _ hi he; (try dsimp only [NoK, AllB] at hi he); first | exact hi.elim | exact he.elim | omega | (rcases hi with hi | hi <;> omega) | (rcases he with he | he <;> omega))
    replace HB1 := HB1.keep k103 (by intro h; (try dsimp only at h); first | omega)
    replace HB2 := HB2.keep k103 (by intro h; (try dsimp only at h); first | omega)
    replace HF5 := HF5.keep k103 (by first | exact fun h => h | (intro h; have he0 := h; have h := h; (try dsimp only at h); (try simp only [Value.ownBlock, Option.some.injEq] at h); (try simp only [add_block] at h); (try simp only [add_block] at he0); first | omega) | (intro i _ hi he; have he0 := he; have hi := hi; have he := he; (try dsimp only [NoK, AllB] at hi he); (try simp only [Value.ownBlock, Option.some.injEq] at he); first | exact hi.elim | exact he.elim | omega | (rcases hi with hi | hi <;> omega) | (rcases he with he | he <;> omega)))
    replace HB3 := HB3.keep k103 (by intro h; (try dsimp only at h); first | omega)
    replace HOx := HOx.keep k103 (by intro i ho he; have he0 := he; have ho0 := ho; (try dsimp only [NoK] at he); (try simp only [Value.ownBlock, Option.some.injEq, reduceCtorEq] at ho); (try simp only [Value.ownBlock, Option.some.injEq, reduceCtorEq] at he); first | exact he.elim | exact ho.elim | omega | (have := zo_HOx _ ho0; omega)) (by intro i _ hi _ he; have he0 := he; have hi := hi; have he := he; (try dsimp only [NoK, AllB] at hi he); (try simp only [Value.ownBlock, Option.some.injEq, reduceCtorEq] at he); all_goals first | exact hi.elim | exact hi.1.elim | exact he.elim | omega | (rcases hi with hi | hi <;> omega) | (rcases he with he | he <;> omega))
    replace EL1 := EL1.step k103 (by intro i hi he; (try dsimp only [NoK] at hi he ⊢); first | exact he.elim | omega | exact he)
    replace HS7 := HS7.keep k103 (by intro i _ hi he; (try dsimp only [NoK, AllB] at hi he); first | exact hi.elim | exact he.elim | omega | (rcases hi with hi | hi <;> omega) | (rcases he with he | he <;> omega))
    replace HS8 := HS8.keep k103 (by intro i _ hi he; (try dsimp only [NoK, AllB] at hi he); first | exact hi.elim | exact he.elim | omega | (rcases hi with hi | hi <;> omega) | (rcases he with he | he <;> omega))
    replace HB9 := HX103
    clear HX103
    try simp only [List.set_cons_zero, List.set_cons_succ, setAt, List.take_zero, List.take_succ_cons, List.drop_zero, List.drop_succ_cons, List.nil_append, List.cons_append, List.append_nil, List.length_cons, List.length_nil, Nat.zero_add, Nat.reduceAdd, List.drop_nil] at HB9
    refine l_nil ?_
    refine n_then ?_
    refine wp_any (by kernel_rfl) ?_
    have e104 : Ext w103 { w103 with drawn := w103.drawn + 1 } := Keep.drawn _ _
    generalize hw104 : ({ w103 with drawn := w103.drawn + 1 } : World) = w104 at e104 ⊢
    clear hw104
    have zs_e104 := e104.size
    replace E := E.trans (Ext.keep e104)
    replace HS1 := HS1.ext e104
    replace HB1 := HB1.ext e104
    replace HB2 := HB2.ext e104
    replace HF5 := HF5.ext e104
    replace HB3 := HB3.ext e104
    replace HOx := HOx.ext e104
    replace EL1 := EL1.trans (Ext.keep e104)
    replace HS7 := HS7.ext e104
    replace HS8 := HS8.ext e104
    replace HB9 := HB9.ext e104
    refine r_cut 10 rfl (by decide +kernel) (by decide +kernel) (by decide +kernel) ?_
    refine wp_regdW (NoK) (by decide +kernel) (by decide +kernel) ?_
    refine rt_v (fun vals w hR hd => v_fieldAddr (off := 1) (ft := 30) (by kernel_rfl) rfl) ?_
    refine rt_v (fun vals w hR hd => v_load (by kernel_rfl) (hd 0 rfl) (by first | exact (HB9.ext hR).pv 1 _ rfl | exact (HB3.ext hR).pv 1 _ rfl | exact (HB2.ext hR).pv 1 _ rfl | exact (HB1.ext hR).pv 1 _ rfl | assumption)) ?_
    refine rt_v (fun vals w hR hd => v_fieldAddr (off := 0) (ft := 31) (by kernel_rfl) rfl) ?_
    refine rt_v (fun vals w hR hd => v_load (by kernel_rfl) (hd 2 rfl) (by first | exact (HB9.ext hR).pv 0 _ rfl | exact (HB3.ext hR).pv 0 _ rfl | exact (HB2.ext hR).pv 0 _ rfl | exact (HB1.ext hR).pv 0 _ rfl | assumption)) ?_
    refine rt_to (fun v W => OwV tU8 5 W n7 NoK v p.1) (fun v w w' h k => h.ext k) (fun vals w hR hd => to_f1 (by kernel_rfl) (hd 3 rfl) (CallsR.mono (Clone_c (HS7.ext hR) (by omega)) fun v w1 ⟨h, e⟩ => ⟨e, h.base (by have := hR.size; omega)⟩)) ?_
    refine rt_v (fun vals w hR hd => v_fieldAddr (off := 1) (ft := 31) (by kernel_rfl) rfl) ?_
    refine rt_v (fun vals w hR hd => v_load (by kernel_rfl) (hd 5 rfl) (by first | exact (HB9.ext hR).pv 1 _ rfl | exact (HB3.ext hR).pv 1 _ rfl | exact (HB2.ext hR).pv 1 _ rfl | exact (HB1.ext hR).pv 1 _ rfl | assumption)) ?_
    refine rt_to (fun v W => OwV tU8 5 W n7 NoK v p.2) (fun v w w' h k => h.ext k) (fun vals w hR hd => to_f1 (by kernel_rfl) (hd 6 rfl) (CallsR.mono (Clone_c (HS8.ext hR) (by omega)) fun v w1 ⟨h, e⟩ => ⟨e, h.base (by have := hR.size; omega)⟩)) ?_
    refine rt_to (fun v W => AgV tPrF W (fun b => n7 ≤ b) v p) (fun v w w' h k => h.ext k) (fun vals w hR hd => OpTo.of_v (v_build (pl := [(0, 1), (1, 1)]) (z := .agg #[.slice none 0 0, .slice none 0 0]) (zl := [.slice none 0 0, .slice none 0 0]) (ps := [(0, vals 4), (1, vals 7)]) (by kernel_rfl) (by unfold kZero; kernel_rfl) rfl (parts2 rfl rfl) (cells := [vals 4, vals 7]) (by have h1 := OwV.one (show OwV tU8 5 _ n7 NoK _ p.1 from hd 4 rfl); have h2 := OwV.one (show OwV tU8 5 _ n7 NoK _ p.2 from hd 7 rfl); simp [fillL, one_cells h1, one_cells h2, setAt])) ⟨Keep.refl _, _, rfl, tPrF_mk (BvF.mono (show BvF _ _ _ _ from OwV.byF (show OwV tU8 5 _ n7 NoK _ p.1 from hd 4 rfl)) fun b _ h => h.elim (fun h => h) (fun h => h.elim)) (BvF.mono (show BvF _ _ _ _ from OwV.byF (show OwV tU8 5 _ n7 NoK _ p.2 from hd 7 rfl)) fun b _ h => h.elim (fun h => h) (fun h => h.elim))⟩) ?_
    refine rt_to (fun v W => SlV tPrF W (fun b => n7 ≤ b) v [p]) (fun v w w' h k => h.ext k) (fun vals w hR hd => to_slice1 (t := tPrF) (et := 61) (bytes := 48) (by kernel_rfl) (by decide) (show _ = vals 8 from rfl) (AgV.rp (show AgV tPrF _ (fun b => n7 ≤ b) _ p from hd 8 rfl)) (fun b w1 hb HO e z => ⟨e, HO.view.mono fun b _ hb => by have := hR.size; exact hb.elim (fun h => by omega) (fun h => h.1)⟩)) ?_
    refine rt_nil (fun w40 e40 => ?_)
    rintro _ rfl _ rfl _ rfl _ rfl v32 HO32 _ rfl _ rfl v33 HO33 v34 hs34 v35 HS35
    have zs_e40 := e40.size
    have HS35 : SlV tPrF _ (fun b => n7 ≤ b) v35 [p] := HS35
    obtain ⟨a34, c34, rfl⟩ := HS35.shape
    replace E := E.trans (Ext.keep e40)
    replace HS1 := HS1.ext e40
    replace HB1 := HB1.ext e40
    replace HB2 := HB2.ext e40
    replace HF5 := HF5.ext e40
    replace HB3 := HB3.ext e40
    replace HOx := HOx.ext e40
    replace EL1 := EL1.trans (Ext.keep e40)
    replace HS7 := HS7.ext e40
    replace HS8 := HS8.ext e40
    replace HB9 := HB9.ext e40
    refine fin_nil ?_
    refine n_then ?_
    refine r_cut 1 rfl (by decide +kernel) (by decide +kernel) (by decide +kernel) ?_
    refine r_one (by decide +kernel) rfl ?_
    have htl2 : (a.2.1.take i ++ [p]).length = i + 1 := by rw [List.length_append, htl]; rfl
    have HOy := HOx.mono (F' := fun b => n6 ≤ b) fun b _ h => h.1
    have zo_HOy := fun (b : Nat) h => HOy.own_lt (b := b) h
    have zo_HOy := zo_HOx
    refine l_to (to_append (et := 61) (bytes := 48) (by kernel_rfl) (show _ = (Value.slice _ _ _) from rfl) HOy (show _ = (Value.slice _ _ _) from rfl) HS35 (deepF fun b hb hb2 => ⟨by omega, fun ho => by have := zo_HOx _ ho; omega⟩) (by first | omega | (simp; done) | (simp; omega)) (by simp only [maxLen]; first | omega | (simp; done) | (simp; omega)) (by omega) ?_)
    rintro a9 n9 c9 w9 HO19 hn9 k9 h9 i9
    have zs_k9 := k9.size
    replace E := E.step k9 (by intro i hi he; have he0 := he; (try dsimp only [NoK] at hi he ⊢); (try simp only [Value.ownBlock, Option.some.injEq] at he); first | exact he.elim | omega | exact he | (have := (HOy).own_lt he0; omega) | (have := zo_HOy _ he0; omega) | (have := (HOy).own_lt he0; rcases hi with hi | hi <;> omega))
    replace HS1 := HS1.keep k9 (by intro i _ hi he; have he0 := he; (try dsimp only [NoK, AllB] at hi he); (try simp only [Value.ownBlock, Option.some.injEq] at he); first | exact hi.elim | exact he.elim | omega | (rcases hi with hi | hi <;> omega) | (rcases he with he | he <;> omega) | (have := (HOy).own_lt he0; omega) | (have := zo_HOy _ he0; omega) | (have := (HOy).own_lt he0; rcases hi with hi | hi <;> omega))
    replace HB1 := HB1.keep k9 (by intro h; have he0 := h; (try dsimp only at h); (try simp only [Value.ownBlock, Option.some.injEq] at h); first | omega | (have := (HOy).own_lt he0; omega) | (have := zo_HOy _ he0; omega))
    replace HB2 := HB2.keep k9 (by intro h; have he0 := h; (try dsimp only at h); (try simp only [Value.ownBlock, Option.some.injEq] at h); first | omega | (have := (HOy).own_lt he0; omega) | (have := zo_HOy _ he0; omega))
    replace HF5 := HF5.keep k9 (by first | exact fun h => h | (intro h; have he0 := h; have h := h; (try dsimp only at h); (try simp only [Value.ownBlock, Option.some.injEq] at h); (try simp only [add_block] at h); (try simp only [add_block] at he0); first | omega | (have := (HOy).own_lt he0; omega) | (have := zo_HOy _ he0; omega)) | (intro i _ hi he; have he0 := he; have hi := hi; have he := he; (try dsimp only [NoK, AllB] at hi he); (try simp only [Value.ownBlock, Option.some.injEq] at he); first | exact hi.elim | exact he.elim | omega | (rcases hi with hi | hi <;> omega) | (rcases he with he | he <;> omega) | (have := (HOy).own_lt he0; omega) | (have := zo_HOy _ he0; omega) | (have := (HOy).own_lt he0; rcases hi with hi | hi <;> omega)))
    replace HB3 := HB3.keep k9 (by intro h; have he0 := h; (try dsimp only at h); (try simp only [Value.ownBlock, Option.some.injEq] at h); first | omega | (have := (HOy).own_lt he0; omega) | (have := zo_HOy _ he0; omega))
    replace EL1 := EL1.step k9 (by intro i hi he; have he0 := he; (try dsimp only [NoK] at hi he ⊢); (try simp only [Value.ownBlock, Option.some.injEq] at he); first | exact he.elim | omega | exact he | (have := (HOy).own_lt he0; omega) | (have := zo_HOy _ he0; omega) | (have := (HOy).own_lt he0; rcases hi with hi | hi <;> omega))
    replace HB9 := HB9.keep k9 (by intro h; have he0 := h; (try dsimp only at h); (try simp only [Value.ownBlock, Option.some.injEq] at h); first | omega | (have := (HOy).own_lt he0; omega) | (have := zo_HOy _ he0; omega))
    replace HS35 := HS35.keep k9 (by intro i _ hi he; have he0 := he; (try dsimp only [NoK, AllB] at hi he); (try simp only [Value.ownBlock, Option.some.injEq] at he); first | exact hi.elim | exact he.elim | omega | (rcases hi with hi | hi <;> omega) | (rcases he with he | he <;> omega) | (have := (HOy).own_lt he0; omega) | (have := zo_HOy _ he0; omega) | (have := (HOy).own_lt he0; rcases hi with hi | hi <;> omega))
    have zo_HO19 := fun (b : Nat) h => HO19.own_lt (b := b) h
    refine l_nil ?_
    refine n_then ?_
    refine r_cut 1 rfl (by decide +kernel) (by decide +kernel) (by decide +kernel) ?_
    refine r_one (by decide +kernel) rfl ?_
    refine l_v (v_fieldAddr (off := 1) (ft := 30) (by kernel_rfl) rfl) ?_
    refine l_nil ?_
    refine n_then ?_
    refine r_one (by decide +kernel) rfl ?_
    refine l_to (to_store rfl rfl (show _ = (Value.slice _ _ _) from rfl) rfl (by kernel_rfl) HB3 (by simp) ?_)
    rintro w41 HB3 k41 z41
    have zs_k41 := k41.size
    try simp only [List.set_cons_zero, List.set_cons_succ] at HB3
    replace E := E.step k41 (by intro i hi he; (try dsimp only [NoK] at hi he ⊢); first | exact he.elim | omega | exact he)
    replace HS1 := HS1.keep k41 (by intro i _ hi he; (try dsimp only [NoK, AllB] at hi he); first | exact hi.elim | exact he.elim | omega | (rcases hi with hi | hi <;> omega) | (rcases he with he | he <;> omega))
    replace HB1 := HB1.keep k41 (by intro h; (try dsimp only at h); first | omega)
    replace HB2 := HB2.keep k41 (by intro h; (try dsimp only at h); first | omega)
    replace HF5 := HF5.keep k41 (by first | exact fun h => h | (intro h; have he0 := h; have h := h; (try dsimp only at h); (try simp only [Value.ownBlock, Option.some.injEq] at h); (try simp only [add_block] at h); (try simp only [add_block] at he0); first | omega) | (intro i _ hi he; have he0 := he; have hi := hi; have he := he; (try dsimp only [NoK, AllB] at hi he); (try simp only [Value.ownBlock, Option.some.injEq] at he); first | exact hi.elim | exact he.elim | omega | (rcases hi with hi | hi <;> omega) | (rcases he with he | he <;> omega)))
    replace EL1 := EL1.step k41 (by intro i hi he; (try dsimp only [NoK] at hi he ⊢); first | exact he.elim | omega | exact he)
    replace HB9 := HB9.keep k41 (by intro h; (try dsimp only at h); first | omega)
    replace HO19 := HO19.keep k41 (by intro i ho he; have he0 := he; have ho0 := ho; (try dsimp only [NoK] at he); (try simp only [Value.ownBlock, Option.some.injEq, reduceCtorEq] at ho); (try simp only [Value.ownBlock, Option.some.injEq, reduceCtorEq] at he); first | exact he.elim | exact ho.elim | omega | (have := zo_HO19 _ ho0; omega)) (by intro i _ hi _ he; have he0 := he; have hi := hi; have he := he; (try dsimp only [NoK, AllB] at hi he); (try simp only [Value.ownBlock, Option.some.injEq, reduceCtorEq] at he); all_goals first | exact hi.elim | exact hi.1.elim | exact he.elim | omega | (rcases hi with hi | hi <;> omega) | (rcases he with he | he <;> omega))
    refine l_nil ?_
    refine n_blk ?_
    refine n_then ?_
    refine wp_reg (by decide +kernel) ?_
    refine l_v (v_add rfl rfl (by first | exact wr_i64 (by omega) (by omega) | rfl)) ?_
    refine l_v (v_move (t := .int _ _) rfl) ?_
    refine l_nil ?_
    refine n_then ?_
    refine ⟨(i + 1, .slice a9 n9 c9), _, rfl, by (repeat (first | exact Off.of_over _ _ _ | refine Off.upd ?_ (by decide) _ | refine Off.overs ?_ (by decide) _)), ⟨by first | rfl | exact congrArg (Value.int _) (by omega) | (simp; done), trivial⟩, ⟨E, EL1, ?_⟩, ?_⟩
    · skip
      exact ⟨by omega, HB3, by rw [List.take_add_one, hx]; exact HO19.mono fun b hb h => ⟨h, hb⟩⟩
    · (dsimp only; omega)
  · skip
    obtain ⟨ax, cx, rfl⟩ := HOx.shape
    refine c_exit ?_
    refine x_then ?_
    refine x_then ?_
    refine x_hit ?_
    refine n_then ?_
    refine c_seq ?_
    refine wp_reg (by decide +kernel) ?_
    refine l_v (v_loadA (by kernel_rfl) rfl (by first | exact HB3.pv | exact HB2.pv | exact HB1.pv | assumption) rfl) ?_
    refine l_to (to_storeA (n := 3) rfl rfl (show _ = (Value.agg _) from rfl) (by kernel_rfl) rfl (by first | (simp [slice_one]; done) | (simp only [List.forall_mem_cons, List.cons_append, List.nil_append]; repeat' (first | exact rfl | apply And.intro | (intro u hu; cases hu; done)))) HB2 (by first | exact of_decide_eq_true rfl | (simp; done) | decide) ?_)
    rintro w105 HX105 k105 z105
    have zs_k105 := k105.size
    replace E := E.step k105 (by intro i hi he; (try dsimp only [NoK] at hi he ⊢); first | exact he.elim | omega | exact he)
    replace HS1 := HS1.keep k105 (by intro i _ hi he; (try dsimp only [NoK, AllB] at hi he); first | exact hi.elim | exact he.elim | omega | (rcases hi with hi | hi <;> omega) | (rcases he with he | he <;> omega))
    replace HB1 := HB1.keep k105 (by intro h; (try dsimp only at h); first | omega)
    replace HF5 := HF5.keep k105 (by first | exact fun h => h | (intro h; have he0 := h; have h := h; (try dsimp only at h); (try simp only [Value.ownBlock, Option.some.injEq] at h); (try simp only [add_block] at h); (try simp only [add_block] at he0); first | omega) | (intro i _ hi he; have he0 := he; have hi := hi; have he := he; (try dsimp only [NoK, AllB] at hi he); (try simp only [Value.ownBlock, Option.some.injEq] at he); first | exact hi.elim | exact he.elim | omega | (rcases hi with hi | hi <;> omega) | (rcases he with he | he <;> omega)))
    replace HB3 := HB3.keep k105 (by intro h; (try dsimp only at h); first | omega)
    replace HOx := HOx.keep k105 (by intro i ho he; have he0 := he; have ho0 := ho; (try dsimp only [NoK] at he); (try simp only [Value.ownBlock, Option.some.injEq, reduceCtorEq] at ho); (try simp only [Value.ownBlock, Option.some.injEq, reduceCtorEq] at he); first | exact he.elim | exact ho.elim | omega | (have := zo_HOx _ ho0; omega)) (by intro i _ hi _ he; have he0 := he; have hi := hi; have he := he; (try dsimp only [NoK, AllB] at hi he); (try simp only [Value.ownBlock, Option.some.injEq, reduceCtorEq] at he); all_goals first | exact hi.elim | exact hi.1.elim | exact he.elim | omega | (rcases hi with hi | hi <;> omega) | (rcases he with he | he <;> omega))
    replace HB2 := HX105
    clear HX105
    try simp only [List.set_cons_zero, List.set_cons_succ, setAt, List.take_zero, List.take_succ_cons, List.drop_zero, List.drop_succ_cons, List.nil_append, List.cons_append, List.append_nil, List.length_cons, List.length_nil, Nat.zero_add, Nat.reduceAdd, List.drop_nil] at HB2
    refine l_nil ?_
    refine n_then ?_
    refine c_ret ?_
    refine ret1c (n := 3) rfl (by decide) rfl (by kernel_rfl) HB2.pv rfl ?_
    have h2 := dfalse hlt
    have e1 : a.2.1.take i = a.2.1 := List.take_of_length_le (by omega)
    rw [e1] at HOx ⊢
    exact ⟨AgV.mkAnF' (HOx.view.mono fun b _ h => Or.elim h (fun h => by omega) (fun h => by omega)) (HF5.mono fun b _ h => by omega) he, E⟩
end Go.Proofs.Ytlhanmlpionomaa

namespace Go.Proofs.Ytlhanmlpionomaa
open Go.Vc
set_option linter.unusedVariables false
set_option linter.unusedSimpArgs false
set_option maxRecDepth 100000

set_option maxHeartbeats 8000000 in
theorem CopyAnswer_c {w : World} {F : Nat → Prop} {v : Value} {a : AnV} (HG1 : AgV tAn w F v a) (hp : a.2.1.length ≤ 1000000) (hn : a.2.2.length ≤ 1000000) (hd0 : ∀ p ∈ a.2.1, p.1.length ≤ 1000000 ∧ p.2.length ≤ 1000000) : CallsR Try.prog 37 #[v] w (fun o w' => AgV tAnF w' (fun b => w.heap.size ≤ b) o a ∧ Ext w w') := by
  obtain ⟨a1, c1, a2, c2, rfl, HS1, HS2, he⟩ := HG1.an
  refine enter 39 Try.func37 rfl rfl (by simp) ?_
  refine c_seq ?_
  have E := Keep.refl (K := NoK) w
  replace HS1 := HS1.all
  replace HS2 := HS2.all
  refine wp_reg (by decide +kernel) ?_
  refine l_to (to_box (show _ = (Value.agg _) from rfl) ?_)
  rintro b1 w1 zb1 HB1 e1 z1
  have zs_e1 := e1.size
  replace E := E.trans (Ext.keep e1)
  replace HS1 := HS1.ext e1
  replace HS2 := HS2.ext e1
  try simp only [Value.cells] at HB1
  refine l_to (to_alloc (z := (.agg #[.int .i64 0, .slice none 0 0, .slice none 0 0])) (by unfold kZero; kernel_rfl) ?_)
  rintro b2 w2 zb2 HB2 e2 z2
  have zs_e2 := e2.size
  replace E := E.trans (Ext.keep e2)
  replace HS1 := HS1.ext e2
  replace HS2 := HS2.ext e2
  replace HB1 := HB1.ext e2
  try simp only [Value.cells] at HB2
  refine l_nil ?_
  refine n_then ?_
  refine c_seq ?_
  obtain ⟨n0, hn0⟩ : ∃ n, n = w2.heap.size := ⟨_, rfl⟩
  refine wp_any (by kernel_rfl) ?_
  have e101 : Ext w2 { w2 with drawn := w2.drawn + 1 } := Keep.drawn _ _
  generalize hw101 : ({ w2 with drawn := w2.drawn + 1 } : World) = w101 at e101 ⊢
  clear hw101
  have zs_e101 := e101.size
  replace E := E.trans (Ext.keep e101)
  replace HS1 := HS1.ext e101
  replace HS2 := HS2.ext e101
  replace HB1 := HB1.ext e101
  replace HB2 := HB2.ext e101
  refine r_cut 7 rfl (by decide +kernel) (by decide +kernel) (by decide +kernel) ?_
  refine wp_regdW (NoK) (by decide +kernel) (by decide +kernel) ?_
  refine rt_v (fun vals w hR hd => v_fieldAddr (off := 0) (ft := 29) (by kernel_rfl) rfl) ?_
  refine rt_v (fun vals w hR hd => v_load (by kernel_rfl) (hd 0 rfl) (by first | exact (HB2.ext hR).pv 0 _ rfl | exact (HB1.ext hR).pv 0 _ rfl | assumption)) ?_
  refine rt_v (fun vals w hR hd => v_fieldAddr (off := 2) (ft := 31) (by kernel_rfl) rfl) ?_
  refine rt_v (fun vals w hR hd => v_load (by kernel_rfl) (hd 2 rfl) (by first | exact (HB2.ext hR).pv 2 _ rfl | exact (HB1.ext hR).pv 2 _ rfl | assumption)) ?_
  refine rt_to (fun v W => OwV tU8 5 W n0 NoK v a.2.2) (fun v w w' h k => h.ext k) (fun vals w hR hd => to_appNil (t := tU8) (et := 5) (bytes := 1) (F := NoK) (by kernel_rfl) rfl (hd 3 rfl) (HS2.ext hR) (fun cs z h => h) (by omega) (fun v w1 h e => ⟨e, h.base (by have := hR.size; omega)⟩)) ?_
  refine rt_to (fun v W => ∃ u, v = .agg #[.int .i64 a.1, .slice none 0 0, u] ∧ OwV tU8 5 W n0 NoK u a.2.2) (fun v w w' h k => by obtain ⟨u, h1, h2⟩ := h; exact ⟨u, h1, h2.ext k⟩) (fun vals w hR hd => OpTo.of_v (v_build (pl := [(0, 1), (1, 1), (2, 1)]) (z := .agg #[.int .i64 0, .slice none 0 0, .slice none 0 0]) (zl := [.int .i64 0, .slice none 0 0, .slice none 0 0]) (ps := [(0, .int .i64 a.1), (2, vals 4)]) (by kernel_rfl) (by unfold kZero; kernel_rfl) rfl (parts2 (hd 1 rfl) rfl) (cells := [.int .i64 a.1, .slice none 0 0, vals 4]) (by have h1 := OwV.one (show OwV tU8 5 _ n0 NoK _ a.2.2 from hd 4 rfl); simp [fillL, one_cells h1, setAt, cells_int])) ⟨Keep.refl _, _, rfl, (show OwV tU8 5 _ n0 NoK _ a.2.2 from hd 4 rfl)⟩) ?_
  refine rt_to (fun v W => ∃ b, v = .pointer (some ⟨b, 0, none⟩) ∧ n0 ≤ b ∧ Blk W b [.int .i64 0, .slice none 0 0, .slice none 0 0] 33) (fun v w w' h k => by obtain ⟨b, h1, h2, h3⟩ := h; exact ⟨b, h1, h2, h3.ext k⟩) (fun vals w hR hd => to_alloc (z := .agg #[.int .i64 0, .slice none 0 0, .slice none 0 0]) (by unfold kZero; kernel_rfl) (fun b w1 hb hB e z => ⟨e, b, rfl, by have := hR.size; omega, hB⟩)) ?_
  refine rt_nil (fun w20 e20 => ?_)
  rintro _ rfl _ rfl _ rfl _ rfl v4 hs4 v5 ⟨u5, rfl, HO5⟩ v6 ⟨b3, rfl, hb3, HB3⟩
  have zs_e20 := e20.size
  have zb3' := HB3.lt
  have HF5 := OwV.byN HO5 HB3 (by decide)
  obtain ⟨a5, c5, rfl⟩ := HF5.bv.shape
  replace E := E.trans (Ext.keep e20)
  replace HS1 := HS1.ext e20
  replace HS2 := HS2.ext e20
  replace HB1 := HB1.ext e20
  replace HB2 := HB2.ext e20
  refine fin_nil ?_
  refine n_then ?_
  refine r_one (by decide +kernel) rfl ?_
  obtain ⟨n6, hn6⟩ : ∃ n, n = w20.heap.size := ⟨_, rfl⟩
  replace HF5 := HF5.mono (F' := fun b => n0 ≤ b ∧ b ≠ b3 ∧ b < n6) fun b hb h => ⟨h.1, h.2, by omega⟩
  refine l_to (to_storeA (n := 3) rfl rfl (show _ = (Value.agg _) from rfl) (by kernel_rfl) rfl (by first | (simp [slice_one]; done) | (simp only [List.forall_mem_cons, List.cons_append, List.nil_append]; repeat' (first | exact rfl | apply And.intro | (intro u hu; cases hu; done)))) HB3 (by first | exact of_decide_eq_true rfl | (simp; done) | decide) ?_)
  rintro w31 HB3 k31 z31
  have zs_k31 := k31.size
  try simp only [List.set_cons_zero, List.set_cons_succ, setAt, List.take, List.drop, List.nil_append, List.cons_append, List.append_nil, List.length_cons, List.length_nil] at HB3
  replace E := E.step k31 (by intro i hi he; (try dsimp only [NoK] at hi he ⊢); first | exact he.elim | omega | exact he)
  replace HS1 := HS1.keep k31 (by intro i _ hi he; (try dsimp only [NoK, AllB] at hi he); first | exact hi.elim | exact he.elim | omega | (rcases hi with hi | hi <;> omega) | (rcases he with he | he <;> omega))
  replace HB1 := HB1.keep k31 (by intro h; (try dsimp only at h); first | omega)
  replace HB2 := HB2.keep k31 (by intro h; (try dsimp only at h); first | omega)
  replace HF5 := HF5.keep k31 (by first | exact fun h => h | (intro h; have he0 := h; have h := h; (try dsimp only at h); (try simp only [Value.ownBlock, Option.some.injEq] at h); (try simp only [add_block] at h); (try simp only [add_block] at he0); first | omega) | (intro i _ hi he; have he0 := he; have hi := hi; have he := he; (try dsimp only [NoK, AllB] at hi he); (try simp only [Value.ownBlock, Option.some.injEq] at he); first | exact hi.elim | exact he.elim | omega | (rcases hi with hi | hi <;> omega) | (rcases he with he | he <;> omega)))
  refine l_nil ?_
  refine n_then ?_
  refine c_seq ?_
  refine c_seq ?_
  refine wp_reg (by decide +kernel) ?_
  refine l_v (v_assign rfl) ?_
  refine l_nil ?_
  refine n_then ?_
  refine c_block ?_
  refine c_loop (τ := Nat × Value) [4, 11, 12, 13, 14, 15, 16, 17, 18, 19, 20, 21, 22, 23, 24, 25, 26, 27, 28, 29, 30, 31, 32, 33, 34, 35, 36, 37] (fun (i, x) => [(4, .int .i64 i)]) (fun (i, x) W => Ext w W ∧ Keep (fun b => b = b3 ∨ n6 ≤ b) w31 W ∧ i ≤ a.2.1.length ∧ Blk W b3 [.int .i64 a.1, x, .slice a5 a.2.2.length c5] 33 ∧ OwV tPrF 61 W n6 (fun b => n6 ≤ b ∧ b < W.heap.size) x (a.2.1.take i)) (fun (i, x) => a.2.1.length - i) (0, .slice none 0 0) (by exact ⟨rfl, trivial⟩) (by exact ⟨E, Keep.refl _, Nat.zero_le _, HB3, OwV.nil _ _ _ _ _⟩) ?_
  rintro ⟨i, x⟩ w102 j ⟨E, EL1, h1, HB3, HOx⟩
  have zs_EL1 := EL1.size
  replace HS1 := HS1.keep EL1 (by intro i _ hi he; (try dsimp only [NoK, AllB] at hi he); first | exact hi.elim | exact he.elim | omega | (rcases hi with hi | hi <;> omega) | (rcases he with he | he <;> omega))
  replace HB1 := HB1.keep EL1 (by intro h; (try dsimp only at h); first | omega)
  replace HB2 := HB2.keep EL1 (by intro h; (try dsimp only at h); first | omega)
  replace HF5 := HF5.keep EL1 (by first | exact fun h => h | (intro h; have he0 := h; have h := h; (try dsimp only at h); (try simp only [Value.ownBlock, Option.some.injEq] at h); (try simp only [add_block] at h); (try simp only [add_block] at he0); first | omega) | (intro i _ hi he; have he0 := he; have hi := hi; have he := he; (try dsimp only [NoK, AllB] at hi he); (try simp only [Value.ownBlock, Option.some.injEq] at he); first | exact hi.elim | exact he.elim | omega | (rcases hi with hi | hi <;> omega) | (rcases he with he | he <;> omega)))
  have zo_HOx := fun (b : Nat) h => HOx.own_lt (b := b) h
  refine c_seq ?_
  refine c_seq ?_
  refine wp_reg (by decide +kernel) ?_
  refine l_v (v_move (t := .int _ _) rfl) ?_
  refine l_v (v_fieldAddr (off := 1) (ft := 30) (by kernel_rfl) rfl) ?_
  refine l_v (v_load (by kernel_rfl) rfl (by first | exact HB3.pv 1 _ rfl | exact HB2.pv 1 _ rfl | exact HB1.pv 1 _ rfl | assumption)) ?_
  refine l_v (v_len (et := 61) (by kernel_rfl) rfl) ?_
  refine l_v (v_lss rfl rfl) ?_
  refine l_nil ?_
  refine n_then ?_
  refine c_cond rfl rfl (fun hlt => ?_) (fun hlt => ?_)
  · skip
    have hlt := dtrue hlt
    have htl : (a.2.1.take i).length = i := by rw [List.length_take]; omega
    obtain ⟨p, hx, _⟩ := getE (l := a.2.1) (i := i) (by omega)
    obtain ⟨hl7, hl8⟩ := hd0 p (List.mem_of_getElem? hx)
    obtain ⟨q1, cs1, hq1, hF1, _, HPq, hr1⟩ := HS1.el hx
    cases hq1
    obtain ⟨d1, d2, d3, d4, rfl, HS7, HS8⟩ := tPr_cells hr1
    obtain ⟨ax, cx, rfl⟩ := HOx.shape
    obtain ⟨n7, hn7⟩ : ∃ n, n = w102.heap.size := ⟨_, rfl⟩
    refine c_skip ?_
    refine n_then ?_
    refine c_seq ?_
    refine c_block ?_
    refine wp_any (by kernel_rfl) ?_
    have e103 : Ext w102 { w102 with drawn := w102.drawn + 1 } := Keep.drawn _ _
    generalize hw103 : ({ w102 with drawn := w102.drawn + 1 } : World) = w103 at e103 ⊢
    clear hw103
    have zs_e103 := e103.size
    replace E := E.trans (Ext.keep e103)
    replace HS1 := HS1.ext e103
    replace HB1 := HB1.ext e103
    replace HB2 := HB2.ext e103
    replace HF5 := HF5.ext e103
    replace HB3 := HB3.ext e103
    replace HOx := HOx.ext e103
    replace EL1 := EL1.trans (Ext.keep e103)
    replace HPq := HPq.ext e103
    replace HS7 := HS7.ext e103
    replace HS8 := HS8.ext e103
    refine r_cut 18 rfl (by decide +kernel) (by decide +kernel) (by decide +kernel) ?_
    refine wp_regdW (NoK) (by decide +kernel) (by decide +kernel) ?_
    refine rt_v (fun vals w hR hd => v_fieldAddr (off := 1) (ft := 30) (by kernel_rfl) rfl) ?_
    refine rt_v (fun vals w hR hd => v_load (by kernel_rfl) (hd 0 rfl) (by first | exact (HPq.ext hR) 1 _ rfl | exact (HB3.ext hR).pv 1 _ rfl | exact (HB2.ext hR).pv 1 _ rfl | exact (HB1.ext hR).pv 1 _ rfl | assumption)) ?_
    refine rt_v (fun vals w hR hd => v_fieldAddr (off := 1) (ft := 30) (by kernel_rfl) rfl) ?_
    refine rt_v (fun vals w hR hd => v_load (by kernel_rfl) (hd 2 rfl) (by first | exact (HPq.ext hR) 1 _ rfl | exact (HB3.ext hR).pv 1 _ rfl | exact (HB2.ext hR).pv 1 _ rfl | exact (HB1.ext hR).pv 1 _ rfl | assumption)) ?_
    refine rt_v (fun vals w hR hd => v_move (t := .int _ _) rfl) ?_
    refine rt_v (fun vals w hR hd => v_indexAddr (et := 61) (sz := 2) (k := i) (by kernel_rfl) (by kernel_rfl) (hd 3 rfl) (hd 4 rfl) (by first | rfl | omega) (by omega)) ?_
    refine rt_v (fun vals w hR hd => v_fieldAddr (off := 0) (ft := 31) (by kernel_rfl) (hd 5 rfl)) ?_
    refine rt_v (fun vals w hR hd => v_load (by kernel_rfl) (hd 6 rfl) (by first | exact (HPq.ext hR) 0 _ rfl | exact (HB3.ext hR).pv 0 _ rfl | exact (HB2.ext hR).pv 0 _ rfl | exact (HB1.ext hR).pv 0 _ rfl | assumption)) ?_
    refine rt_to (fun v W => OwV tU8 5 W n7 NoK v p.1) (fun v w w' h k => h.ext k) (fun vals w hR hd => to_appNil (t := tU8) (et := 5) (bytes := 1) (F := NoK) (by kernel_rfl) rfl (hd 7 rfl) (HS7.ext hR) (fun cs z h => h) (by omega) (fun v w1 h e => ⟨e, h.base (by have := hR.size; omega)⟩)) ?_
    refine rt_v (fun vals w hR hd => v_fieldAddr (off := 1) (ft := 30) (by kernel_rfl) rfl) ?_
    refine rt_v (fun vals w hR hd => v_load (by kernel_rfl) (hd 9 rfl) (by first | exact (HPq.ext hR) 1 _ rfl | exact (HB3.ext hR).pv 1 _ rfl | exact (HB2.ext hR).pv 1 _ rfl | exact (HB1.ext hR).pv 1 _ rfl | assumption)) ?_
    refine rt_v (fun vals w hR hd => v_move (t := .int _ _) rfl) ?_
    refine rt_v (fun vals w hR hd => v_indexAddr (et := 61) (sz := 2) (k := i) (by kernel_rfl) (by kernel_rfl) (hd 10 rfl) (hd 11 rfl) (by first | rfl | omega) (by omega)) ?_
    refine rt_v (fun vals w hR hd => v_fieldAddr (off := 1) (ft := 31) (by kernel_rfl) (hd 12 rfl)) ?_
    refine rt_v (fun vals w hR hd => v_load (by kernel_rfl) (hd 13 rfl) (by first | exact (HPq.ext hR) 1 _ rfl | exact (HB3.ext hR).pv 1 _ rfl | exact (HB2.ext hR).pv 1 _ rfl | exact (HB1.ext hR).pv 1 _ rfl | assumption)) ?_
    refine rt_to (fun v W => OwV tU8 5 W n7 NoK v p.2) (fun v w w' h k => h.ext k) (fun vals w hR hd => to_appNil (t := tU8) (et := 5) (bytes := 1) (F := NoK) (by kernel_rfl) rfl (hd 14 rfl) (HS8.ext hR) (fun cs z h => h) (by omega) (fun v w1 h e => ⟨e, h.base (by have := hR.size; omega)⟩)) ?_
    refine rt_to (fun v W => AgV tPrF W (fun b => n7 ≤ b) v p) (fun v w w' h k => h.ext k) (fun vals w hR hd => OpTo.of_v (v_build (pl := [(0, 1), (1, 1)]) (z := .agg #[.slice none 0 0, .slice none 0 0]) (zl := [.slice none 0 0, .slice none 0 0]) (ps := [(0, vals 8), (1, vals 15)]) (by kernel_rfl) (by unfold kZero; kernel_rfl) rfl (parts2 rfl rfl) (cells := [vals 8, vals 15]) (by have h1 := OwV.one (show OwV tU8 5 _ n7 NoK _ p.1 from hd 8 rfl); have h2 := OwV.one (show OwV tU8 5 _ n7 NoK _ p.2 from hd 15 rfl); simp [fillL, one_cells h1, one_cells h2, setAt])) ⟨Keep.refl _, _, rfl, tPrF_mk (BvF.mono (show BvF _ _ _ _ from OwV.byF (show OwV tU8 5 _ n7 NoK _ p.1 from hd 8 rfl)) fun b _ h => h.elim (fun h => h) (fun h => h.elim)) (BvF.mono (show BvF _ _ _ _ from OwV.byF (show OwV tU8 5 _ n7 NoK _ p.2 from hd 15 rfl)) fun b _ h => h.elim (fun h => h) (fun h => h.elim))⟩) ?_
    refine rt_to (fun v W => SlV tPrF W (fun b => n7 ≤ b) v [p]) (fun v w w' h k => h.ext k) (fun vals w hR hd => to_slice1 (t := tPrF) (et := 61) (bytes := 48) (by kernel_rfl) (by decide) (show _ = vals 16 from rfl) (AgV.rp (show AgV tPrF _ (fun b => n7 ≤ b) _ p from hd 16 rfl)) (fun b w1 hb HO e z => ⟨e, HO.view.mono fun b _ hb => by have := hR.size; exact hb.elim (fun h => by omega) (fun h => h.1)⟩)) ?_
    refine rt_nil (fun w40 e40 => ?_)
    rintro _ rfl _ rfl _ rfl _ rfl _ rfl _ rfl _ rfl _ rfl v32 HO32 _ rfl _ rfl _ rfl _ rfl _ rfl _ rfl v33 HO33 v34 hs34 v35 HS35
    have zs_e40 := e40.size
    have HS35 : SlV tPrF _ (fun b => n7 ≤ b) v35 [p] := HS35
    obtain ⟨a34, c34, rfl⟩ := HS35.shape
    replace E := E.trans (Ext.keep e40)
    replace HS1 := HS1.ext e40
    replace HB1 := HB1.ext e40
    replace HB2 := HB2.ext e40
    replace HF5 := HF5.ext e40
    replace HB3 := HB3.ext e40
    replace HOx := HOx.ext e40
    replace EL1 := EL1.trans (Ext.keep e40)
    replace HPq := HPq.ext e40
    replace HS7 := HS7.ext e40
    replace HS8 := HS8.ext e40
    refine fin_nil ?_
    refine n_then ?_
    refine r_cut 1 rfl (by decide +kernel) (by decide +kernel) (by decide +kernel) ?_
    refine r_one (by decide +kernel) rfl ?_
    have htl2 : (a.2.1.take i ++ [p]).length = i + 1 := by rw [List.length_append, htl]; rfl
    have HOy := HOx.mono (F' := fun b => n6 ≤ b) fun b _ h => h.1
    have zo_HOy := fun (b : Nat) h => HOy.own_lt (b := b) h
    have zo_HOy := zo_HOx
    refine l_to (to_append (et := 61) (bytes := 48) (by kernel_rfl) (show _ = (Value.slice _ _ _) from rfl) HOy (show _ = (Value.slice _ _ _) from rfl) HS35 (deepF fun b hb hb2 => ⟨by omega, fun ho => by have := zo_HOx _ ho; omega⟩) (by first | omega | (simp; done) | (simp; omega)) (by simp only [maxLen]; first | omega | (simp; done) | (simp; omega)) (by omega) ?_)
    rintro a9 n9 c9 w9 HO19 hn9 k9 h9 i9
    have zs_k9 := k9.size
    replace E := E.step k9 (by intro i hi he; have he0 := he; (try dsimp only [NoK] at hi he ⊢); (try simp only [Value.ownBlock, Option.some.injEq] at he); first | exact he.elim | omega | exact he | (have := (HOy).own_lt he0; omega) | (have := zo_HOy _ he0; omega) | (have := (HOy).own_lt he0; rcases hi with hi | hi <;> omega))
    replace HS1 := HS1.keep k9 (by intro i _ hi he; have he0 := he; (try dsimp only [NoK, AllB] at hi he); (try simp only [Value.ownBlock, Option.some.injEq] at he); first | exact hi.elim | exact he.elim | omega | (rcases hi with hi | hi <;> omega) | (rcases he with he | he <;> omega) | (have := (HOy).own_lt he0; omega) | (have := zo_HOy _ he0; omega) | (have := (HOy).own_lt he0; rcases hi with hi | hi <;> omega))
    replace HB1 := HB1.keep k9 (by intro h; have he0 := h; (try dsimp only at h); (try simp only [Value.ownBlock, Option.some.injEq] at h); first | omega | (have := (HOy).own_lt he0; omega) | (have := zo_HOy _ he0; omega))
    replace HB2 := HB2.keep k9 (by intro h; have he0 := h; (try dsimp only at h); (try simp only [Value.ownBlock, Option.some.injEq] at h); first | omega | (have := (HOy).own_lt he0; omega) | (have := zo_HOy _ he0; omega))
    replace HF5 := HF5.keep k9 (by first | exact fun h => h | (intro h; have he0 := h; have h := h; (try dsimp only at h); (try simp only [Value.ownBlock, Option.some.injEq] at h); (try simp only [add_block] at h); (try simp only [add_block] at he0); first | omega | (have := (HOy).own_lt he0; omega) | (have := zo_HOy _ he0; omega)) | (intro i _ hi he; have he0 := he; have hi := hi; have he := he; (try dsimp only [NoK, AllB] at hi he); (try simp only [Value.ownBlock, Option.some.injEq] at he); first | exact hi.elim | exact he.elim | omega | (rcases hi with hi | hi <;> omega) | (rcases he with he | he <;> omega) | (have := (HOy).own_lt he0; omega) | (have := zo_HOy _ he0; omega) | (have := (HOy).own_lt he0; rcases hi with hi | hi <;> omega)))
    replace HB3 := HB3.keep k9 (by intro h; have he0 := h; (try dsimp only at h); (try simp only [Value.ownBlock, Option.some.injEq] at h); first | omega | (have := (HOy).own_lt he0; omega) | (have := zo_HOy _ he0; omega))
    replace EL1 := EL1.step k9 (by intro i hi he; have he0 := he; (try dsimp only [NoK] at hi he ⊢); (try simp only [Value.ownBlock, Option.some.injEq] at he); first | exact he.elim | omega | exact he | (have := (HOy).own_lt he0; omega) | (have := zo_HOy _ he0; omega) | (have := (HOy).own_lt he0; rcases hi with hi | hi <;> omega))
    replace HS35 := HS35.keep k9 (by intro i _ hi he; have he0 := he; (try dsimp only [NoK, AllB] at hi he); (try simp only [Value.ownBlock, Option.some.injEq] at he); first | exact hi.elim | exact he.elim | omega | (rcases hi with hi | hi <;> omega) | (rcases he with he | he <;> omega) | (have := (HOy).own_lt he0; omega) | (have := zo_HOy _ he0; omega) | (have := (HOy).own_lt he0; rcases hi with hi | hi <;> omega))
    have zo_HO19 := fun (b : Nat) h => HO19.own_lt (b := b) h
    refine l_nil ?_
    refine n_then ?_
    refine r_cut 1 rfl (by decide +kernel) (by decide +kernel) (by decide +kernel) ?_
    refine r_one (by decide +kernel) rfl ?_
    refine l_v (v_fieldAddr (off := 1) (ft := 30) (by kernel_rfl) rfl) ?_
    refine l_nil ?_
    refine n_then ?_
    refine r_one (by decide +kernel) rfl ?_
    refine l_to (to_store rfl rfl (show _ = (Value.slice _ _ _) from rfl) rfl (by kernel_rfl) HB3 (by simp) ?_)
    rintro w41 HB3 k41 z41
    have zs_k41 := k41.size
    try simp only [List.set_cons_zero, List.set_cons_succ] at HB3
    replace E := E.step k41 (by intro i hi he; (try dsimp only [NoK] at hi he ⊢); first | exact he.elim | omega | exact he)
    replace HS1 := HS1.keep k41 (by intro i _ hi he; (try dsimp only [NoK, AllB] at hi he); first | exact hi.elim | exact he.elim | omega | (rcases hi with hi | hi <;> omega) | (rcases he with he | he <;> omega))
    replace HB1 := HB1.keep k41 (by intro h; (try dsimp only at h); first | omega)
    replace HB2 := HB2.keep k41 (by intro h; (try dsimp only at h); first | omega)
    replace HF5 := HF5.keep k41 (by first | exact fun h => h | (intro h; have he0 := h; have h := h; (try dsimp only at h); (try simp only [Value.ownBlock, Option.some.injEq] at h); (try simp only [add_block] at h); (try simp only [add_block] at he0); first | omega) | (intro i _ hi he; have he0 := he; have hi := hi; have he := he; (try dsimp only [NoK, AllB] at hi he); (try simp only [Value.ownBlock, Option.some.injEq] at he); first | exact hi.elim | exact he.elim | omega | (rcases hi with hi | hi <;> omega) | (rcases he with he | he <;> omega)))
    replace EL1 := EL1.step k41 (by intro i hi he; (try dsimp only [NoK] at hi he ⊢); first | exact he.elim | omega | exact he)
    replace HO19 := HO19.keep k41 (by intro i ho he; have he0 := he; have ho0 := ho; (try dsimp only [NoK] at he); (try simp only [Value.ownBlock, Option.some.injEq, reduceCtorEq] at ho); (try simp only [Value.ownBlock, Option.some.injEq, reduceCtorEq] at he); first | exact he.elim | exact ho.elim | omega | (have := zo_HO19 _ ho0; omega)) (by intro i _ hi _ he; have he0 := he; have hi := hi; have he := he; (try dsimp only [NoK, AllB] at hi he); (try simp only [Value.ownBlock, Option.some.injEq, reduceCtorEq] at he); all_goals first | exact hi.elim | exact hi.1.elim | exact he.elim | omega | (rcases hi with hi | hi <;> omega) | (rcases he with he | he <;> omega))
    refine l_nil ?_
    refine n_blk ?_
    refine n_then ?_
    refine wp_reg (by decide +kernel) ?_
    refine l_v (v_move (t := .int _ _) rfl) ?_
    refine l_v (v_add rfl rfl (by first | exact wr_i64 (by omega) (by omega) | rfl)) ?_
    refine l_v (v_assign (t := .int _ _) rfl) ?_
    refine l_nil ?_
    refine n_then ?_
    refine ⟨(i + 1, .slice a9 n9 c9), _, rfl, by (repeat (first | exact Off.of_over _ _ _ | refine Off.upd ?_ (by decide) _ | refine Off.overs ?_ (by decide) _)), ⟨by first | rfl | exact congrArg (Value.int _) (by omega) | (simp; done), trivial⟩, ⟨E, EL1, ?_⟩, ?_⟩
    · skip
      exact ⟨by omega, HB3, by rw [List.take_add_one, hx]; exact HO19.mono fun b hb h => ⟨h, hb⟩⟩
    · (dsimp only; omega)
  · skip
    obtain ⟨ax, cx, rfl⟩ := HOx.shape
    refine c_exit ?_
    refine x_then ?_
    refine x_then ?_
    refine x_hit ?_
    refine n_then ?_
    refine c_seq ?_
    refine wp_reg (by decide +kernel) ?_
    refine l_v (v_loadA (by kernel_rfl) rfl (by first | exact HB3.pv | exact HB2.pv | exact HB1.pv | assumption) rfl) ?_
    refine l_to (to_storeA (n := 3) rfl rfl (show _ = (Value.agg _) from rfl) (by kernel_rfl) rfl (by first | (simp [slice_one]; done) | (simp only [List.forall_mem_cons, List.cons_append, List.nil_append]; repeat' (first | exact rfl | apply And.intro | (intro u hu; cases hu; done)))) HB2 (by first | exact of_decide_eq_true rfl | (simp; done) | decide) ?_)
    rintro w104 HX104 k104 z104
    have zs_k104 := k104.size
    replace E := E.step k104 (by intro i hi he; (try dsimp only [NoK] at hi he ⊢); first | exact he.elim | omega | exact he)
    replace HS1 := HS1.keep k104 (by intro i _ hi he; (try dsimp only [NoK, AllB] at hi he); first | exact hi.elim | exact he.elim | omega | (rcases hi with hi | hi <;> omega) | (rcases he with he | he <;> omega))
    replace HB1 := HB1.keep k104 (by intro h; (try dsimp only at h); first | omega)
    replace HF5 := HF5.keep k104 (by first | exact fun h => h | (intro h; have he0 := h; have h := h; (try dsimp only at h); (try simp only [Value.ownBlock, Option.some.injEq] at h); (try simp only [add_block] at h); (try simp only [add_block] at he0); first | omega) | (intro i _ hi he; have he0 := he; have hi := hi; have he := he; (try dsimp only [NoK, AllB] at hi he); (try simp only [Value.ownBlock, Option.some.injEq] at he); first | exact hi.elim | exact he.elim | omega | (rcases hi with hi | hi <;> omega) | (rcases he with he | he <;> omega)))
    replace HB3 := HB3.keep k104 (by intro h; (try dsimp only at h); first | omega)
    replace HOx := HOx.keep k104 (by intro i ho he; have he0 := he; have ho0 := ho; (try dsimp only [NoK] at he); (try simp only [Value.ownBlock, Option.some.injEq, reduceCtorEq] at ho); (try simp only [Value.ownBlock, Option.some.injEq, reduceCtorEq] at he); first | exact he.elim | exact ho.elim | omega | (have := zo_HOx _ ho0; omega)) (by intro i _ hi _ he; have he0 := he; have hi := hi; have he := he; (try dsimp only [NoK, AllB] at hi he); (try simp only [Value.ownBlock, Option.some.injEq, reduceCtorEq] at he); all_goals first | exact hi.elim | exact hi.1.elim | exact he.elim | omega | (rcases hi with hi | hi <;> omega) | (rcases he with he | he <;> omega))
    replace HB2 := HX104
    clear HX104
    try simp only [List.set_cons_zero, List.set_cons_succ, setAt, List.take_zero, List.take_succ_cons, List.drop_zero, List.drop_succ_cons, List.nil_append, List.cons_append, List.append_nil, List.length_cons, List.length_nil, Nat.zero_add, Nat.reduceAdd, List.drop_nil] at HB2
    refine l_nil ?_
    refine n_then ?_
    refine c_ret ?_
    refine ret1c (n := 3) rfl (by decide) rfl (by kernel_rfl) HB2.pv rfl ?_
    have h2 := dfalse hlt
    have e1 : a.2.1.take i = a.2.1 := List.take_of_length_le (by omega)
    rw [e1] at HOx ⊢
    exact ⟨AgV.mkAnF' (HOx.view.mono fun b _ h => Or.elim h (fun h => by omega) (fun h => by omega)) (HF5.mono fun b _ h => by omega) he, E⟩
end Go.Proofs.Ytlhanmlpionomaa

namespace Go.Proofs.Ytlhanmlpionomaa
open Go.Vc
set_option linter.unusedVariables false
set_option linter.unusedSimpArgs false
set_option maxRecDepth 100000

theorem csr_sl {u v : Value} {a : Option Addr} {n c : Nat} (h : URel u v) (hu : u = .slice a n c) : v = u := by
  subst hu
  rcases h with h | ⟨p, q, h, _⟩
  · exact h.symm
  · cases h
theorem csr_pr {a1 a2 : Option Addr} {n1 c1 n2 c2 : Nat} {cs : List Value} (h : CsR [.slice a1 n1 c1, .slice a2 n2 c2] cs) : cs = [.slice a1 n1 c1, .slice a2 n2 c2] := by
  match cs, h with
  | [x, y], ⟨h1, h2, _⟩ => rw [csr_sl h1 rfl, csr_sl h2 rfl]
  | [], h => exact h.elim
  | [_], h => exact h.2.elim
  | _ :: _ :: _ :: _, h => exact h.2.2.elim
theorem BvF.poke {w w' : World} {F : Nat → Prop} {a : Option Addr} {n c : Nat} {l : List UInt8} (h : BvF w F (.slice a n c) l) (p : Poke w w') (hl : l.length = n) : ∃ l' : List UInt8, l'.length = n ∧ BvF w' F (.slice a n c) l' := by
  obtain ⟨l', h'⟩ := pk_by _ _ _ _ _ _ h p (CsR.refl _)
  refine ⟨l', ?_, h'⟩
  have h2 : BvF w' F (.slice a n c) l' := h'
  obtain ⟨a', c', hs⟩ := h2.bv.shape
  cases hs; rfl
set_option maxHeartbeats 8000000 in
theorem spoil_c {w : World} {F : Nat → Prop} {v : Value} {a : AnV} (HG1 : AgV tAnF w F v a) (hF : ∀ b, F b → b < w.heap.size) : CallsR Try.prog 17 #[v] w (fun o w' => Keep F w w') := by
  obtain ⟨a1, c1, a2, c2, rfl, HSp, HFn, he0⟩ := HG1.anF
  have hmx := HSp.len_max
  have hmn := HFn.bv.len_max
  refine enter 62 Try.func17 rfl rfl (by simp) ?_
  refine c_seq ?_
  have E := Keep.refl (K := F) w
  refine wp_reg (by decide +kernel) ?_
  refine l_to (to_box (show _ = (Value.agg _) from rfl) ?_)
  rintro b1 w1 zb1 HB1 e1 z1
  have zs_e1 := e1.size
  replace E := E.trans (Ext.keep e1)
  replace HSp := HSp.ext e1
  try simp only [Value.cells] at HB1
  refine l_nil ?_
  refine n_then ?_
  refine c_seq ?_
  refine c_seq ?_
  refine wp_reg (by decide +kernel) ?_
  refine l_v (v_assign rfl) ?_
  refine l_nil ?_
  refine n_then ?_
  refine c_block ?_
  refine c_loop (τ := Nat × List PrV × List UInt8) [2, 3, 4, 6, 7, 8, 9, 10, 11, 12, 13, 14, 15, 16, 17, 18, 19, 20, 21, 22, 23, 24, 25, 26, 27, 28, 29, 30, 31, 32, 33, 34, 35, 36, 37, 38, 39, 40, 41, 42, 43, 44, 45, 46, 47, 48, 49, 50] (fun (i, ps, nx) => [(2, .int .i64 i)]) (fun (i, ps, nx) W => Keep (F) w W ∧ Keep (F) w1 W ∧ i ≤ a.2.1.length ∧ ps.length = a.2.1.length ∧ SlV tPrF W F (.slice a1 a.2.1.length c1) ps ∧ nx.length = a.2.2.length ∧ BvF W F (.slice a2 a.2.2.length c2) nx) (fun (i, ps, nx) => a.2.1.length - i) (0, a.2.1, a.2.2) (by exact ⟨rfl, trivial⟩) (by exact ⟨E, Keep.refl _, Nat.zero_le _, rfl, HSp, rfl, HFn.keep e1 (fun _ _ _ h => h)⟩) ?_
  rintro ⟨i, ps, nx⟩ w101 j ⟨E, EL1, h1, hpl, HSp, hnl, HFn⟩
  have zs_EL1 := EL1.size
  replace HB1 := HB1.keep EL1 (by intro h; have he0 := h; (try dsimp only at h); (try simp only [Value.ownBlock, Option.some.injEq] at h); first | omega | (have he := he0; first | (have := hF _ he; omega) | (have := hF _ hF3; omega) | (subst he; exact hF3)))
  refine c_seq ?_
  refine c_seq ?_
  refine wp_reg (by decide +kernel) ?_
  refine l_v (v_move (t := .int _ _) rfl) ?_
  refine l_v (v_fieldAddr (off := 1) (ft := 30) (by kernel_rfl) rfl) ?_
  refine l_v (v_load (by kernel_rfl) rfl (by first | exact HB1.pv 1 _ rfl | assumption)) ?_
  refine l_v (v_len (et := 61) (by kernel_rfl) rfl) ?_
  refine l_v (v_lss rfl rfl) ?_
  refine l_nil ?_
  refine n_then ?_
  refine c_cond rfl rfl (fun hlt => ?_) (fun hlt => ?_)
  · skip
    have hlt := dtrue hlt
    obtain ⟨r, hx, _⟩ := getE (l := ps) (i := i) (by omega)
    obtain ⟨q1, cs1, hq1, hF1, _, HP1, hr1⟩ := HSp.el hx
    subst hq1
    obtain ⟨ad, cd, ae, ce, rfl, HFd, HFe⟩ := tPrF_cells hr1
    have hmd := HFd.bv.len_max
    refine c_skip ?_
    refine n_then ?_
    refine c_seq ?_
    refine c_block ?_
    refine c_seq ?_
    refine c_seq ?_
    refine wp_reg (by decide +kernel) ?_
    refine l_v (v_assign rfl) ?_
    refine l_nil ?_
    refine n_then ?_
    refine c_block ?_
    refine c_loop (τ := Nat × List UInt8 × List PrV × List UInt8) [3, 13, 14, 15, 16, 17, 18, 19, 20, 21, 22, 23, 24, 25, 26, 27, 28, 29, 30, 31] (fun (k, d, ps2, nx2) => [(3, .int .i64 k)]) (fun (k, d, ps2, nx2) W => Keep (F) w W ∧ Keep (F) w101 W ∧ k ≤ r.1.length ∧ d.length = r.1.length ∧ ps2.length = a.2.1.length ∧ Pv W (q1.add (i * tPrF.sz)) [.slice ad r.1.length cd, .slice ae r.2.length ce] ∧ BvF W F (.slice ad r.1.length cd) d ∧ SlV tPrF W F (.slice (some q1) a.2.1.length c1) ps2 ∧ nx2.length = a.2.2.length ∧ BvF W F (.slice a2 a.2.2.length c2) nx2) (fun (k, d, ps2, nx2) => r.1.length - k) (0, r.1, ps, nx) (by exact ⟨rfl, trivial⟩) (by exact ⟨E, Keep.refl _, Nat.zero_le _, rfl, hpl, HP1, HFd, HSp, hnl, HFn⟩) ?_
    rintro ⟨k, d, ps2, nx2⟩ w102 j ⟨E, EL2, h2, hdl, hpl2, HP2, HFd, HS2, hnl2, HFn2⟩
    have zs_EL2 := EL2.size
    replace HB1 := HB1.keep EL2 (by intro h; have he0 := h; (try dsimp only at h); (try simp only [Value.ownBlock, Option.some.injEq] at h); first | omega | (have he := he0; first | (have := hF _ he; omega) | (have := hF _ hF3; omega) | (subst he; exact hF3)))
    replace EL1 := EL1.step EL2 (by intro i hi he; have he0 := he; (try dsimp only [NoK] at hi he ⊢); (try simp only [Value.ownBlock, Option.some.injEq] at he); first | exact he.elim | omega | exact he | (first | (have := hF _ he; omega) | (have := hF _ hF3; omega) | (subst he; exact hF3)))
    refine c_seq ?_
    refine c_seq ?_
    refine wp_reg (by decide +kernel) ?_
    refine l_v (v_move (t := .int _ _) rfl) ?_
    refine l_v (v_fieldAddr (off := 1) (ft := 30) (by kernel_rfl) rfl) ?_
    refine l_v (v_load (by kernel_rfl) rfl (by first | exact HP2 1 _ rfl | exact HB1.pv 1 _ rfl | assumption)) ?_
    refine l_v (v_move (t := .int _ _) rfl) ?_
    refine l_v (v_indexAddr (et := 61) (sz := 2) (k := i) (by kernel_rfl) (by kernel_rfl) rfl rfl (by first | rfl | omega) (by omega)) ?_
    refine l_v (v_fieldAddr (off := 0) (ft := 31) (by kernel_rfl) rfl) ?_
    refine l_v (v_load (by kernel_rfl) rfl (by first | exact HP2 0 _ rfl | exact HB1.pv 0 _ rfl | assumption)) ?_
    refine l_v (v_len (et := 5) (by kernel_rfl) rfl) ?_
    refine l_v (v_lss rfl rfl) ?_
    refine l_nil ?_
    refine n_then ?_
    refine c_cond rfl rfl (fun hlt3 => ?_) (fun hlt3 => ?_)
    · skip
      have hlt3 := dtrue hlt3
      obtain ⟨r3, hx3, _⟩ := getE (l := d) (i := k) (by omega)
      obtain ⟨q3, cs3, hq3, hF3, _, _, _⟩ := HFd.bv.el hx3
      subst hq3
      refine c_skip ?_
      refine n_then ?_
      refine c_seq ?_
      refine c_block ?_
      refine wp_reg (by decide +kernel) ?_
      refine l_v (v_fieldAddr (off := 1) (ft := 30) (by kernel_rfl) rfl) ?_
      refine l_v (v_load (by kernel_rfl) rfl (by first | exact HP2 1 _ rfl | exact HB1.pv 1 _ rfl | assumption)) ?_
      refine l_v (v_move (t := .int _ _) rfl) ?_
      refine l_v (v_indexAddr (et := 61) (sz := 2) (k := i) (by kernel_rfl) (by kernel_rfl) rfl rfl (by first | rfl | omega) (by omega)) ?_
      refine l_v (v_fieldAddr (off := 0) (ft := 31) (by kernel_rfl) rfl) ?_
      refine l_v (v_load (by kernel_rfl) rfl (by first | exact HP2 0 _ rfl | exact HB1.pv 0 _ rfl | assumption)) ?_
      refine l_v (v_move (t := .int _ _) rfl) ?_
      refine l_v (v_indexAddr (et := 5) (sz := 1) (k := k) (by kernel_rfl) (by kernel_rfl) rfl rfl (by first | rfl | omega) (by omega)) ?_
      refine l_to (to_poke (k := k) (z := 102) rfl rfl (show _ = (Value.int _ _) from rfl) (by kernel_rfl) HFd (by omega) ?_)
      rintro w30 p30 k30 z30
      have zs_k30 := k30.size
      obtain ⟨d2, hd2, HF30⟩ := BvF.poke HFd p30 hdl
      obtain ⟨nx3, hn3, HF31⟩ := BvF.poke HFn2 p30 hnl2
      obtain ⟨ps3, hl3, HS30⟩ := Pk.sl pk_prF HS2 p30
      obtain ⟨cs30, HP30, hc30⟩ := Pv.poke HP2 p30
      rw [csr_pr hc30] at HP30
      replace E := E.step k30 (by intro i hi he; have he0 := he; (try dsimp only [NoK] at hi he ⊢); (try simp only [Value.ownBlock, Option.some.injEq] at he); first | exact he.elim | omega | exact he | (first | (have := hF _ he; omega) | (have := hF _ hF3; omega) | (subst he; exact hF3)))
      replace HB1 := HB1.keep k30 (by intro h; have he0 := h; (try dsimp only at h); (try simp only [Value.ownBlock, Option.some.injEq] at h); first | omega | (have he := he0; first | (have := hF _ he; omega) | (have := hF _ hF3; omega) | (subst he; exact hF3)))
      replace EL1 := EL1.step k30 (by intro i hi he; have he0 := he; (try dsimp only [NoK] at hi he ⊢); (try simp only [Value.ownBlock, Option.some.injEq] at he); first | exact he.elim | omega | exact he | (first | (have := hF _ he; omega) | (have := hF _ hF3; omega) | (subst he; exact hF3)))
      replace EL2 := EL2.step k30 (by intro i hi he; have he0 := he; (try dsimp only [NoK] at hi he ⊢); (try simp only [Value.ownBlock, Option.some.injEq] at he); first | exact he.elim | omega | exact he | (first | (have := hF _ he; omega) | (have := hF _ hF3; omega) | (subst he; exact hF3)))
      refine l_nil ?_
      refine n_blk ?_
      refine n_then ?_
      refine wp_reg (by decide +kernel) ?_
      refine l_v (v_move (t := .int _ _) rfl) ?_
      refine l_v (v_add rfl rfl (by first | exact wr_i64 (by omega) (by omega) | rfl)) ?_
      refine l_v (v_assign (t := .int _ _) rfl) ?_
      refine l_nil ?_
      refine n_then ?_
      refine ⟨(k + 1, d2, ps3, nx3), _, rfl, by (repeat (first | exact Off.of_over _ _ _ | refine Off.upd ?_ (by decide) _ | refine Off.overs ?_ (by decide) _)), ⟨by first | rfl | exact congrArg (Value.int _) (by omega) | (simp; done), trivial⟩, ⟨E, EL2, ?_⟩, ?_⟩
      · skip
        exact ⟨by omega, hd2, by omega, HP30, HF30, HS30, hn3, HF31⟩
      · (dsimp only; omega)
    · skip
      obtain ⟨r2, hx2, _⟩ := getE (l := ps2) (i := i) (by omega)
      obtain ⟨q2, cs2, hq2, hF2, _, HP3, hr2⟩ := HS2.el hx2
      cases hq2
      obtain ⟨ad2, cd2, ae2, ce2, rfl, HFd2, HFe2⟩ := tPrF_cells hr2
      have hme := HFe2.bv.len_max
      refine c_exit ?_
      refine x_then ?_
      refine x_then ?_
      refine x_hit ?_
      refine n_then ?_
      refine c_seq ?_
      refine wp_reg (by decide +kernel) ?_
      refine l_v (v_assign rfl) ?_
      refine l_nil ?_
      refine n_then ?_
      refine c_block ?_
      refine c_loop (τ := Nat × List UInt8 × List PrV × List UInt8) [4, 32, 33, 34, 35, 36, 37, 38, 39, 40, 41, 42, 43, 44, 45, 46, 47, 48, 49, 50] (fun (k, d, ps4, nx4) => [(4, .int .i64 k)]) (fun (k, d, ps4, nx4) W => Keep (F) w W ∧ Keep (F) w102 W ∧ k ≤ r2.2.length ∧ d.length = r2.2.length ∧ ps4.length = a.2.1.length ∧ Pv W (q1.add (i * tPrF.sz)) [.slice ad2 r2.1.length cd2, .slice ae2 r2.2.length ce2] ∧ BvF W F (.slice ae2 r2.2.length ce2) d ∧ SlV tPrF W F (.slice (some q1) a.2.1.length c1) ps4 ∧ nx4.length = a.2.2.length ∧ BvF W F (.slice a2 a.2.2.length c2) nx4) (fun (k, d, ps4, nx4) => r2.2.length - k) (0, r2.2, ps2, nx2) (by exact ⟨rfl, trivial⟩) (by exact ⟨E, Keep.refl _, Nat.zero_le _, rfl, hpl2, HP3, HFe2, HS2, hnl2, HFn2⟩) ?_
      rintro ⟨k, d, ps4, nx4⟩ w103 j ⟨E, EL3, h4, hdl, hpl4, HP2, HFd, HS4, hnl4, HFn4⟩
      have zs_EL3 := EL3.size
      replace HB1 := HB1.keep EL3 (by intro h; have he0 := h; (try dsimp only at h); (try simp only [Value.ownBlock, Option.some.injEq] at h); first | omega | (have he := he0; first | (have := hF _ he; omega) | (have := hF _ hF3; omega) | (subst he; exact hF3)))
      replace EL1 := EL1.step EL3 (by intro i hi he; have he0 := he; (try dsimp only [NoK] at hi he ⊢); (try simp only [Value.ownBlock, Option.some.injEq] at he); first | exact he.elim | omega | exact he | (first | (have := hF _ he; omega) | (have := hF _ hF3; omega) | (subst he; exact hF3)))
      refine c_seq ?_
      refine c_seq ?_
      refine wp_reg (by decide +kernel) ?_
      refine l_v (v_move (t := .int _ _) rfl) ?_
      refine l_v (v_fieldAddr (off := 1) (ft := 30) (by kernel_rfl) rfl) ?_
      refine l_v (v_load (by kernel_rfl) rfl (by first | exact HP2 1 _ rfl | exact HB1.pv 1 _ rfl | assumption)) ?_
      refine l_v (v_move (t := .int _ _) rfl) ?_
      refine l_v (v_indexAddr (et := 61) (sz := 2) (k := i) (by kernel_rfl) (by kernel_rfl) rfl rfl (by first | rfl | omega) (by omega)) ?_
      refine l_v (v_fieldAddr (off := 1) (ft := 31) (by kernel_rfl) rfl) ?_
      refine l_v (v_load (by kernel_rfl) rfl (by first | exact HP2 1 _ rfl | exact HB1.pv 1 _ rfl | assumption)) ?_
      refine l_v (v_len (et := 5) (by kernel_rfl) rfl) ?_
      refine l_v (v_lss rfl rfl) ?_
      refine l_nil ?_
      refine n_then ?_
      refine c_cond rfl rfl (fun hlt3 => ?_) (fun hlt3 => ?_)
      · skip
        have hlt3 := dtrue hlt3
        obtain ⟨r3, hx3, _⟩ := getE (l := d) (i := k) (by omega)
        obtain ⟨q3, cs3, hq3, hF3, _, _, _⟩ := HFd.bv.el hx3
        subst hq3
        refine c_skip ?_
        refine n_then ?_
        refine c_seq ?_
        refine c_block ?_
        refine wp_reg (by decide +kernel) ?_
        refine l_v (v_fieldAddr (off := 1) (ft := 30) (by kernel_rfl) rfl) ?_
        refine l_v (v_load (by kernel_rfl) rfl (by first | exact HP2 1 _ rfl | exact HB1.pv 1 _ rfl | assumption)) ?_
        refine l_v (v_move (t := .int _ _) rfl) ?_
        refine l_v (v_indexAddr (et := 61) (sz := 2) (k := i) (by kernel_rfl) (by kernel_rfl) rfl rfl (by first | rfl | omega) (by omega)) ?_
        refine l_v (v_fieldAddr (off := 1) (ft := 31) (by kernel_rfl) rfl) ?_
        refine l_v (v_load (by kernel_rfl) rfl (by first | exact HP2 1 _ rfl | exact HB1.pv 1 _ rfl | assumption)) ?_
        refine l_v (v_move (t := .int _ _) rfl) ?_
        refine l_v (v_indexAddr (et := 5) (sz := 1) (k := k) (by kernel_rfl) (by kernel_rfl) rfl rfl (by first | rfl | omega) (by omega)) ?_
        refine l_to (to_poke (k := k) (z := 102) rfl rfl (show _ = (Value.int _ _) from rfl) (by kernel_rfl) HFd (by omega) ?_)
        rintro w30 p30 k30 z30
        have zs_k30 := k30.size
        obtain ⟨d2, hd2, HF30⟩ := BvF.poke HFd p30 hdl
        obtain ⟨nx3, hn3, HF31⟩ := BvF.poke HFn4 p30 hnl4
        obtain ⟨ps3, hl3, HS30⟩ := Pk.sl pk_prF HS4 p30
        obtain ⟨cs30, HP30, hc30⟩ := Pv.poke HP2 p30
        rw [csr_pr hc30] at HP30
        replace E := E.step k30 (by intro i hi he; have he0 := he; (try dsimp only [NoK] at hi he ⊢); (try simp only [Value.ownBlock, Option.some.injEq] at he); first | exact he.elim | omega | exact he | (first | (have := hF _ he; omega) | (have := hF _ hF3; omega) | (subst he; exact hF3)))
        replace HB1 := HB1.keep k30 (by intro h; have he0 := h; (try dsimp only at h); (try simp only [Value.ownBlock, Option.some.injEq] at h); first | omega | (have he := he0; first | (have := hF _ he; omega) | (have := hF _ hF3; omega) | (subst he; exact hF3)))
        replace EL1 := EL1.step k30 (by intro i hi he; have he0 := he; (try dsimp only [NoK] at hi he ⊢); (try simp only [Value.ownBlock, Option.some.injEq] at he); first | exact he.elim | omega | exact he | (first | (have := hF _ he; omega) | (have := hF _ hF3; omega) | (subst he; exact hF3)))
        replace EL3 := EL3.step k30 (by intro i hi he; have he0 := he; (try dsimp only [NoK] at hi he ⊢); (try simp only [Value.ownBlock, Option.some.injEq] at he); first | exact he.elim | omega | exact he | (first | (have := hF _ he; omega) | (have := hF _ hF3; omega) | (subst he; exact hF3)))
        refine l_nil ?_
        refine n_blk ?_
        refine n_then ?_
        refine wp_reg (by decide +kernel) ?_
        refine l_v (v_move (t := .int _ _) rfl) ?_
        refine l_v (v_add rfl rfl (by first | exact wr_i64 (by omega) (by omega) | rfl)) ?_
        refine l_v (v_assign (t := .int _ _) rfl) ?_
        refine l_nil ?_
        refine n_then ?_
        refine ⟨(k + 1, d2, ps3, nx3), _, rfl, by (repeat (first | exact Off.of_over _ _ _ | refine Off.upd ?_ (by decide) _ | refine Off.overs ?_ (by decide) _)), ⟨by first | rfl | exact congrArg (Value.int _) (by omega) | (simp; done), trivial⟩, ⟨E, EL3, ?_⟩, ?_⟩
        · skip
          exact ⟨by omega, hd2, by omega, HP30, HF30, HS30, hn3, HF31⟩
        · (dsimp only; omega)
      · skip
        refine c_exit ?_
        refine x_then ?_
        refine x_then ?_
        refine x_hit ?_
        refine n_blk ?_
        refine n_then ?_
        refine wp_reg (by decide +kernel) ?_
        refine l_v (v_move (t := .int _ _) rfl) ?_
        refine l_v (v_add rfl rfl (by first | exact wr_i64 (by omega) (by omega) | rfl)) ?_
        refine l_v (v_assign (t := .int _ _) rfl) ?_
        refine l_nil ?_
        refine n_then ?_
        refine ⟨(i + 1, ps4, nx4), _, rfl, by (repeat (first | exact Off.of_over _ _ _ | refine Off.upd ?_ (by decide) _ | refine Off.overs ?_ (by decide) _)), ⟨by first | rfl | exact congrArg (Value.int _) (by omega) | (simp; done), trivial⟩, ⟨E, EL1, ?_⟩, ?_⟩
        · skip
          exact ⟨by omega, hpl4, HS4, hnl4, HFn4⟩
        · (dsimp only; omega)
  · skip
    refine c_exit ?_
    refine x_then ?_
    refine x_then ?_
    refine x_hit ?_
    refine n_then ?_
    refine c_seq ?_
    refine wp_reg (by decide +kernel) ?_
    refine l_v (v_assign rfl) ?_
    refine l_nil ?_
    refine n_then ?_
    refine c_block ?_
    refine c_loop (τ := Nat × List UInt8) [5, 51, 52, 53, 54, 55, 56, 57, 58, 59, 60, 61] (fun (i, nx) => [(5, .int .i64 i)]) (fun (i, nx) W => Keep (F) w W ∧ Keep (F) w101 W ∧ i ≤ a.2.2.length ∧ nx.length = a.2.2.length ∧ BvF W F (.slice a2 a.2.2.length c2) nx) (fun (i, nx) => a.2.2.length - i) (0, nx) (by exact ⟨rfl, trivial⟩) (by exact ⟨E, Keep.refl _, Nat.zero_le _, hnl, HFn⟩) ?_
    rintro ⟨i, nx⟩ w104 j ⟨E, EL4, h5, hnl, HFn⟩
    have zs_EL4 := EL4.size
    replace HB1 := HB1.keep EL4 (by intro h; have he0 := h; (try dsimp only at h); (try simp only [Value.ownBlock, Option.some.injEq] at h); first | omega | (have he := he0; first | (have := hF _ he; omega) | (have := hF _ hF3; omega) | (subst he; exact hF3)))
    refine c_seq ?_
    refine c_seq ?_
    refine wp_reg (by decide +kernel) ?_
    refine l_v (v_move (t := .int _ _) rfl) ?_
    refine l_v (v_fieldAddr (off := 2) (ft := 31) (by kernel_rfl) rfl) ?_
    refine l_v (v_load (by kernel_rfl) rfl (by first | exact HB1.pv 2 _ rfl | assumption)) ?_
    refine l_v (v_len (et := 5) (by kernel_rfl) rfl) ?_
    refine l_v (v_lss rfl rfl) ?_
    refine l_nil ?_
    refine n_then ?_
    refine c_cond rfl rfl (fun hlt5 => ?_) (fun hlt5 => ?_)
    · skip
      have hlt5 := dtrue hlt5
      obtain ⟨r3, hx3, _⟩ := getE (l := nx) (i := i) (by omega)
      obtain ⟨q3, cs3, hq3, hF3, _, _, _⟩ := HFn.bv.el hx3
      subst hq3
      refine c_skip ?_
      refine n_then ?_
      refine c_seq ?_
      refine c_block ?_
      refine wp_reg (by decide +kernel) ?_
      refine l_v (v_fieldAddr (off := 2) (ft := 31) (by kernel_rfl) rfl) ?_
      refine l_v (v_load (by kernel_rfl) rfl (by first | exact HB1.pv 2 _ rfl | assumption)) ?_
      refine l_v (v_move (t := .int _ _) rfl) ?_
      refine l_v (v_indexAddr (et := 5) (sz := 1) (k := i) (by kernel_rfl) (by kernel_rfl) rfl rfl (by first | rfl | omega) (by omega)) ?_
      refine l_to (to_poke (k := i) (z := 102) rfl rfl (show _ = (Value.int _ _) from rfl) (by kernel_rfl) HFn (by omega) ?_)
      rintro w30 p30 k30 z30
      have zs_k30 := k30.size
      obtain ⟨d2, hd2, HF30⟩ := BvF.poke HFn p30 hnl
      replace E := E.step k30 (by intro i hi he; have he0 := he; (try dsimp only [NoK] at hi he ⊢); (try simp only [Value.ownBlock, Option.some.injEq] at he); first | exact he.elim | omega | exact he | (first | (have := hF _ he; omega) | (have := hF _ hF3; omega) | (subst he; exact hF3)))
      replace HB1 := HB1.keep k30 (by intro h; have he0 := h; (try dsimp only at h); (try simp only [Value.ownBlock, Option.some.injEq] at h); first | omega | (have he := he0; first | (have := hF _ he; omega) | (have := hF _ hF3; omega) | (subst he; exact hF3)))
      replace EL4 := EL4.step k30 (by intro i hi he; have he0 := he; (try dsimp only [NoK] at hi he ⊢); (try simp only [Value.ownBlock, Option.some.injEq] at he); first | exact he.elim | omega | exact he | (first | (have := hF _ he; omega) | (have := hF _ hF3; omega) | (subst he; exact hF3)))
      refine l_nil ?_
      refine n_blk ?_
      refine n_then ?_
      refine wp_reg (by decide +kernel) ?_
      refine l_v (v_move (t := .int _ _) rfl) ?_
      refine l_v (v_add rfl rfl (by first | exact wr_i64 (by omega) (by omega) | rfl)) ?_
      refine l_v (v_assign (t := .int _ _) rfl) ?_
      refine l_nil ?_
      refine n_then ?_
      refine ⟨(i + 1, d2), _, rfl, by (repeat (first | exact Off.of_over _ _ _ | refine Off.upd ?_ (by decide) _ | refine Off.overs ?_ (by decide) _)), ⟨by first | rfl | exact congrArg (Value.int _) (by omega) | (simp; done), trivial⟩, ⟨E, EL4, ?_⟩, ?_⟩
      · skip
        exact ⟨by omega, hd2, HF30⟩
      · (dsimp only; omega)
    · skip
      refine c_exit ?_
      refine x_then ?_
      refine x_then ?_
      refine x_hit ?_
      refine end0 rfl ?_
      exact E
end Go.Proofs.Ytlhanmlpionomaa
