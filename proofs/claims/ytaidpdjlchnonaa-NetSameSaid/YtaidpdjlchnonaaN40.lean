/- A part of the proof: steps and lemmas for the walks through the given program. -/
import Derived.Test.YtaidpdjlchnonaaN38
import Derived.Test.YtaidpdjlchnonaaN19
import Derived.Test.YtaidpdjlchnonaaNFr
namespace Go.Proofs.Ytaidpdjlchnonaa
open Go.Vc
set_option linter.unusedVariables false
set_option linter.unusedSimpArgs false
set_option maxRecDepth 100000

set_option maxHeartbeats 4000000 in
theorem CopyS_c {w : World} {F : Nat → Prop} {v : Value} {m : Ms} (HG1 : AgV tMs w F v m) (hs : m.snap.length ≤ 2000000) (he : m.ents.length ≤ 2000000) (hd0 : ∀ e ∈ m.ents, e.2.length ≤ 2000000) : CallsR Try.prog 13 #[v] w (fun o w' => AgV (tMsG tEn) w' (fun b => w.heap.size ≤ b) o m ∧ Ext w w') := by
  obtain ⟨a1, c1, a2, c2, rfl, HSe, HSs, hw⟩ := HG1.ms
  refine enter 38 Try.func13 rfl rfl (by simp) ?_
  refine c_seq ?_
  have E := Keep.refl (K := NoK) w
  replace HSe := HSe.all
  replace HSs := HSs.all
  refine wp_reg (by decide +kernel) ?_
  refine l_to (to_box (show _ = (Value.agg _) from rfl) ?_)
  rintro b1 w1 zb1 HB1 e1 z1
  have zs_e1 := e1.size
  replace E := E.trans (Ext.keep e1)
  replace HSe := HSe.ext e1
  replace HSs := HSs.ext e1
  try simp only [Value.cells] at HB1
  refine l_to (to_alloc (z := (.agg #[.int .i64 0, .int .i64 0, .int .i64 0, .int .i64 0, .int .i64 0, .int .i64 0, .int .i64 0, .int .i64 0, .slice none 0 0, .bool false, .slice none 0 0])) (by unfold kZero; kernel_rfl) ?_)
  rintro b2 w2 zb2 HB2 e2 z2
  have zs_e2 := e2.size
  replace E := E.trans (Ext.keep e2)
  replace HSe := HSe.ext e2
  replace HSs := HSs.ext e2
  replace HB1 := HB1.ext e2
  try simp only [Value.cells] at HB2
  refine l_nil ?_
  refine n_then ?_
  refine c_seq ?_
  refine wp_reg (by decide +kernel) ?_
  refine l_v (v_loadA (by kernel_rfl) rfl (by first | exact HB2.pv | exact HB1.pv | assumption) rfl) ?_
  refine l_to (to_alloc (z := (.agg #[.int .i64 0, .int .i64 0, .int .i64 0, .int .i64 0, .int .i64 0, .int .i64 0, .int .i64 0, .int .i64 0, .slice none 0 0, .bool false, .slice none 0 0])) (by unfold kZero; kernel_rfl) ?_)
  rintro b3 w3 zb3 HB3 e3 z3
  have zs_e3 := e3.size
  replace E := E.trans (Ext.keep e3)
  replace HSe := HSe.ext e3
  replace HSs := HSs.ext e3
  replace HB1 := HB1.ext e3
  replace HB2 := HB2.ext e3
  try simp only [Value.cells] at HB3
  refine l_to (to_storeA (n := 11) rfl rfl (show _ = (Value.agg _) from rfl) (by kernel_rfl) rfl (by first | (simp [slice_one]; done) | (simp only [List.forall_mem_cons, List.cons_append, List.nil_append]; repeat' (first | exact rfl | apply And.intro | (intro u hu; cases hu; done)))) HB3 (by first | exact of_decide_eq_true rfl | (simp; done) | decide) ?_)
  rintro w101 HX101 k101 z101
  have zs_k101 := k101.size
  replace E := E.step k101 (by intro i hi he; (try dsimp only [NoK] at hi he ⊢); first | exact he.elim | omega | exact he)
  replace HSe := HSe.keep k101 (by intro i _ hi he; (try dsimp only [NoK, AllB] at hi he); first | exact hi.elim | exact he.elim | omega | (rcases hi with hi | hi <;> omega) | (rcases he with he | he <;> omega))
  replace HSs := HSs.keep k101 (by intro i _ hi he; (try dsimp only [NoK, AllB] at hi he); first | exact hi.elim | exact he.elim | omega | (rcases hi with hi | hi <;> omega) | (rcases he with he | he <;> omega))
  replace HB1 := HB1.keep k101 (by intro h; (try dsimp only at h); first | omega)
  replace HB2 := HB2.keep k101 (by intro h; (try dsimp only at h); first | omega)
  replace HB3 := HX101
  clear HX101
  try simp only [List.set_cons_zero, List.set_cons_succ, setAt, List.take_zero, List.take_succ_cons, List.drop_zero, List.drop_succ_cons, List.nil_append, List.cons_append, List.append_nil, List.length_cons, List.length_nil, Nat.zero_add, Nat.reduceAdd, List.drop_nil] at HB3
  refine l_nil ?_
  refine n_then ?_
  refine c_seq ?_
  refine wp_reg (by decide +kernel) ?_
  refine l_v (v_fieldAddr (off := 10) (ft := 24) (by kernel_rfl) rfl) ?_
  refine l_v (v_load (by kernel_rfl) rfl (by first | exact HB3.pv 10 _ rfl | exact HB2.pv 10 _ rfl | exact HB1.pv 10 _ rfl | assumption)) ?_
  refine l_to (to_appNil (et := 5) (bytes := 1) (F := NoK) (by kernel_rfl) rfl (show _ = (Value.slice _ _ _) from rfl) HSs (fun cs z h => h) (by omega) ?_)
  rintro v5 w5 HO5 e5
  have zs_e5 := e5.size
  obtain ⟨a5, c5, rfl⟩ := HO5.shape
  obtain ⟨n6, hn6⟩ : ∃ n, n = w5.heap.size := ⟨_, rfl⟩
  replace E := E.trans (Ext.keep e5)
  replace HSe := HSe.ext e5
  replace HSs := HSs.ext e5
  replace HB1 := HB1.ext e5
  replace HB2 := HB2.ext e5
  replace HB3 := HB3.ext e5
  have zo_HO5 := fun (b : Nat) h => HO5.own_lt (b := b) h
  refine l_v (v_fieldAddr (off := 10) (ft := 24) (by kernel_rfl) rfl) ?_
  refine l_to (to_store rfl rfl (show _ = (Value.slice _ _ _) from rfl) rfl (by kernel_rfl) HB3 (by first | exact of_decide_eq_true rfl | (simp; done) | decide) ?_)
  rintro w102 HX102 k102 z102
  have zs_k102 := k102.size
  replace E := E.step k102 (by intro i hi he; (try dsimp only [NoK] at hi he ⊢); first | exact he.elim | omega | exact he)
  replace HSe := HSe.keep k102 (by intro i _ hi he; (try dsimp only [NoK, AllB] at hi he); first | exact hi.elim | exact he.elim | omega | (rcases hi with hi | hi <;> omega) | (rcases he with he | he <;> omega))
  replace HB1 := HB1.keep k102 (by intro h; (try dsimp only at h); first | omega)
  replace HB2 := HB2.keep k102 (by intro h; (try dsimp only at h); first | omega)
  replace HO5 := HO5.keep k102 (by intro i ho he; have he0 := he; have ho0 := ho; (try dsimp only [NoK] at he); (try simp only [Value.ownBlock, Option.some.injEq, reduceCtorEq] at ho); (try simp only [Value.ownBlock, Option.some.injEq, reduceCtorEq] at he); first | exact he.elim | exact ho.elim | omega | (have := zo_HO5 _ ho0; omega)) (by intro i _ hi _ he; have he0 := he; have hi := hi; have he := he; (try dsimp only [NoK, AllB] at hi he); (try simp only [Value.ownBlock, Option.some.injEq, reduceCtorEq] at he); all_goals first | exact hi.elim | exact hi.1.elim | exact he.elim | omega | (rcases hi with hi | hi <;> omega) | (rcases he with he | he <;> omega))
  replace HB3 := HX102
  clear HX102
  try simp only [List.set_cons_zero, List.set_cons_succ, setAt, List.take_zero, List.take_succ_cons, List.drop_zero, List.drop_succ_cons, List.nil_append, List.cons_append, List.append_nil, List.length_cons, List.length_nil, Nat.zero_add, Nat.reduceAdd, List.drop_nil] at HB3
  refine l_nil ?_
  refine n_then ?_
  refine c_seq ?_
  refine wp_reg (by decide +kernel) ?_
  refine l_v (v_fieldAddr (off := 8) (ft := 23) (by kernel_rfl) rfl) ?_
  refine l_to (to_store rfl rfl (show _ = (Value.slice _ _ _) from rfl) rfl (by kernel_rfl) HB3 (by first | exact of_decide_eq_true rfl | (simp; done) | decide) ?_)
  rintro w103 HX103 k103 z103
  have zs_k103 := k103.size
  replace E := E.step k103 (by intro i hi he; (try dsimp only [NoK] at hi he ⊢); first | exact he.elim | omega | exact he)
  replace HSe := HSe.keep k103 (by intro i _ hi he; (try dsimp only [NoK, AllB] at hi he); first | exact hi.elim | exact he.elim | omega | (rcases hi with hi | hi <;> omega) | (rcases he with he | he <;> omega))
  replace HB1 := HB1.keep k103 (by intro h; (try dsimp only at h); first | omega)
  replace HB2 := HB2.keep k103 (by intro h; (try dsimp only at h); first | omega)
  replace HO5 := HO5.keep k103 (by intro i ho he; have he0 := he; have ho0 := ho; (try dsimp only [NoK] at he); (try simp only [Value.ownBlock, Option.some.injEq, reduceCtorEq] at ho); (try simp only [Value.ownBlock, Option.some.injEq, reduceCtorEq] at he); first | exact he.elim | exact ho.elim | omega | (have := zo_HO5 _ ho0; omega)) (by intro i _ hi _ he; have he0 := he; have hi := hi; have he := he; (try dsimp only [NoK, AllB] at hi he); (try simp only [Value.ownBlock, Option.some.injEq, reduceCtorEq] at he); all_goals first | exact hi.elim | exact hi.1.elim | exact he.elim | omega | (rcases hi with hi | hi <;> omega) | (rcases he with he | he <;> omega))
  replace HB3 := HX103
  clear HX103
  try simp only [List.set_cons_zero, List.set_cons_succ, setAt, List.take_zero, List.take_succ_cons, List.drop_zero, List.drop_succ_cons, List.nil_append, List.cons_append, List.append_nil, List.length_cons, List.length_nil, Nat.zero_add, Nat.reduceAdd, List.drop_nil] at HB3
  refine l_nil ?_
  refine n_then ?_
  refine c_seq ?_
  refine c_seq ?_
  refine wp_reg (by decide +kernel) ?_
  refine l_v (v_assign rfl) ?_
  refine l_nil ?_
  refine n_then ?_
  refine c_block ?_
  refine c_loop (τ := Nat × Value) [4, 11, 12, 13, 14, 15, 16, 17, 18, 19, 20, 21, 22, 23, 24, 25, 26, 27, 28, 29, 30, 31, 32, 33, 34, 35, 36] (fun (i, x) => [(4, .int .i64 i)]) (fun (i, x) W => Ext w W ∧ Keep (fun b => b = b3 ∨ n6 ≤ b) w103 W ∧ i ≤ m.ents.length ∧ Blk W b3 [.int .i64 m.kind, .int .i64 m.fr, .int .i64 m.to, .int .i64 m.grp, .int .i64 m.term, .int .i64 m.idx, .int .i64 m.lt, .int .i64 m.com, x, .bool m.ok, .slice a5 m.snap.length c5] 26 ∧ OwV tEn 73 W n6 (fun b => n6 ≤ b ∧ b < W.heap.size) x (m.ents.take i)) (fun (i, x) => m.ents.length - i) (0, .slice none 0 0) (by exact ⟨rfl, trivial⟩) (by exact ⟨E, Keep.refl _, Nat.zero_le _, HB3, OwV.nil _ _ _ _ _⟩) ?_
  rintro ⟨i, x⟩ w104 j ⟨E, EL1, h1, HB3, HOx⟩
  have zs_EL1 := EL1.size
  replace HSe := HSe.keep EL1 (by intro i _ hi he; (try dsimp only [NoK, AllB] at hi he); first | exact hi.elim | exact he.elim | omega | (rcases hi with hi | hi <;> omega) | (rcases he with he | he <;> omega))
  replace HB1 := HB1.keep EL1 (by intro h; (try dsimp only at h); first | omega)
  replace HB2 := HB2.keep EL1 (by intro h; (try dsimp only at h); first | omega)
  replace HO5 := HO5.keep EL1 (by intro i ho he; have he0 := he; have ho0 := ho; (try dsimp only [NoK] at he); (try simp only [Value.ownBlock, Option.some.injEq, reduceCtorEq] at ho); (try simp only [Value.ownBlock, Option.some.injEq, reduceCtorEq] at he); first | exact he.elim | exact ho.elim | omega | (have := zo_HO5 _ ho0; omega)) (by intro i _ hi _ he; have he0 := he; have hi := hi; have he := he; (try dsimp only [NoK, AllB] at hi he); (try simp only [Value.ownBlock, Option.some.injEq, reduceCtorEq] at he); all_goals first | exact hi.elim | exact hi.1.elim | exact he.elim | omega | (rcases hi with hi | hi <;> omega) | (rcases he with he | he <;> omega))
  have zo_HOx := fun (b : Nat) h => HOx.own_lt (b := b) h
  refine c_seq ?_
  refine c_seq ?_
  refine wp_reg (by decide +kernel) ?_
  refine l_v (v_move (t := .int _ _) rfl) ?_
  refine l_v (v_fieldAddr (off := 8) (ft := 23) (by kernel_rfl) rfl) ?_
  refine l_v (v_load (by kernel_rfl) rfl (by first | exact HB3.pv 8 _ rfl | exact HB2.pv 8 _ rfl | exact HB1.pv 8 _ rfl | assumption)) ?_
  refine l_v (v_len (et := 73) (by kernel_rfl) rfl) ?_
  refine l_v (v_lss rfl rfl) ?_
  refine l_nil ?_
  refine n_then ?_
  refine c_cond rfl rfl (fun hlt => ?_) (fun hlt => ?_)
  · skip
    have hlt := dtrue hlt
    have htl : (m.ents.take i).length = i := by rw [List.length_take]; omega
    obtain ⟨r, hx, _⟩ := getE (l := m.ents) (i := i) (by omega)
    have hl7 := hd0 r (List.mem_of_getElem? hx)
    obtain ⟨q1, cs1, hq1, hF1, _, HPq, hr1⟩ := HSe.el hx
    cases hq1
    obtain ⟨d1, d2, rfl, HS7, hg⟩ := tEn_cells hr1
    obtain ⟨ax, cx, rfl⟩ := HOx.shape
    refine c_skip ?_
    refine n_then ?_
    refine c_seq ?_
    refine c_block ?_
    refine wp_any (by kernel_rfl) ?_
    have e105 : Ext w104 { w104 with drawn := w104.drawn + 1 } := Keep.drawn _ _
    generalize hw105 : ({ w104 with drawn := w104.drawn + 1 } : World) = w105 at e105 ⊢
    clear hw105
    have zs_e105 := e105.size
    replace E := E.trans (Ext.keep e105)
    replace HSe := HSe.ext e105
    replace HB1 := HB1.ext e105
    replace HB2 := HB2.ext e105
    replace HO5 := HO5.ext e105
    replace HB3 := HB3.ext e105
    replace HOx := HOx.ext e105
    replace EL1 := EL1.trans (Ext.keep e105)
    replace HPq := HPq.ext e105
    replace HS7 := HS7.ext e105
    refine r_cut 17 rfl (by decide +kernel) (by decide +kernel) (by decide +kernel) ?_
    obtain ⟨n7, hn7⟩ : ∃ n, n = w105.heap.size := ⟨_, rfl⟩
    refine wp_regdW (NoK) (by decide +kernel) (by decide +kernel) ?_
    refine rt_v (fun vals w hR hd => v_fieldAddr (off := 8) (ft := 23) (by kernel_rfl) rfl) ?_
    refine rt_v (fun vals w hR hd => v_load (by kernel_rfl) (hd 0 rfl) (by first | exact (HPq.ext hR) 8 _ rfl | exact (HB3.ext hR).pv 8 _ rfl | exact (HB2.ext hR).pv 8 _ rfl | exact (HB1.ext hR).pv 8 _ rfl | assumption)) ?_
    refine rt_v (fun vals w hR hd => v_fieldAddr (off := 8) (ft := 23) (by kernel_rfl) rfl) ?_
    refine rt_v (fun vals w hR hd => v_load (by kernel_rfl) (hd 2 rfl) (by first | exact (HPq.ext hR) 8 _ rfl | exact (HB3.ext hR).pv 8 _ rfl | exact (HB2.ext hR).pv 8 _ rfl | exact (HB1.ext hR).pv 8 _ rfl | assumption)) ?_
    refine rt_v (fun vals w hR hd => v_move (t := .int _ _) rfl) ?_
    refine rt_v (fun vals w hR hd => v_indexAddr (et := 73) (sz := 2) (k := i) (by kernel_rfl) (by kernel_rfl) (hd 3 rfl) (hd 4 rfl) (by first | rfl | omega) (by omega)) ?_
    refine rt_v (fun vals w hR hd => v_fieldAddr (off := 0) (ft := 2) (by kernel_rfl) (hd 5 rfl)) ?_
    refine rt_v (fun vals w hR hd => v_load (by kernel_rfl) (hd 6 rfl) (by first | exact (HPq.ext hR) 0 _ rfl | exact (HB3.ext hR).pv 0 _ rfl | exact (HB2.ext hR).pv 0 _ rfl | exact (HB1.ext hR).pv 0 _ rfl | assumption)) ?_
    refine rt_v (fun vals w hR hd => v_fieldAddr (off := 8) (ft := 23) (by kernel_rfl) rfl) ?_
    refine rt_v (fun vals w hR hd => v_load (by kernel_rfl) (hd 8 rfl) (by first | exact (HPq.ext hR) 8 _ rfl | exact (HB3.ext hR).pv 8 _ rfl | exact (HB2.ext hR).pv 8 _ rfl | exact (HB1.ext hR).pv 8 _ rfl | assumption)) ?_
    refine rt_v (fun vals w hR hd => v_move (t := .int _ _) rfl) ?_
    refine rt_v (fun vals w hR hd => v_indexAddr (et := 73) (sz := 2) (k := i) (by kernel_rfl) (by kernel_rfl) (hd 9 rfl) (hd 10 rfl) (by first | rfl | omega) (by omega)) ?_
    refine rt_v (fun vals w hR hd => v_fieldAddr (off := 1) (ft := 24) (by kernel_rfl) (hd 11 rfl)) ?_
    refine rt_v (fun vals w hR hd => v_load (by kernel_rfl) (hd 12 rfl) (by first | exact (HPq.ext hR) 1 _ rfl | exact (HB3.ext hR).pv 1 _ rfl | exact (HB2.ext hR).pv 1 _ rfl | exact (HB1.ext hR).pv 1 _ rfl | assumption)) ?_
    refine rt_to (fun v W => Bv W (fun b => n7 ≤ b) v r.2) (fun v w w' h k => h.ext k) (fun vals w hR hd => to_appNil (t := tU8) (et := 5) (bytes := 1) (F := NoK) (by kernel_rfl) rfl (hd 13 rfl) (HS7.ext hR) (fun cs z h => h) (by omega) (fun v w1 h e => ⟨e, h.view.mono fun b _ hb => by have := hR.size; exact hb.elim (fun h => by omega) (fun h => h.elim)⟩)) ?_
    refine rt_to (fun v W => AgV tEn W (fun b => n7 ≤ b) v r) (fun v w w' h k => h.ext k) (fun vals w hR hd => OpTo.of_v (v_build (pl := [(0, 1), (1, 1)]) (z := .agg #[.int .i64 0, .slice none 0 0]) (zl := [.int .i64 0, .slice none 0 0]) (ps := [(0, .int .i64 r.1), (1, vals 14)]) (by kernel_rfl) (by unfold kZero; kernel_rfl) rfl (parts2 (hd 7 rfl) rfl) (cells := [.int .i64 r.1, vals 14]) (by have h1 := SlV.one (show Bv _ (fun b => n7 ≤ b) _ r.2 from hd 14 rfl); simp [fillL, one_cells h1, setAt, cells_int])) ⟨Keep.refl _, _, rfl, [_], [_], rfl, ⟨rfl, wf_of_i64 hg⟩, _, rfl, (show Bv _ (fun b => n7 ≤ b) _ r.2 from hd 14 rfl)⟩) ?_
    refine rt_to (fun v W => SlV tEn W (fun b => n7 ≤ b) v [r]) (fun v w w' h k => h.ext k) (fun vals w hR hd => to_slice1 (t := tEn) (et := 73) (bytes := 32) (by kernel_rfl) (by decide) (show _ = vals 15 from rfl) (AgV.rp (show AgV tEn _ (fun b => n7 ≤ b) _ r from hd 15 rfl)) (fun b w1 hb HO e z => ⟨e, HO.view.mono fun b _ hb => by have := hR.size; exact hb.elim (fun h => by omega) (fun h => h.1)⟩)) ?_
    have htl2 : (m.ents.take i ++ [r]).length = i + 1 := by rw [List.length_append, htl]; rfl
    have HOy := HOx.mono (F' := fun b => n6 ≤ b) fun b _ h => h.1
    have zo_HOy := fun (b : Nat) h => HOy.own_lt (b := b) h
    have zo_HOy := zo_HOx
    refine rt_nil (fun w106 e106 => ?_)
    rintro _ rfl _ rfl _ rfl _ rfl _ rfl _ rfl _ rfl _ rfl _ rfl _ rfl _ rfl _ rfl _ rfl _ rfl v32 hs32 v33 hs33 v34 HS34
    have zs_e106 := e106.size
    have HS34 : SlV tEn _ (fun b => n7 ≤ b) v34 [r] := HS34
    obtain ⟨a34, c34, rfl⟩ := HS34.shape
    replace E := E.trans (Ext.keep e106)
    replace HSe := HSe.ext e106
    replace HB1 := HB1.ext e106
    replace HB2 := HB2.ext e106
    replace HO5 := HO5.ext e106
    replace HB3 := HB3.ext e106
    replace EL1 := EL1.trans (Ext.keep e106)
    replace HOy := HOy.ext e106
    refine fin_nil ?_
    refine n_then ?_
    refine r_cut 1 rfl (by decide +kernel) (by decide +kernel) (by decide +kernel) ?_
    refine r_one (by decide +kernel) rfl ?_
    refine l_to (to_append (et := 73) (bytes := 32) (by kernel_rfl) (show _ = (Value.slice _ _ _) from rfl) HOy (show _ = (Value.slice _ _ _) from rfl) HS34 (deepF fun b hb hb2 => ⟨by omega, fun ho => by have := zo_HOx _ ho; omega⟩) (by first | omega | (simp; done) | (simp; omega)) (by simp only [maxLen]; first | omega | (simp; done) | (simp; omega)) (by omega) ?_)
    rintro a9 n9 c9 w9 HO19 hn9 k9 h9 i9
    have zs_k9 := k9.size
    replace E := E.step k9 (by intro i hi he; have he0 := he; (try dsimp only [NoK] at hi he ⊢); (try simp only [Value.ownBlock, Option.some.injEq] at he); first | exact he.elim | omega | exact he | (have := (HOy).own_lt he0; omega) | (have := zo_HOy _ he0; omega) | (have := (HOy).own_lt he0; rcases hi with hi | hi <;> omega))
    replace HSe := HSe.keep k9 (by intro i _ hi he; have he0 := he; (try dsimp only [NoK, AllB] at hi he); (try simp only [Value.ownBlock, Option.some.injEq] at he); first | exact hi.elim | exact he.elim | omega | (rcases hi with hi | hi <;> omega) | (rcases he with he | he <;> omega) | (have := (HOy).own_lt he0; omega) | (have := zo_HOy _ he0; omega) | (have := (HOy).own_lt he0; rcases hi with hi | hi <;> omega))
    replace HB1 := HB1.keep k9 (by intro h; have he0 := h; (try dsimp only at h); (try simp only [Value.ownBlock, Option.some.injEq] at h); first | omega | (have := (HOy).own_lt he0; omega) | (have := zo_HOy _ he0; omega))
    replace HB2 := HB2.keep k9 (by intro h; have he0 := h; (try dsimp only at h); (try simp only [Value.ownBlock, Option.some.injEq] at h); first | omega | (have := (HOy).own_lt he0; omega) | (have := zo_HOy _ he0; omega))
    replace HO5 := HO5.keep k9 (by intro i ho he; have he0 := he; have ho0 := ho; (try dsimp only [NoK] at he); (try simp only [Value.ownBlock, Option.some.injEq, reduceCtorEq] at ho); (try simp only [Value.ownBlock, Option.some.injEq, reduceCtorEq] at he); first | exact he.elim | exact ho.elim | omega | (have := zo_HO5 _ ho0; omega) | (have := (HOy).own_lt he0; omega) | (have := zo_HOy _ he0; omega) | (have := zo_HO5 _ ho0; have := (HOy).own_lt he0; omega)) (by intro i _ hi _ he; have he0 := he; have hi := hi; have he := he; (try dsimp only [NoK, AllB] at hi he); (try simp only [Value.ownBlock, Option.some.injEq, reduceCtorEq] at he); all_goals first | exact hi.elim | exact hi.1.elim | exact he.elim | omega | (rcases hi with hi | hi <;> omega) | (rcases he with he | he <;> omega) | (have := (HOy).own_lt he0; omega) | (have := zo_HOy _ he0; omega) | (have := (HOy).own_lt he0; rcases hi with hi | hi <;> omega))
    replace HB3 := HB3.keep k9 (by intro h; have he0 := h; (try dsimp only at h); (try simp only [Value.ownBlock, Option.some.injEq] at h); first | omega | (have := (HOy).own_lt he0; omega) | (have := zo_HOy _ he0; omega))
    replace EL1 := EL1.step k9 (by intro i hi he; have he0 := he; (try dsimp only [NoK] at hi he ⊢); (try simp only [Value.ownBlock, Option.some.injEq] at he); first | exact he.elim | omega | exact he | (have := (HOy).own_lt he0; omega) | (have := zo_HOy _ he0; omega) | (have := (HOy).own_lt he0; rcases hi with hi | hi <;> omega))
    replace HS34 := HS34.keep k9 (by intro i _ hi he; have he0 := he; (try dsimp only [NoK, AllB] at hi he); (try simp only [Value.ownBlock, Option.some.injEq] at he); first | exact hi.elim | exact he.elim | omega | (rcases hi with hi | hi <;> omega) | (rcases he with he | he <;> omega) | (have := (HOy).own_lt he0; omega) | (have := zo_HOy _ he0; omega) | (have := (HOy).own_lt he0; rcases hi with hi | hi <;> omega))
    have zo_HO19 := fun (b : Nat) h => HO19.own_lt (b := b) h
    refine l_nil ?_
    refine n_then ?_
    refine r_cut 1 rfl (by decide +kernel) (by decide +kernel) (by decide +kernel) ?_
    refine r_one (by decide +kernel) rfl ?_
    refine l_v (v_fieldAddr (off := 8) (ft := 23) (by kernel_rfl) rfl) ?_
    refine l_nil ?_
    refine n_then ?_
    refine r_one (by decide +kernel) rfl ?_
    refine l_to (to_store rfl rfl (show _ = (Value.slice _ _ _) from rfl) rfl (by kernel_rfl) HB3 (by first | exact of_decide_eq_true rfl | (simp; done) | decide) ?_)
    rintro w107 HX107 k107 z107
    have zs_k107 := k107.size
    replace E := E.step k107 (by intro i hi he; (try dsimp only [NoK] at hi he ⊢); first | exact he.elim | omega | exact he)
    replace HSe := HSe.keep k107 (by intro i _ hi he; (try dsimp only [NoK, AllB] at hi he); first | exact hi.elim | exact he.elim | omega | (rcases hi with hi | hi <;> omega) | (rcases he with he | he <;> omega))
    replace HB1 := HB1.keep k107 (by intro h; (try dsimp only at h); first | omega)
    replace HB2 := HB2.keep k107 (by intro h; (try dsimp only at h); first | omega)
    replace HO5 := HO5.keep k107 (by intro i ho he; have he0 := he; have ho0 := ho; (try dsimp only [NoK] at he); (try simp only [Value.ownBlock, Option.some.injEq, reduceCtorEq] at ho); (try simp only [Value.ownBlock, Option.some.injEq, reduceCtorEq] at he); first | exact he.elim | exact ho.elim | omega | (have := zo_HO5 _ ho0; omega)) (by intro i _ hi _ he; have he0 := he; have hi := hi; have he := he; (try dsimp only [NoK, AllB] at hi he); (try simp only [Value.ownBlock, Option.some.injEq, reduceCtorEq] at he); all_goals first | exact hi.elim | exact hi.1.elim | exact he.elim | omega | (rcases hi with hi | hi <;> omega) | (rcases he with he | he <;> omega))
    replace EL1 := EL1.step k107 (by intro i hi he; (try dsimp only [NoK] at hi he ⊢); first | exact he.elim | omega | exact he)
    replace HO19 := HO19.keep k107 (by intro i ho he; have he0 := he; have ho0 := ho; (try dsimp only [NoK] at he); (try simp only [Value.ownBlock, Option.some.injEq, reduceCtorEq] at ho); (try simp only [Value.ownBlock, Option.some.injEq, reduceCtorEq] at he); first | exact he.elim | exact ho.elim | omega | (have := zo_HO19 _ ho0; omega)) (by intro i _ hi _ he; have he0 := he; have hi := hi; have he := he; (try dsimp only [NoK, AllB] at hi he); (try simp only [Value.ownBlock, Option.some.injEq, reduceCtorEq] at he); all_goals first | exact hi.elim | exact hi.1.elim | exact he.elim | omega | (rcases hi with hi | hi <;> omega) | (rcases he with he | he <;> omega))
    replace HB3 := HX107
    clear HX107
    try simp only [List.set_cons_zero, List.set_cons_succ, setAt, List.take_zero, List.take_succ_cons, List.drop_zero, List.drop_succ_cons, List.nil_append, List.cons_append, List.append_nil, List.length_cons, List.length_nil, Nat.zero_add, Nat.reduceAdd, List.drop_nil] at HB3
    refine l_nil ?_
    refine n_blk ?_
    refine n_then ?_
    refine wp_reg (by decide +kernel) ?_
    refine l_v (v_move (t := .int _ _) rfl) ?_
    refine l_v (v_add rfl rfl (by first | exact wr_i64 (by omega) (by omega) | rfl)) ?_
    refine l_v (v_assign (t := .int _ _) rfl) ?_
    refine l_nil ?_
    refine n_then ?_
    refine ⟨(i + 1, .slice a9 n9 c9), _, rfl, by (repeat (first | exact Off.of_over _ _ _ | refine Off.upd ?_ (by decide) _ | refine Off.overs ?_ (by decide) _)), ⟨by first | rfl | exact congrArg (Value.int _) (by omega) | (simp; done), trivial⟩, ⟨E, EL1, ?_⟩, ?_⟩
    · skip
      exact ⟨by omega, HB3, by rw [List.take_add_one, hx]; exact HO19.mono fun b hb h => ⟨h, hb⟩⟩
    · (dsimp only; omega)
  · skip
    obtain ⟨ax, cx, rfl⟩ := HOx.shape
    refine c_exit ?_
    refine x_then ?_
    refine x_then ?_
    refine x_hit ?_
    refine n_then ?_
    refine c_seq ?_
    refine wp_reg (by decide +kernel) ?_
    refine l_v (v_loadA (by kernel_rfl) rfl (by first | exact HB3.pv | exact HB2.pv | exact HB1.pv | assumption) rfl) ?_
    refine l_to (to_storeA (n := 11) rfl rfl (show _ = (Value.agg _) from rfl) (by kernel_rfl) rfl (by first | (simp [slice_one]; done) | (simp only [List.forall_mem_cons, List.cons_append, List.nil_append]; repeat' (first | exact rfl | apply And.intro | (intro u hu; cases hu; done)))) HB2 (by first | exact of_decide_eq_true rfl | (simp; done) | decide) ?_)
    rintro w108 HX108 k108 z108
    have zs_k108 := k108.size
    replace E := E.step k108 (by intro i hi he; (try dsimp only [NoK] at hi he ⊢); first | exact he.elim | omega | exact he)
    replace HSe := HSe.keep k108 (by intro i _ hi he; (try dsimp only [NoK, AllB] at hi he); first | exact hi.elim | exact he.elim | omega | (rcases hi with hi | hi <;> omega) | (rcases he with he | he <;> omega))
    replace HB1 := HB1.keep k108 (by intro h; (try dsimp only at h); first | omega)
    replace HO5 := HO5.keep k108 (by intro i ho he; have he0 := he; have ho0 := ho; (try dsimp only [NoK] at he); (try simp only [Value.ownBlock, Option.some.injEq, reduceCtorEq] at ho); (try simp only [Value.ownBlock, Option.some.injEq, reduceCtorEq] at he); first | exact he.elim | exact ho.elim | omega | (have := zo_HO5 _ ho0; omega)) (by intro i _ hi _ he; have he0 := he; have hi := hi; have he := he; (try dsimp only [NoK, AllB] at hi he); (try simp only [Value.ownBlock, Option.some.injEq, reduceCtorEq] at he); all_goals first | exact hi.elim | exact hi.1.elim | exact he.elim | omega | (rcases hi with hi | hi <;> omega) | (rcases he with he | he <;> omega))
    replace HB3 := HB3.keep k108 (by intro h; (try dsimp only at h); first | omega)
    replace HOx := HOx.keep k108 (by intro i ho he; have he0 := he; have ho0 := ho; (try dsimp only [NoK] at he); (try simp only [Value.ownBlock, Option.some.injEq, reduceCtorEq] at ho); (try simp only [Value.ownBlock, Option.some.injEq, reduceCtorEq] at he); first | exact he.elim | exact ho.elim | omega | (have := zo_HOx _ ho0; omega)) (by intro i _ hi _ he; have he0 := he; have hi := hi; have he := he; (try dsimp only [NoK, AllB] at hi he); (try simp only [Value.ownBlock, Option.some.injEq, reduceCtorEq] at he); all_goals first | exact hi.elim | exact hi.1.elim | exact he.elim | omega | (rcases hi with hi | hi <;> omega) | (rcases he with he | he <;> omega))
    replace HB2 := HX108
    clear HX108
    try simp only [List.set_cons_zero, List.set_cons_succ, setAt, List.take_zero, List.take_succ_cons, List.drop_zero, List.drop_succ_cons, List.nil_append, List.cons_append, List.append_nil, List.length_cons, List.length_nil, Nat.zero_add, Nat.reduceAdd, List.drop_nil] at HB2
    refine l_nil ?_
    refine n_then ?_
    refine c_ret ?_
    refine ret1c (n := 11) rfl (by decide) rfl (by kernel_rfl) HB2.pv rfl ?_
    have h2 := dfalse hlt
    have e1 : m.ents.take i = m.ents := List.take_of_length_le (by omega)
    rw [e1] at HOx ⊢
    exact ⟨AgV.mkMsG (HOx.view.mono fun b _ h => Or.elim h (fun h => by omega) (fun h => by omega)) (tByF.mono HO5.byF fun b _ h => Or.elim h (fun h => by omega) (fun h => h.elim)) hw, E⟩
end Go.Proofs.Ytaidpdjlchnonaa
