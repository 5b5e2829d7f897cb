/- A part of the proof: steps and lemmas for the walks through the given program. -/
import Derived.Test.YtaidpdjlchnonaaN13
import Derived.Test.YtaidpdjlchnonaaGn
namespace Go.Proofs.Ytaidpdjlchnonaa
open Go.Vc
set_option linter.unusedVariables false
set_option linter.unusedSimpArgs false
set_option maxRecDepth 100000

theorem wBytes_le {l : List UInt8} (h : l.length ≤ 2000000) : (wBytes l).length ≤ l.length + 10 := by have := wNum_len10 (n := l.length) (by omega); rw [wBytes, List.length_append]; omega
theorem ents_le {m : Ms} (hm : mayN m = true) : (wList spE m.ents).length ≤ 100000000 := by
  obtain ⟨_, h2, h3⟩ := mayN_lens hm
  have h1 := flat_le (sp := spE) (k := 1048606) m.ents fun e he => by
    obtain ⟨h4, h5, h6⟩ := h3 e he
    have := wBytes_le (l := e.2) (by omega)
    have := wNum_len10 (n := e.1.toNat) (by omega)
    rw [spE, List.length_append]; omega
  have h4 := wNum_len10 (n := m.ents.length) (by omega)
  rw [wList, List.length_append]; omega
set_option maxHeartbeats 4000000 in
theorem mBytes_c {w : World} {F : Nat → Prop} {v : Value} {m : Ms} (HG1 : AgV tMs w F v m) : CallsR Try.prog 14 #[v] w (fun o w' => (∃ x, o = .tuple #[x, .int .i64 (if mayN m = true then 0 else 2)] ∧ Bv w' (fun b => w.heap.size ≤ b) x (if mayN m = true then msW m else [])) ∧ Ext w w') := by
  obtain ⟨a1, c1, a2, c2, rfl, HSe, HSs, hw⟩ := HG1.ms
  refine enter 87 Try.func14 rfl rfl (by simp) ?_
  refine c_seq ?_
  have E := Keep.refl (K := NoK) w
  replace HSe := HSe.all
  replace HSs := HSs.all
  refine wp_reg (by decide +kernel) ?_
  refine l_to (to_box (show _ = (Value.agg _) from rfl) ?_)
  rintro b1 w1 zb1 HB1 e1 z1
  have zs_e1 := e1.size
  replace E := E.trans (Ext.keep e1)
  replace HSe := HSe.ext e1
  replace HSs := HSs.ext e1
  try simp only [Value.cells] at HB1
  refine l_v (v_assign rfl) ?_
  refine l_v (v_assign rfl) ?_
  refine l_nil ?_
  refine n_then ?_
  refine c_seq ?_
  refine c_seq ?_
  refine wp_reg (by decide +kernel) ?_
  refine l_v (v_loadA (by kernel_rfl) rfl (by first | exact HB1.pv | assumption) rfl) ?_
  refine l_to (to_f1 (by kernel_rfl) (show _ = (Value.agg _) from rfl) (CallsR.mono (May_c (AgV.mkMs HSe HSs hw)) ?_))
  rintro _ w101 ⟨rfl, e101⟩
  have zs_e101 := e101.size
  replace E := E.trans (Ext.keep e101)
  replace HSe := HSe.ext e101
  replace HSs := HSs.ext e101
  replace HB1 := HB1.ext e101
  refine l_v (v_not rfl) ?_
  refine l_nil ?_
  refine n_then ?_
  refine c_cond rfl rfl (fun hc => ?_) (fun hc => ?_)
  · skip
    refine c_seq ?_
    refine wp_reg (by decide +kernel) ?_
    refine l_v (v_assign rfl) ?_
    refine l_v (v_assign rfl) ?_
    refine l_nil ?_
    refine n_then ?_
    refine c_ret ?_
    refine r_then ?_
    refine ret2v rfl (by decide) (by decide) (show _ = (Value.slice _ _ _) from rfl) (show _ = (Value.int _ _) from rfl) ?_
    have hm : ¬ mayN m = true := by revert hc; cases mayN m <;> simp
    rw [if_neg hm, if_neg hm]
    exact ⟨⟨_, rfl, SlV.nil _ _ _⟩, E⟩
  · skip
    have hm : mayN m = true := by revert hc; cases mayN m <;> simp
    obtain ⟨⟨hk, hfr, hto, _, hgr, hte⟩, ⟨hix, hlt, hco, _, _, _⟩, _⟩ := mayN_iff.1 hm
    obtain ⟨hl1, hl2, hl3⟩ := mayN_lens hm
    have l0 := hdW_le hm
    have l1 := wNum_len10 (n := m.idx.toNat) (by omega)
    have l2 := wNum_len10 (n := m.lt.toNat) (by omega)
    have l3 := wNum_len10 (n := m.com.toNat) (by omega)
    have l4 := ents_le hm
    have l5 : (wFlag m.ok).length ≤ 1 := by cases m.ok <;> decide
    have l6 := wBytes_le (l := m.snap) (by omega)
    have o1 := optF_le (b := kNm m.kind 0) (y := wNum m.idx.toNat)
    have o2 := optF_le (b := kNm m.kind 1) (y := wNum m.lt.toNat)
    have o3 := optF_le (b := kNm m.kind 2) (y := wNum m.com.toNat)
    have o4 := optF_le (b := kNm m.kind 3) (y := wList spE m.ents)
    have o5 := optF_le (b := kNm m.kind 4) (y := wFlag m.ok)
    refine c_skip ?_
    refine n_then ?_
    refine c_seq ?_
    refine wp_any (by kernel_rfl) ?_
    have e102 : Ext w101 { w101 with drawn := w101.drawn + 1 } := Keep.drawn _ _
    generalize hw102 : ({ w101 with drawn := w101.drawn + 1 } : World) = w102 at e102 ⊢
    clear hw102
    have zs_e102 := e102.size
    replace E := E.trans (Ext.keep e102)
    replace HSe := HSe.ext e102
    replace HSs := HSs.ext e102
    replace HB1 := HB1.ext e102
    refine r_cut 5 rfl (by decide +kernel) (by decide +kernel) (by decide +kernel) ?_
    refine wp_regJW (fun k => w102.heap.size ≤ k) (AlJ w102.heap.size [⟨4, none, 77, ([.bool false, .bool false, .bool false, .bool false, .bool false, .bool false] : List Value), ([.bool false, .bool false, .bool false, .bool false, .bool false, .bool false] : List Value)⟩]) (by decide +kernel) (by decide +kernel) (fun vals done hd => AlJ.start (Nat.le_refl _) (fun a ha => hd a.al (al_lt (n := 5) rfl a ha))) ?_
    refine rj_vfJ (fun done vals w hR hcl hdk hJ hdn hd => to_f0 (by kernel_rfl) (kinds_c)) (fun done vals w w1 hdk hJ e => hJ.src e rfl) ?_
    refine rj_vJ (fun done vals w hR hcl hdk hJ hdn hd => v_fieldAddr (off := 0) (ft := 22) (by kernel_rfl) rfl) (fun done vals w hdk hJ => hJ.src (Keep.refl _) rfl) ?_
    refine rj_vJ (fun done vals w hR hcl hdk hJ hdn hd => v_load (by kernel_rfl) (hd 1 rfl) (by first | exact (HB1.keep hR (by intro h; (try dsimp only at h); first | omega)).pv 0 _ rfl | assumption)) (fun done vals w hdk hJ => hJ.src (Keep.refl _) rfl) ?_
    refine rj_vJ (fun done vals w hR hcl hdk hJ hdn hd => v_indexA (et := 77) (n := 8) (sz := 6) (k := m.kind.toNat) (by kernel_rfl) (by kernel_rfl) (hd 0 rfl) (hd 2 rfl) (by omega) (by omega) (kinds_ex (by omega) (by omega))) (fun done vals w hdk hJ => hJ.src (Keep.refl _) rfl) ?_
    refine rj_d (fun done vals w hR hcl hdk hJ hdn hd => to_alloc (z := .agg #[.bool false, .bool false, .bool false, .bool false, .bool false, .bool false]) (by unfold kZero; kernel_rfl) fun b w1 hb hB e hz => ⟨Ext.keep e, hJ.al (i := 0) rfl rfl hdk hcl (fun m a hm he => alOne_al (i := 0) (m := m) rfl rfl hm he) (fun a ha => alSt_ne rfl ha (List.mem_of_getElem? (i := 0) rfl)) (fun s hs => by cases hs) hb hB e⟩) ?_
    refine rj_nil (fun vals w103 k103 J103 => ?_)
    rintro _ - rfl _ - rfl _ - rfl _ - rfl v4 qv4 -
    have zs_k103 := k103.size
    obtain ⟨b4, hb4, zb4, HB4⟩ := J103.fin (i := 0) rfl
    try dsimp only at HB4
    have zl4 := HB4.lt
    obtain rfl := qv4.trans hb4
    replace E := E.step k103 (by intro i hi he; (try dsimp only [NoK] at hi he ⊢); first | exact he.elim | omega | exact he)
    replace HSe := HSe.keep k103 (by intro i _ hi he; (try dsimp only [NoK, AllB] at hi he); first | exact hi.elim | exact he.elim | omega | (rcases hi with hi | hi <;> omega) | (rcases he with he | he <;> omega))
    replace HSs := HSs.keep k103 (by intro i _ hi he; (try dsimp only [NoK, AllB] at hi he); first | exact hi.elim | exact he.elim | omega | (rcases hi with hi | hi <;> omega) | (rcases he with he | he <;> omega))
    replace HB1 := HB1.keep k103 (by intro h; (try dsimp only at h); first | omega)
    refine fin_nilJ ?_
    refine n_then ?_
    refine r_one (by decide +kernel) rfl ?_
    refine l_to (to_storeA (n := 6) rfl rfl (show _ = (Value.agg _) from rfl) (by kernel_rfl) rfl (by first | (simp [slice_one]; done) | (simp only [List.forall_mem_cons, List.cons_append, List.nil_append]; repeat' (first | exact rfl | apply And.intro | (intro u hu; cases hu; done)))) HB4 (by first | exact of_decide_eq_true rfl | (simp; done) | decide) ?_)
    rintro w104 HX104 k104 z104
    have zs_k104 := k104.size
    replace E := E.step k104 (by intro i hi he; (try dsimp only [NoK] at hi he ⊢); first | exact he.elim | omega | exact he)
    replace HSe := HSe.keep k104 (by intro i _ hi he; (try dsimp only [NoK, AllB] at hi he); first | exact hi.elim | exact he.elim | omega | (rcases hi with hi | hi <;> omega) | (rcases he with he | he <;> omega))
    replace HSs := HSs.keep k104 (by intro i _ hi he; (try dsimp only [NoK, AllB] at hi he); first | exact hi.elim | exact he.elim | omega | (rcases hi with hi | hi <;> omega) | (rcases he with he | he <;> omega))
    replace HB1 := HB1.keep k104 (by intro h; (try dsimp only at h); first | omega)
    replace HB4 := HX104
    clear HX104
    try simp only [List.set_cons_zero, List.set_cons_succ, setAt, List.take_zero, List.take_succ_cons, List.drop_zero, List.drop_succ_cons, List.nil_append, List.cons_append, List.append_nil, List.length_cons, List.length_nil, Nat.zero_add, Nat.reduceAdd, List.drop_nil] at HB4
    refine l_nil ?_
    refine n_then ?_
    refine c_seq ?_
    refine wp_any (by kernel_rfl) ?_
    have e105 : Ext w104 { w104 with drawn := w104.drawn + 1 } := Keep.drawn _ _
    generalize hw105 : ({ w104 with drawn := w104.drawn + 1 } : World) = w105 at e105 ⊢
    clear hw105
    have zs_e105 := e105.size
    replace E := E.trans (Ext.keep e105)
    replace HSe := HSe.ext e105
    replace HSs := HSs.ext e105
    replace HB1 := HB1.ext e105
    replace HB4 := HB4.ext e105
    refine r_cut 18 rfl (by decide +kernel) (by decide +kernel) (by decide +kernel) ?_
    obtain ⟨n4, hn4⟩ : ∃ n, n = w105.heap.size := ⟨_, rfl⟩
    refine wp_regdW (NoK) (by decide +kernel) (by decide +kernel) ?_
    refine rt_v (fun vals w hR hd => v_fieldAddr (off := 0) (ft := 22) (by kernel_rfl) rfl) ?_
    refine rt_v (fun vals w hR hd => v_load (by kernel_rfl) (hd 0 rfl) (by first | exact (HB4.ext hR).pv 0 _ rfl | exact (HB1.ext hR).pv 0 _ rfl | assumption)) ?_
    refine rt_to (fun v W => Bv W AllB v (wNum m.kind.toNat)) (fun v w w' h k => h.ext k) (fun vals w hR hd => to_f1 (by kernel_rfl) (hd 1 rfl) (CallsR.mono (putK_c (by omega) (by omega)) fun v w1 ⟨h, _, e⟩ => ⟨e, h.view.allB⟩)) ?_
    refine rt_v (fun vals w hR hd => v_fieldAddr (off := 1) (ft := 3) (by kernel_rfl) rfl) ?_
    refine rt_v (fun vals w hR hd => v_load (by kernel_rfl) (hd 3 rfl) (by first | exact (HB4.ext hR).pv 1 _ rfl | exact (HB1.ext hR).pv 1 _ rfl | assumption)) ?_
    refine rt_to (fun v W => Bv W AllB v (wNum m.fr.toNat)) (fun v w w' h k => h.ext k) (fun vals w hR hd => to_f1 (by kernel_rfl) (hd 4 rfl) (CallsR.mono (putI_c (by omega) (by omega)) fun v w1 ⟨h, _, e⟩ => ⟨e, h.view.allB⟩)) ?_
    refine rt_v (fun vals w hR hd => v_fieldAddr (off := 2) (ft := 3) (by kernel_rfl) rfl) ?_
    refine rt_v (fun vals w hR hd => v_load (by kernel_rfl) (hd 6 rfl) (by first | exact (HB4.ext hR).pv 2 _ rfl | exact (HB1.ext hR).pv 2 _ rfl | assumption)) ?_
    refine rt_to (fun v W => Bv W AllB v (wNum m.to.toNat)) (fun v w w' h k => h.ext k) (fun vals w hR hd => to_f1 (by kernel_rfl) (hd 7 rfl) (CallsR.mono (putI_c (by omega) (by omega)) fun v w1 ⟨h, _, e⟩ => ⟨e, h.view.allB⟩)) ?_
    refine rt_v (fun vals w hR hd => v_fieldAddr (off := 3) (ft := 3) (by kernel_rfl) rfl) ?_
    refine rt_v (fun vals w hR hd => v_load (by kernel_rfl) (hd 9 rfl) (by first | exact (HB4.ext hR).pv 3 _ rfl | exact (HB1.ext hR).pv 3 _ rfl | assumption)) ?_
    refine rt_to (fun v W => Bv W AllB v (wNum m.grp.toNat)) (fun v w w' h k => h.ext k) (fun vals w hR hd => to_f1 (by kernel_rfl) (hd 10 rfl) (CallsR.mono (putI_c (by omega) (by omega)) fun v w1 ⟨h, _, e⟩ => ⟨e, h.view.allB⟩)) ?_
    refine rt_v (fun vals w hR hd => v_fieldAddr (off := 4) (ft := 2) (by kernel_rfl) rfl) ?_
    refine rt_v (fun vals w hR hd => v_load (by kernel_rfl) (hd 12 rfl) (by first | exact (HB4.ext hR).pv 4 _ rfl | exact (HB1.ext hR).pv 4 _ rfl | assumption)) ?_
    refine rt_to (fun v W => Bv W AllB v (wNum m.term.toNat)) (fun v w w' h k => h.ext k) (fun vals w hR hd => to_f1 (by kernel_rfl) (hd 13 rfl) (CallsR.mono (putL_c (by omega) (by omega)) fun v w1 ⟨h, _, e⟩ => ⟨e, h.view.allB⟩)) ?_
    refine rt_to (fun v W => SlV (tSl tU8) W AllB v [wNum m.kind.toNat, wNum m.fr.toNat, wNum m.to.toNat, wNum m.grp.toNat, wNum m.term.toNat]) (fun v w w' h k => h.ext k) (fun vals w hR hd => to_bytes5 (et := 24) (bytes := 24) (z := .slice none 0 0) (by kernel_rfl) (by unfold kZeros; kernel_rfl) (show _ = vals 2 from rfl) (show _ = vals 5 from rfl) (show _ = vals 8 from rfl) (show _ = vals 11 from rfl) (show _ = vals 14 from rfl) (hd 2 rfl) (hd 5 rfl) (hd 8 rfl) (hd 11 rfl) (hd 14 rfl) (fun b w1 hb HO e z => ⟨e, HO.view.allB⟩)) ?_
    refine rt_to (fun v W => (∃ q c, v = .slice (some q) (hdW m).length c) ∧ OwV tU8 nU8 W n4 NoK v (hdW m)) (fun v w w' h k => ⟨h.1, h.2.ext k⟩) (fun vals w hR hd => to_f1 (by kernel_rfl) (show _ = vals 15 from rfl) (CallsR.mono (Join_c (show SlV (tSl tU8) _ AllB _ [wNum m.kind.toNat, wNum m.fr.toNat, wNum m.to.toNat, wNum m.grp.toNat, wNum m.term.toNat] from hd 15 rfl) (by have := l0; rw [hdW] at this; simp only [List.length_append] at this; simp; omega)) fun v w1 ⟨h, ⟨q, c, hv⟩, e⟩ => ⟨e, by have h9 : [wNum m.kind.toNat, wNum m.fr.toNat, wNum m.to.toNat, wNum m.grp.toNat, wNum m.term.toNat].flatten = hdW m := (by simp [hdW]); rw [h9] at h hv; exact ⟨⟨q, c, hv⟩, h.base (by have := hR.size; omega)⟩⟩)) ?_
    refine rt_to (fun v W => ∃ b, v = .pointer (some ⟨b, 0, none⟩) ∧ Blk W b [.slice none 0 0] 24 ∧ n4 ≤ b) (fun v w w' h k => by obtain ⟨b, h1, h2, h3⟩ := h; exact ⟨b, h1, h2.ext k, h3⟩) (fun vals w hR hd => to_alloc (z := .slice none 0 0) (by unfold kZero; kernel_rfl) (fun b w1 hb hB e hz => ⟨e, b, rfl, hB, by have := hR.size; omega⟩)) ?_
    refine rt_nil (fun w106 e106 => ?_)
    rintro _ rfl _ rfl v18 hs18 _ rfl _ rfl v21 hs21 _ rfl _ rfl v24 hs24 _ rfl _ rfl v27 hs27 _ rfl _ rfl v30 hs30 v31 hs31 v32 hs32 v5 hz5
    have zs_e106 := e106.size
    have hs32 : (∃ q c, v32 = .slice (some q) (hdW m).length c) ∧ OwV tU8 nU8 _ n4 NoK v32 (hdW m) := hs32
    obtain ⟨⟨q32, c32, rfl⟩, HO32⟩ := hs32
    have hz5 : ∃ b, v5 = .pointer (some ⟨b, 0, none⟩) ∧ Blk _ b [.slice none 0 0] 24 ∧ n4 ≤ b := hz5
    obtain ⟨b5, rfl, HB5, hb5⟩ := hz5
    have hne := HO32.ne_blk HB5 (by decide)
    have zl5 := HB5.lt
    have HS33 := HO32.view.just
    have zq33 := (HO32.own_lt (b := q32.block) rfl).1
    replace E := E.trans (Ext.keep e106)
    replace HSe := HSe.ext e106
    replace HSs := HSs.ext e106
    replace HB1 := HB1.ext e106
    replace HB4 := HB4.ext e106
    refine fin_nil ?_
    refine n_then ?_
    refine r_one (by decide +kernel) rfl ?_
    refine l_to (to_store rfl rfl (show _ = (Value.slice _ _ _) from rfl) rfl (by kernel_rfl) HB5 (by simp) ?_)
    rintro w33 HB5 k33 z33
    have zs_k33 := k33.size
    try simp only [List.set_cons_zero, List.set_cons_succ] at HB5
    replace HS33 := HS33.mono (F' := fun i => i ≠ b5 ∧ w.heap.size ≤ i) (fun i _ h => by have := zq33; omega)
    replace E := E.step k33 (by intro i hi he; (try dsimp only [NoK] at hi he ⊢); first | exact he.elim | omega | exact he)
    replace HSe := HSe.keep k33 (by intro i _ hi he; (try dsimp only [NoK, AllB] at hi he); first | exact hi.elim | exact he.elim | omega | (rcases hi with hi | hi <;> omega) | (rcases he with he | he <;> omega))
    replace HSs := HSs.keep k33 (by intro i _ hi he; (try dsimp only [NoK, AllB] at hi he); first | exact hi.elim | exact he.elim | omega | (rcases hi with hi | hi <;> omega) | (rcases he with he | he <;> omega))
    replace HB1 := HB1.keep k33 (by intro h; (try dsimp only at h); first | omega)
    replace HB4 := HB4.keep k33 (by intro h; (try dsimp only at h); first | omega)
    replace HO32 := HO32.keep k33 (by intro i ho he; have he0 := he; have ho0 := ho; (try dsimp only [NoK] at he); (try simp only [Value.ownBlock, Option.some.injEq, reduceCtorEq] at ho); (try simp only [Value.ownBlock, Option.some.injEq, reduceCtorEq] at he); first | exact he.elim | exact ho.elim | omega | (have := zo_HO32 _ ho0; omega)) (by intro i _ hi _ he; have he0 := he; have hi := hi; have he := he; (try dsimp only [NoK, AllB] at hi he); (try simp only [Value.ownBlock, Option.some.injEq, reduceCtorEq] at he); all_goals first | exact hi.elim | exact hi.1.elim | exact he.elim | omega | (rcases hi with hi | hi <;> omega) | (rcases he with he | he <;> omega))
    replace HS33 := HS33.keep k33 (by intro i _ hi he; (try dsimp only [NoK, AllB] at hi he); first | exact hi.elim | exact he.elim | omega | (rcases hi with hi | hi <;> omega) | (rcases he with he | he <;> omega))
    refine l_nil ?_
    refine n_then ?_
    refine c_seq ?_
    refine wp_reg (by decide +kernel) ?_
    refine l_v (v_makeFunc (by simp [ev]; rfl) (by simp [ev]; rfl)) ?_
    refine l_v (v_assign rfl) ?_
    refine l_nil ?_
    refine n_then ?_
    refine c_seq ?_
    refine wp_reg (by decide +kernel) ?_
    refine l_v (v_fieldAddr (off := 8) (ft := 23) (by kernel_rfl) rfl) ?_
    refine l_v (v_load (by kernel_rfl) rfl (by first | exact HB5.pv 8 _ rfl | exact HB4.pv 8 _ rfl | exact HB1.pv 8 _ rfl | assumption)) ?_
    refine l_to (to_f2 (by kernel_rfl) (show _ = (Value.slice _ _ _) from rfl) rfl (CallsR.mono (putE_c (cap := #[]) HSe (by kernel_rfl) spE (fun w1 cs x e1 hr hx => eBytes_c hr (by have := (hl3 x hx).1; omega) (by have := (hl3 x hx).2; omega)) (by omega) (by omega)) ?_))
    rintro _ w7 ⟨q7, c7, rfl, HO7, e7⟩
    have zs_e7 := e7.size
    have HS7 := HO7.view.mono (F' := fun i => b5 < i) (fun i _ h => Or.elim h (fun h => by omega) (fun h => h.elim))
    replace E := E.trans (Ext.keep e7)
    replace HSe := HSe.ext e7
    replace HSs := HSs.ext e7
    replace HB1 := HB1.ext e7
    replace HB4 := HB4.ext e7
    replace HO32 := HO32.ext e7
    replace HS33 := HS33.ext e7
    replace HB5 := HB5.ext e7
    have zo_HO7 := fun (b : Nat) h => HO7.own_lt (b := b) h
    refine l_v (v_move (t := .tuple _) rfl) ?_
    refine l_v (v_extract (t := .slice _ _ _) rfl rfl) ?_
    refine l_v (v_extract (t := .int _ _) rfl rfl) ?_
    refine l_v (v_assign (t := .slice _ _ _) rfl) ?_
    refine l_v (v_assign (t := .int _ _) rfl) ?_
    refine l_nil ?_
    refine n_then ?_
    refine c_seq ?_
    refine wp_any (by kernel_rfl) ?_
    have e107 : Ext w7 { w7 with drawn := w7.drawn + 1 } := Keep.drawn _ _
    generalize hw107 : ({ w7 with drawn := w7.drawn + 1 } : World) = w107 at e107 ⊢
    clear hw107
    have zs_e107 := e107.size
    replace E := E.trans (Ext.keep e107)
    replace HSs := HSs.ext e107
    replace HB1 := HB1.ext e107
    replace HB4 := HB4.ext e107
    replace HO32 := HO32.ext e107
    replace HS33 := HS33.ext e107
    replace HB5 := HB5.ext e107
    replace HS7 := HS7.ext e107
    refine r_cut 7 rfl (by decide +kernel) (by decide +kernel) (by decide +kernel) ?_
    refine wp_regdW (NoK) (by decide +kernel) (by decide +kernel) ?_
    refine rt_v (fun vals w hR hd => v_move rfl) ?_
    refine rt_v (fun vals w hR hd => v_fieldAddr (off := 0) (ft := 4) (by kernel_rfl) rfl) ?_
    refine rt_v (fun vals w hR hd => v_load (by kernel_rfl) (hd 1 rfl) (by first | exact (HB5.ext hR).pv 0 _ rfl | exact (HB4.ext hR).pv 0 _ rfl | exact (HB1.ext hR).pv 0 _ rfl | assumption)) ?_
    refine rt_v (fun vals w hR hd => v_fieldAddr (off := 5) (ft := 2) (by kernel_rfl) rfl) ?_
    refine rt_v (fun vals w hR hd => v_load (by kernel_rfl) (hd 3 rfl) (by first | exact (HB5.ext hR).pv 5 _ rfl | exact (HB4.ext hR).pv 5 _ rfl | exact (HB1.ext hR).pv 5 _ rfl | assumption)) ?_
    refine rt_to (fun v W => Bv W AllB v (wNum m.idx.toNat)) (fun v w w' h k => h.ext k) (fun vals w hR hd => to_f1 (by kernel_rfl) (hd 4 rfl) (CallsR.mono (putL_c (by omega) (by omega)) fun v w1 ⟨h, _, e⟩ => ⟨e, h.view.allB⟩)) ?_
    refine rt_to (fun v W => SlV (tSl tU8) W AllB v [wNum m.idx.toNat]) (fun v w w' h k => h.ext k) (fun vals w hR hd => to_slice1 (t := tSl tU8) (et := 24) (bytes := 24) (by kernel_rfl) (by decide) (show _ = vals 5 from rfl) (rep_one (show Bv _ AllB _ (wNum m.idx.toNat) from hd 5 rfl)) (fun b w1 hb HO e z => ⟨e, HO.view.allB⟩)) ?_
    refine rt_nil (fun w108 e108 => ?_)
    rintro _ rfl _ rfl _ rfl _ rfl _ rfl v45 hs45 v46 hs46
    have zs_e108 := e108.size
    have hs46 : SlV (tSl tU8) _ AllB v46 [wNum m.idx.toNat] := hs46
    obtain ⟨a46, c46, rfl⟩ := hs46.shape
    replace E := E.trans (Ext.keep e108)
    replace HSs := HSs.ext e108
    replace HB1 := HB1.ext e108
    replace HB4 := HB4.ext e108
    replace HO32 := HO32.ext e108
    replace HS33 := HS33.ext e108
    replace HB5 := HB5.ext e108
    replace HS7 := HS7.ext e108
    refine fin_nil ?_
    refine n_then ?_
    refine r_one (by decide +kernel) rfl ?_
    refine l_to (to_call2 (by kernel_rfl) rfl (show _ = (Value.bool _) from rfl) (show _ = (Value.slice _ _ _) from rfl) (CallsR.mono (more_c (n0 := w.heap.size) (ls := [wNum m.idx.toNat]) HB5 HS33 hs46 (by omega) (by simp only [List.length_append, List.flatten_cons, List.flatten_nil, List.append_nil] at o1 o2 o3 o4 o5 ⊢; omega)) ?_))
    rintro _ w47 ⟨⟨a47, c47, HB5, HS33⟩, k47⟩
    have zs_k47 := k47.size
    replace E := E.step k47 (by intro i hi he; (try dsimp only [NoK] at hi he ⊢); first | exact he.elim | omega | exact he)
    replace HSs := HSs.keep k47 (by intro i _ hi he; (try dsimp only [NoK, AllB] at hi he); first | exact hi.elim | exact he.elim | omega | (rcases hi with hi | hi <;> omega) | (rcases he with he | he <;> omega))
    replace HB1 := HB1.keep k47 (by intro h; (try dsimp only at h); first | omega)
    replace HB4 := HB4.keep k47 (by intro h; (try dsimp only at h); first | omega)
    replace HO32 := HO32.keep k47 (by intro i ho he; have he0 := he; have ho0 := ho; (try dsimp only [NoK] at he); (try simp only [Value.ownBlock, Option.some.injEq, reduceCtorEq] at ho); (try simp only [Value.ownBlock, Option.some.injEq, reduceCtorEq] at he); first | exact he.elim | exact ho.elim | omega | (have := zo_HO32 _ ho0; omega)) (by intro i _ hi _ he; have he0 := he; have hi := hi; have he := he; (try dsimp only [NoK, AllB] at hi he); (try simp only [Value.ownBlock, Option.some.injEq, reduceCtorEq] at he); all_goals first | exact hi.elim | exact hi.1.elim | exact he.elim | omega | (rcases hi with hi | hi <;> omega) | (rcases he with he | he <;> omega))
    replace HS7 := HS7.keep k47 (by intro i _ hi he; (try dsimp only [NoK, AllB] at hi he); first | exact hi.elim | exact he.elim | omega | (rcases hi with hi | hi <;> omega) | (rcases he with he | he <;> omega))
    refine l_nil ?_
    refine n_then ?_
    refine c_seq ?_
    refine wp_any (by kernel_rfl) ?_
    have e109 : Ext w47 { w47 with drawn := w47.drawn + 1 } := Keep.drawn _ _
    generalize hw109 : ({ w47 with drawn := w47.drawn + 1 } : World) = w109 at e109 ⊢
    clear hw109
    have zs_e109 := e109.size
    replace E := E.trans (Ext.keep e109)
    replace HSs := HSs.ext e109
    replace HB1 := HB1.ext e109
    replace HB4 := HB4.ext e109
    replace HO32 := HO32.ext e109
    replace HS7 := HS7.ext e109
    replace HB5 := HB5.ext e109
    replace HS33 := HS33.ext e109
    refine r_cut 7 rfl (by decide +kernel) (by decide +kernel) (by decide +kernel) ?_
    refine wp_regdW (NoK) (by decide +kernel) (by decide +kernel) ?_
    refine rt_v (fun vals w hR hd => v_move rfl) ?_
    refine rt_v (fun vals w hR hd => v_fieldAddr (off := 1) (ft := 4) (by kernel_rfl) rfl) ?_
    refine rt_v (fun vals w hR hd => v_load (by kernel_rfl) (hd 1 rfl) (by first | exact (HB5.ext hR).pv 1 _ rfl | exact (HB4.ext hR).pv 1 _ rfl | exact (HB1.ext hR).pv 1 _ rfl | assumption)) ?_
    refine rt_v (fun vals w hR hd => v_fieldAddr (off := 6) (ft := 2) (by kernel_rfl) rfl) ?_
    refine rt_v (fun vals w hR hd => v_load (by kernel_rfl) (hd 3 rfl) (by first | exact (HB5.ext hR).pv 6 _ rfl | exact (HB4.ext hR).pv 6 _ rfl | exact (HB1.ext hR).pv 6 _ rfl | assumption)) ?_
    refine rt_to (fun v W => Bv W AllB v (wNum m.lt.toNat)) (fun v w w' h k => h.ext k) (fun vals w hR hd => to_f1 (by kernel_rfl) (hd 4 rfl) (CallsR.mono (putL_c (by omega) (by omega)) fun v w1 ⟨h, _, e⟩ => ⟨e, h.view.allB⟩)) ?_
    refine rt_to (fun v W => SlV (tSl tU8) W AllB v [wNum m.lt.toNat]) (fun v w w' h k => h.ext k) (fun vals w hR hd => to_slice1 (t := tSl tU8) (et := 24) (bytes := 24) (by kernel_rfl) (by decide) (show _ = vals 5 from rfl) (rep_one (show Bv _ AllB _ (wNum m.lt.toNat) from hd 5 rfl)) (fun b w1 hb HO e z => ⟨e, HO.view.allB⟩)) ?_
    refine rt_nil (fun w110 e110 => ?_)
    rintro _ rfl _ rfl _ rfl _ rfl _ rfl v53 hs53 v54 hs54
    have zs_e110 := e110.size
    have hs54 : SlV (tSl tU8) _ AllB v54 [wNum m.lt.toNat] := hs54
    obtain ⟨a54, c54, rfl⟩ := hs54.shape
    replace E := E.trans (Ext.keep e110)
    replace HSs := HSs.ext e110
    replace HB1 := HB1.ext e110
    replace HB4 := HB4.ext e110
    replace HO32 := HO32.ext e110
    replace HS7 := HS7.ext e110
    replace HB5 := HB5.ext e110
    replace HS33 := HS33.ext e110
    refine fin_nil ?_
    refine n_then ?_
    refine r_one (by decide +kernel) rfl ?_
    refine l_to (to_call2 (by kernel_rfl) rfl (show _ = (Value.bool _) from rfl) (show _ = (Value.slice _ _ _) from rfl) (CallsR.mono (more_c (n0 := w.heap.size) (ls := [wNum m.lt.toNat]) HB5 HS33 hs54 (by omega) (by simp only [List.length_append, List.flatten_cons, List.flatten_nil, List.append_nil] at o1 o2 o3 o4 o5 ⊢; omega)) ?_))
    rintro _ w55 ⟨⟨a55, c55, HB5, HS33⟩, k55⟩
    have zs_k55 := k55.size
    replace E := E.step k55 (by intro i hi he; (try dsimp only [NoK] at hi he ⊢); first | exact he.elim | omega | exact he)
    replace HSs := HSs.keep k55 (by intro i _ hi he; (try dsimp only [NoK, AllB] at hi he); first | exact hi.elim | exact he.elim | omega | (rcases hi with hi | hi <;> omega) | (rcases he with he | he <;> omega))
    replace HB1 := HB1.keep k55 (by intro h; (try dsimp only at h); first | omega)
    replace HB4 := HB4.keep k55 (by intro h; (try dsimp only at h); first | omega)
    replace HO32 := HO32.keep k55 (by intro i ho he; have he0 := he; have ho0 := ho; (try dsimp only [NoK] at he); (try simp only [Value.ownBlock, Option.some.injEq, reduceCtorEq] at ho); (try simp only [Value.ownBlock, Option.some.injEq, reduceCtorEq] at he); first | exact he.elim | exact ho.elim | omega | (have := zo_HO32 _ ho0; omega)) (by intro i _ hi _ he; have he0 := he; have hi := hi; have he := he; (try dsimp only [NoK, AllB] at hi he); (try simp only [Value.ownBlock, Option.some.injEq, reduceCtorEq] at he); all_goals first | exact hi.elim | exact hi.1.elim | exact he.elim | omega | (rcases hi with hi | hi <;> omega) | (rcases he with he | he <;> omega))
    replace HS7 := HS7.keep k55 (by intro i _ hi he; (try dsimp only [NoK, AllB] at hi he); first | exact hi.elim | exact he.elim | omega | (rcases hi with hi | hi <;> omega) | (rcases he with he | he <;> omega))
    refine l_nil ?_
    refine n_then ?_
    refine c_seq ?_
    refine wp_any (by kernel_rfl) ?_
    have e111 : Ext w55 { w55 with drawn := w55.drawn + 1 } := Keep.drawn _ _
    generalize hw111 : ({ w55 with drawn := w55.drawn + 1 } : World) = w111 at e111 ⊢
    clear hw111
    have zs_e111 := e111.size
    replace E := E.trans (Ext.keep e111)
    replace HSs := HSs.ext e111
    replace HB1 := HB1.ext e111
    replace HB4 := HB4.ext e111
    replace HO32 := HO32.ext e111
    replace HS7 := HS7.ext e111
    replace HB5 := HB5.ext e111
    replace HS33 := HS33.ext e111
    refine r_cut 7 rfl (by decide +kernel) (by decide +kernel) (by decide +kernel) ?_
    refine wp_regdW (NoK) (by decide +kernel) (by decide +kernel) ?_
    refine rt_v (fun vals w hR hd => v_move rfl) ?_
    refine rt_v (fun vals w hR hd => v_fieldAddr (off := 2) (ft := 4) (by kernel_rfl) rfl) ?_
    refine rt_v (fun vals w hR hd => v_load (by kernel_rfl) (hd 1 rfl) (by first | exact (HB5.ext hR).pv 2 _ rfl | exact (HB4.ext hR).pv 2 _ rfl | exact (HB1.ext hR).pv 2 _ rfl | assumption)) ?_
    refine rt_v (fun vals w hR hd => v_fieldAddr (off := 7) (ft := 2) (by kernel_rfl) rfl) ?_
    refine rt_v (fun vals w hR hd => v_load (by kernel_rfl) (hd 3 rfl) (by first | exact (HB5.ext hR).pv 7 _ rfl | exact (HB4.ext hR).pv 7 _ rfl | exact (HB1.ext hR).pv 7 _ rfl | assumption)) ?_
    refine rt_to (fun v W => Bv W AllB v (wNum m.com.toNat)) (fun v w w' h k => h.ext k) (fun vals w hR hd => to_f1 (by kernel_rfl) (hd 4 rfl) (CallsR.mono (putL_c (by omega) (by omega)) fun v w1 ⟨h, _, e⟩ => ⟨e, h.view.allB⟩)) ?_
    refine rt_to (fun v W => SlV (tSl tU8) W AllB v [wNum m.com.toNat]) (fun v w w' h k => h.ext k) (fun vals w hR hd => to_slice1 (t := tSl tU8) (et := 24) (bytes := 24) (by kernel_rfl) (by decide) (show _ = vals 5 from rfl) (rep_one (show Bv _ AllB _ (wNum m.com.toNat) from hd 5 rfl)) (fun b w1 hb HO e z => ⟨e, HO.view.allB⟩)) ?_
    refine rt_nil (fun w112 e112 => ?_)
    rintro _ rfl _ rfl _ rfl _ rfl _ rfl v61 hs61 v62 hs62
    have zs_e112 := e112.size
    have hs62 : SlV (tSl tU8) _ AllB v62 [wNum m.com.toNat] := hs62
    obtain ⟨a62, c62, rfl⟩ := hs62.shape
    replace E := E.trans (Ext.keep e112)
    replace HSs := HSs.ext e112
    replace HB1 := HB1.ext e112
    replace HB4 := HB4.ext e112
    replace HO32 := HO32.ext e112
    replace HS7 := HS7.ext e112
    replace HB5 := HB5.ext e112
    replace HS33 := HS33.ext e112
    refine fin_nil ?_
    refine n_then ?_
    refine r_one (by decide +kernel) rfl ?_
    refine l_to (to_call2 (by kernel_rfl) rfl (show _ = (Value.bool _) from rfl) (show _ = (Value.slice _ _ _) from rfl) (CallsR.mono (more_c (n0 := w.heap.size) (ls := [wNum m.com.toNat]) HB5 HS33 hs62 (by omega) (by simp only [List.length_append, List.flatten_cons, List.flatten_nil, List.append_nil] at o1 o2 o3 o4 o5 ⊢; omega)) ?_))
    rintro _ w63 ⟨⟨a63, c63, HB5, HS33⟩, k63⟩
    have zs_k63 := k63.size
    replace E := E.step k63 (by intro i hi he; (try dsimp only [NoK] at hi he ⊢); first | exact he.elim | omega | exact he)
    replace HSs := HSs.keep k63 (by intro i _ hi he; (try dsimp only [NoK, AllB] at hi he); first | exact hi.elim | exact he.elim | omega | (rcases hi with hi | hi <;> omega) | (rcases he with he | he <;> omega))
    replace HB1 := HB1.keep k63 (by intro h; (try dsimp only at h); first | omega)
    replace HB4 := HB4.keep k63 (by intro h; (try dsimp only at h); first | omega)
    replace HO32 := HO32.keep k63 (by intro i ho he; have he0 := he; have ho0 := ho; (try dsimp only [NoK] at he); (try simp only [Value.ownBlock, Option.some.injEq, reduceCtorEq] at ho); (try simp only [Value.ownBlock, Option.some.injEq, reduceCtorEq] at he); first | exact he.elim | exact ho.elim | omega | (have := zo_HO32 _ ho0; omega)) (by intro i _ hi _ he; have he0 := he; have hi := hi; have he := he; (try dsimp only [NoK, AllB] at hi he); (try simp only [Value.ownBlock, Option.some.injEq, reduceCtorEq] at he); all_goals first | exact hi.elim | exact hi.1.elim | exact he.elim | omega | (rcases hi with hi | hi <;> omega) | (rcases he with he | he <;> omega))
    replace HS7 := HS7.keep k63 (by intro i _ hi he; (try dsimp only [NoK, AllB] at hi he); first | exact hi.elim | exact he.elim | omega | (rcases hi with hi | hi <;> omega) | (rcases he with he | he <;> omega))
    refine l_nil ?_
    refine n_then ?_
    refine c_seq ?_
    refine wp_reg (by decide +kernel) ?_
    refine l_v (v_move rfl) ?_
    refine l_v (v_fieldAddr (off := 3) (ft := 4) (by kernel_rfl) rfl) ?_
    refine l_v (v_load (by kernel_rfl) rfl (by first | exact HB5.pv 3 _ rfl | exact HB4.pv 3 _ rfl | exact HB1.pv 3 _ rfl | assumption)) ?_
    refine l_v (v_move (t := .slice _ _ _) rfl) ?_
    refine l_to (to_slice1 (t := tSl tU8) (et := 24) (bytes := 24) (by kernel_rfl) (by decide) (show _ = (Value.slice _ _ _) from rfl) ((show (tSl tU8).rep _ _ [_] _ from ⟨_, rfl, HS7⟩)) ?_)
    rintro b68 w68 zb68 HO68 e68 z68
    have zs_e68 := e68.size
    replace E := E.trans (Ext.keep e68)
    replace HSs := HSs.ext e68
    replace HB1 := HB1.ext e68
    replace HB4 := HB4.ext e68
    replace HO32 := HO32.ext e68
    replace HS7 := HS7.ext e68
    replace HB5 := HB5.ext e68
    replace HS33 := HS33.ext e68
    have zo_HO68 := fun (b : Nat) h => HO68.own_lt (b := b) h
    refine l_to (to_call2 (by kernel_rfl) rfl (show _ = (Value.bool _) from rfl) (show _ = (Value.slice _ _ _) from rfl) (CallsR.mono (more_c (n0 := w.heap.size) (ls := [wList spE m.ents]) HB5 HS33 HO68.view (by omega) (by simp only [List.length_append, List.flatten_cons, List.flatten_nil, List.append_nil] at o1 o2 o3 o4 o5 ⊢; omega)) ?_))
    rintro _ w69 ⟨⟨a69, c69, HB5, HS33⟩, k69⟩
    have zs_k69 := k69.size
    replace E := E.step k69 (by intro i hi he; (try dsimp only [NoK] at hi he ⊢); first | exact he.elim | omega | exact he)
    replace HSs := HSs.keep k69 (by intro i _ hi he; (try dsimp only [NoK, AllB] at hi he); first | exact hi.elim | exact he.elim | omega | (rcases hi with hi | hi <;> omega) | (rcases he with he | he <;> omega))
    replace HB1 := HB1.keep k69 (by intro h; (try dsimp only at h); first | omega)
    replace HB4 := HB4.keep k69 (by intro h; (try dsimp only at h); first | omega)
    replace HO32 := HO32.keep k69 (by intro i ho he; have he0 := he; have ho0 := ho; (try dsimp only [NoK] at he); (try simp only [Value.ownBlock, Option.some.injEq, reduceCtorEq] at ho); (try simp only [Value.ownBlock, Option.some.injEq, reduceCtorEq] at he); first | exact he.elim | exact ho.elim | omega | (have := zo_HO32 _ ho0; omega)) (by intro i _ hi _ he; have he0 := he; have hi := hi; have he := he; (try dsimp only [NoK, AllB] at hi he); (try simp only [Value.ownBlock, Option.some.injEq, reduceCtorEq] at he); all_goals first | exact hi.elim | exact hi.1.elim | exact he.elim | omega | (rcases hi with hi | hi <;> omega) | (rcases he with he | he <;> omega))
    refine l_nil ?_
    refine n_then ?_
    refine c_seq ?_
    refine wp_any (by kernel_rfl) ?_
    have e113 : Ext w69 { w69 with drawn := w69.drawn + 1 } := Keep.drawn _ _
    generalize hw113 : ({ w69 with drawn := w69.drawn + 1 } : World) = w113 at e113 ⊢
    clear hw113
    have zs_e113 := e113.size
    replace E := E.trans (Ext.keep e113)
    replace HSs := HSs.ext e113
    replace HB1 := HB1.ext e113
    replace HB4 := HB4.ext e113
    replace HO32 := HO32.ext e113
    replace HB5 := HB5.ext e113
    replace HS33 := HS33.ext e113
    refine r_cut 7 rfl (by decide +kernel) (by decide +kernel) (by decide +kernel) ?_
    refine wp_regdW (NoK) (by decide +kernel) (by decide +kernel) ?_
    refine rt_v (fun vals w hR hd => v_move rfl) ?_
    refine rt_v (fun vals w hR hd => v_fieldAddr (off := 4) (ft := 4) (by kernel_rfl) rfl) ?_
    refine rt_v (fun vals w hR hd => v_load (by kernel_rfl) (hd 1 rfl) (by first | exact (HB5.ext hR).pv 4 _ rfl | exact (HB4.ext hR).pv 4 _ rfl | exact (HB1.ext hR).pv 4 _ rfl | assumption)) ?_
    refine rt_v (fun vals w hR hd => v_fieldAddr (off := 9) (ft := 4) (by kernel_rfl) rfl) ?_
    refine rt_v (fun vals w hR hd => v_load (by kernel_rfl) (hd 3 rfl) (by first | exact (HB5.ext hR).pv 9 _ rfl | exact (HB4.ext hR).pv 9 _ rfl | exact (HB1.ext hR).pv 9 _ rfl | assumption)) ?_
    refine rt_to (fun v W => Bv W AllB v (wFlag m.ok)) (fun v w w' h k => h.ext k) (fun vals w hR hd => to_f1 (by kernel_rfl) (hd 4 rfl) (CallsR.mono (Flag_c) fun v w1 ⟨h, _, e⟩ => ⟨e, h.view.allB⟩)) ?_
    refine rt_to (fun v W => SlV (tSl tU8) W AllB v [wFlag m.ok]) (fun v w w' h k => h.ext k) (fun vals w hR hd => to_slice1 (t := tSl tU8) (et := 24) (bytes := 24) (by kernel_rfl) (by decide) (show _ = vals 5 from rfl) (rep_one (show Bv _ AllB _ (wFlag m.ok) from hd 5 rfl)) (fun b w1 hb HO e z => ⟨e, HO.view.allB⟩)) ?_
    refine rt_nil (fun w114 e114 => ?_)
    rintro _ rfl _ rfl _ rfl _ rfl _ rfl v75 hs75 v76 hs76
    have zs_e114 := e114.size
    have hs76 : SlV (tSl tU8) _ AllB v76 [wFlag m.ok] := hs76
    obtain ⟨a76, c76, rfl⟩ := hs76.shape
    replace E := E.trans (Ext.keep e114)
    replace HSs := HSs.ext e114
    replace HB1 := HB1.ext e114
    replace HB4 := HB4.ext e114
    replace HO32 := HO32.ext e114
    replace HB5 := HB5.ext e114
    replace HS33 := HS33.ext e114
    refine fin_nil ?_
    refine n_then ?_
    refine r_one (by decide +kernel) rfl ?_
    refine l_to (to_call2 (by kernel_rfl) rfl (show _ = (Value.bool _) from rfl) (show _ = (Value.slice _ _ _) from rfl) (CallsR.mono (more_c (n0 := w.heap.size) (ls := [wFlag m.ok]) HB5 HS33 hs76 (by omega) (by simp only [List.length_append, List.flatten_cons, List.flatten_nil, List.append_nil] at o1 o2 o3 o4 o5 ⊢; omega)) ?_))
    rintro _ w77 ⟨⟨a77, c77, HB5, HS33⟩, k77⟩
    have zs_k77 := k77.size
    replace E := E.step k77 (by intro i hi he; (try dsimp only [NoK] at hi he ⊢); first | exact he.elim | omega | exact he)
    replace HSs := HSs.keep k77 (by intro i _ hi he; (try dsimp only [NoK, AllB] at hi he); first | exact hi.elim | exact he.elim | omega | (rcases hi with hi | hi <;> omega) | (rcases he with he | he <;> omega))
    replace HB1 := HB1.keep k77 (by intro h; (try dsimp only at h); first | omega)
    replace HB4 := HB4.keep k77 (by intro h; (try dsimp only at h); first | omega)
    replace HO32 := HO32.keep k77 (by intro i ho he; have he0 := he; have ho0 := ho; (try dsimp only [NoK] at he); (try simp only [Value.ownBlock, Option.some.injEq, reduceCtorEq] at ho); (try simp only [Value.ownBlock, Option.some.injEq, reduceCtorEq] at he); first | exact he.elim | exact ho.elim | omega | (have := zo_HO32 _ ho0; omega)) (by intro i _ hi _ he; have he0 := he; have hi := hi; have he := he; (try dsimp only [NoK, AllB] at hi he); (try simp only [Value.ownBlock, Option.some.injEq, reduceCtorEq] at he); all_goals first | exact hi.elim | exact hi.1.elim | exact he.elim | omega | (rcases hi with hi | hi <;> omega) | (rcases he with he | he <;> omega))
    refine l_nil ?_
    refine n_then ?_
    refine c_seq ?_
    refine wp_any (by kernel_rfl) ?_
    have e115 : Ext w77 { w77 with drawn := w77.drawn + 1 } := Keep.drawn _ _
    generalize hw115 : ({ w77 with drawn := w77.drawn + 1 } : World) = w115 at e115 ⊢
    clear hw115
    have zs_e115 := e115.size
    replace E := E.trans (Ext.keep e115)
    replace HSs := HSs.ext e115
    replace HB1 := HB1.ext e115
    replace HB4 := HB4.ext e115
    replace HO32 := HO32.ext e115
    replace HB5 := HB5.ext e115
    replace HS33 := HS33.ext e115
    refine r_cut 7 rfl (by decide +kernel) (by decide +kernel) (by decide +kernel) ?_
    refine wp_regdW (NoK) (by decide +kernel) (by decide +kernel) ?_
    refine rt_v (fun vals w hR hd => v_move rfl) ?_
    refine rt_v (fun vals w hR hd => v_fieldAddr (off := 5) (ft := 4) (by kernel_rfl) rfl) ?_
    refine rt_v (fun vals w hR hd => v_load (by kernel_rfl) (hd 1 rfl) (by first | exact (HB5.ext hR).pv 5 _ rfl | exact (HB4.ext hR).pv 5 _ rfl | exact (HB1.ext hR).pv 5 _ rfl | assumption)) ?_
    refine rt_v (fun vals w hR hd => v_fieldAddr (off := 10) (ft := 24) (by kernel_rfl) rfl) ?_
    refine rt_v (fun vals w hR hd => v_load (by kernel_rfl) (hd 3 rfl) (by first | exact (HB5.ext hR).pv 10 _ rfl | exact (HB4.ext hR).pv 10 _ rfl | exact (HB1.ext hR).pv 10 _ rfl | assumption)) ?_
    refine rt_to (fun v W => Bv W AllB v (wBytes m.snap)) (fun v w w' h k => h.ext k) (fun vals w hR hd => to_f1 (by kernel_rfl) (hd 4 rfl) (CallsR.mono (Bytes_c (HSs.ext hR) (by omega)) fun v w1 ⟨h, _, e⟩ => ⟨e, h.view.allB⟩)) ?_
    refine rt_to (fun v W => SlV (tSl tU8) W AllB v [wBytes m.snap]) (fun v w w' h k => h.ext k) (fun vals w hR hd => to_slice1 (t := tSl tU8) (et := 24) (bytes := 24) (by kernel_rfl) (by decide) (show _ = vals 5 from rfl) (rep_one (show Bv _ AllB _ (wBytes m.snap) from hd 5 rfl)) (fun b w1 hb HO e z => ⟨e, HO.view.allB⟩)) ?_
    refine rt_nil (fun w116 e116 => ?_)
    rintro _ rfl _ rfl _ rfl _ rfl _ rfl v83 hs83 v84 hs84
    have zs_e116 := e116.size
    have hs84 : SlV (tSl tU8) _ AllB v84 [wBytes m.snap] := hs84
    obtain ⟨a84, c84, rfl⟩ := hs84.shape
    replace E := E.trans (Ext.keep e116)
    replace HSs := HSs.ext e116
    replace HB1 := HB1.ext e116
    replace HB4 := HB4.ext e116
    replace HO32 := HO32.ext e116
    replace HB5 := HB5.ext e116
    replace HS33 := HS33.ext e116
    refine fin_nil ?_
    refine n_then ?_
    refine r_one (by decide +kernel) rfl ?_
    refine l_to (to_call2 (by kernel_rfl) rfl (show _ = (Value.bool _) from rfl) (show _ = (Value.slice _ _ _) from rfl) (CallsR.mono (more_c (n0 := w.heap.size) (ls := [wBytes m.snap]) HB5 HS33 hs84 (by omega) (by simp only [List.length_append, List.flatten_cons, List.flatten_nil, List.append_nil] at o1 o2 o3 o4 o5 ⊢; omega)) ?_))
    rintro _ w85 ⟨⟨a85, c85, HB5, HS33⟩, k85⟩
    have zs_k85 := k85.size
    replace E := E.step k85 (by intro i hi he; (try dsimp only [NoK] at hi he ⊢); first | exact he.elim | omega | exact he)
    replace HSs := HSs.keep k85 (by intro i _ hi he; (try dsimp only [NoK, AllB] at hi he); first | exact hi.elim | exact he.elim | omega | (rcases hi with hi | hi <;> omega) | (rcases he with he | he <;> omega))
    replace HB1 := HB1.keep k85 (by intro h; (try dsimp only at h); first | omega)
    replace HB4 := HB4.keep k85 (by intro h; (try dsimp only at h); first | omega)
    replace HO32 := HO32.keep k85 (by intro i ho he; have he0 := he; have ho0 := ho; (try dsimp only [NoK] at he); (try simp only [Value.ownBlock, Option.some.injEq, reduceCtorEq] at ho); (try simp only [Value.ownBlock, Option.some.injEq, reduceCtorEq] at he); first | exact he.elim | exact ho.elim | omega | (have := zo_HO32 _ ho0; omega)) (by intro i _ hi _ he; have he0 := he; have hi := hi; have he := he; (try dsimp only [NoK, AllB] at hi he); (try simp only [Value.ownBlock, Option.some.injEq, reduceCtorEq] at he); all_goals first | exact hi.elim | exact hi.1.elim | exact he.elim | omega | (rcases hi with hi | hi <;> omega) | (rcases he with he | he <;> omega))
    refine l_nil ?_
    refine n_then ?_
    refine c_seq ?_
    refine wp_reg (by decide +kernel) ?_
    refine l_v (v_load (by kernel_rfl) rfl (by first | exact HB5.cell rfl | exact HB4.cell rfl | exact HB1.cell rfl | assumption)) ?_
    refine l_v (v_assign (t := .slice _ _ _) rfl) ?_
    refine l_v (v_assign rfl) ?_
    refine l_nil ?_
    refine n_then ?_
    refine c_ret ?_
    refine ret2v rfl (by decide) (by decide) (show _ = (Value.slice _ _ _) from rfl) (show _ = (Value.int _ _) from rfl) ?_
    rw [if_pos hm, if_pos hm]
    have h9 : hdW m ++ optW (kNm m.kind 0) [wNum m.idx.toNat].flatten ++ optW (kNm m.kind 1) [wNum m.lt.toNat].flatten ++ optW (kNm m.kind 2) [wNum m.com.toNat].flatten ++ optW (kNm m.kind 3) [wList spE m.ents].flatten ++ optW (kNm m.kind 4) [wFlag m.ok].flatten ++ optW (kNm m.kind 5) [wBytes m.snap].flatten = msW m := by simp only [List.flatten_cons, List.flatten_nil, List.append_nil]; rfl
    rw [h9] at HS33 ⊢
    exact ⟨⟨_, rfl, HS33.mono fun i _ h => h.2⟩, E⟩
end Go.Proofs.Ytaidpdjlchnonaa
