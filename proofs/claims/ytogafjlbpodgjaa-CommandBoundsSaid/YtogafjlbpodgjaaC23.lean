/- A part of the proof: steps and lemmas for the walks through the given program. -/
import Derived.Test.YtogafjlbpodgjaaC22
import Derived.Test.YtogafjlbpodgjaaGn
import Derived.Test.YtogafjlbpodgjaaGz
namespace Go.Proofs.Ytogafjlbpodgjaa
open Go.Vc
set_option linter.unusedVariables false
set_option linter.unusedSimpArgs false
set_option maxRecDepth 100000
theorem partsB {e : Nat → Value} {i0 i1 : Nat} {x0 x1 : Operand} {v0 v1 : Value} (h0 : ev e x0 = v0) (h1 : ev e x1 = v1) : (#[(i0, x0), (i1, x1)] : Array (Nat × Operand)).toList.map (fun x => (x.1, ev e x.2)) = [(i0, v0), (i1, v1)] := by simp [h0, h1]
theorem cells_agg {cs : Array Value} : (Value.agg cs).cells = cs := rfl
theorem partsC {e : Nat → Value} {i0 i1 i2 : Nat} {x0 x1 x2 : Operand} {v0 v1 v2 : Value} (h0 : ev e x0 = v0) (h1 : ev e x1 = v1) (h2 : ev e x2 = v2) : (#[(i0, x0), (i1, x1), (i2, x2)] : Array (Nat × Operand)).toList.map (fun x => (x.1, ev e x.2)) = [(i0, v0), (i1, v1), (i2, v2)] := by simp [h0, h1, h2]
def bL : List CmV := [(1, (1, 0, ak0), mv0, [], [], [], 0), (1, rq0, (1, [], [], false, 0, 0), [], [], [], 0), (1, rq0, mv0, [], [], List.replicate 24 0, 0), (1, rq0, mv0, [], [], [], 1), (1, rq0, mv0, [], List.replicate 40 0, [], 0), (0, rq0, mv0, [], [], [], 0), (11, rq0, mv0, [], [], [], 0), (6, rq0, mv0, [], [], [], 0), (6, rq0, mv0, [], [], List.replicate 25 0, 0), (8, rq0, mv0, [], [], [], 5), (8, rq0, mv0, [], [], [], 0)]
theorem bL_no : ∀ c ∈ bL, mayCm c = false := by
  have h : bL.all (fun c => !mayCm c) = true := by kernel_rfl
  intro c hc
  simpa using List.all_eq_true.1 h c hc
abbrev bMv : MvV := (2147483647, List.replicate 24 0, [], false, 4, 1)
theorem bMv_may : mayMv bMv = true := by kernel_rfl
theorem bIn {l : List UInt8} : mayCm (4, rq0, bMv, [], l, [], 0) = decide (l.length ≤ 524288) := by
  simp [mayCm, nmdC, bMv_may, risE]
theorem bK1 : mayAk (4, List.replicate 24 0, [], List.replicate 40 0, List.replicate 40 0, false, 0) = true := by kernel_rfl
theorem bK2 : mayAk (4, List.replicate 24 0, [], List.replicate 40 0, List.replicate 41 0, false, 0) = false := by kernel_rfl
theorem bK3 : mayAk (4, List.replicate 24 0, [], [], [], true, 0) = true := by kernel_rfl
theorem bK4 : mayAk (5, [], [], [], [], false, 32) = true := by kernel_rfl
theorem bC8 : mayCm (8, rq0, mv0, [], [], [], 4) = true := by kernel_rfl
set_option maxHeartbeats 16000000 in
theorem CommandBounds_c {w : World} : CallsR Try.prog 6 #[] w (fun o w' => o = .bool true ∧ Ext w w') := by
 refine enter 145 Try.func6 rfl rfl (by simp) ?_
 refine c_seq ?_
 have E := Keep.refl (K := NoK) w
 refine wp_reg (by decide +kernel) ?_
 refine l_v (v_assign rfl) ?_
 refine l_nil ?_
 refine n_then ?_
 refine c_seq ?_
 refine wp_regd (NoK) (by kernel_rfl) (by decide +kernel) (by decide +kernel) ?_
 refine rt_to (fun v W => Bv W AllB v (List.replicate 24 (0 : UInt8))) (fun v w w' h k => h.ext k) (fun vals w hR hd => to_makeA (et := 5) (bytes := 1) (by kernel_rfl) (t := tU8) (z := 0) (n := 24) (zv := .int .u8 0) rfl rfl (by omega) (by simp only [maxLen]; omega) (by unfold kZero; kernel_rfl) rfl (fun _ _ => rfl) (fun b w1 hb HO e z => ⟨e, HO.view.allB⟩)) ?_
 refine rt_to (fun v W => Bv W AllB v (List.replicate 40 (0 : UInt8))) (fun v w w' h k => h.ext k) (fun vals w hR hd => to_makeA (et := 5) (bytes := 1) (by kernel_rfl) (t := tU8) (z := 0) (n := 40) (zv := .int .u8 0) rfl rfl (by omega) (by simp only [maxLen]; omega) (by unfold kZero; kernel_rfl) rfl (fun _ _ => rfl) (fun b w1 hb HO e z => ⟨e, HO.view.allB⟩)) ?_
 refine rt_to (fun v W => Bv W AllB v (List.replicate 24 (0 : UInt8))) (fun v w w' h k => h.ext k) (fun vals w hR hd => OpTo.of_v (v_assign rfl) ⟨Keep.refl _, (show Bv _ AllB _ (List.replicate 24 (0 : UInt8)) from hd 0 rfl)⟩) ?_
 refine rt_to (fun v W => Bv W AllB v (List.replicate 40 (0 : UInt8))) (fun v w w' h k => h.ext k) (fun vals w hR hd => OpTo.of_v (v_assign rfl) ⟨Keep.refl _, (show Bv _ AllB _ (List.replicate 40 (0 : UInt8)) from hd 1 rfl)⟩) ?_
 refine rt_nil (fun w101 e101 => ?_)
 rintro v21 hs21 v22 hs22 v1 hs1 v2 hs2
 have zs_e101 := e101.size
 have hsk := (show Bv _ AllB v1 (List.replicate 24 (0 : UInt8)) from hs1).all
 have hsv := (show Bv _ AllB v2 (List.replicate 40 (0 : UInt8)) from hs2).all
 obtain ⟨a21, c21, rfl⟩ := hsk.shape
 obtain ⟨a22, c22, rfl⟩ := hsv.shape
 replace E := E.trans (Ext.keep e101)
 refine fin_nil ?_
 refine n_then ?_
 refine c_seq ?_
 have HSk := hsk
 have HSv := hsv
 refine wp_reg (by decide +kernel) ?_
 refine l_v (v_build (pl := [(0, 1), (1, 9), (10, 6), (16, 1), (17, 1), (18, 1), (19, 1)]) (z := .agg #[.int .i64 0, .int .i64 0, .int .i64 0, .int .i64 0, .slice none 0 0, .slice none 0 0, .slice none 0 0, .slice none 0 0, .bool false, .int .i64 0, .int .i64 0, .slice none 0 0, .slice none 0 0, .bool false, .int .i64 0, .int .i64 0, .slice none 0 0, .slice none 0 0, .slice none 0 0, .int .i64 0]) (zl := [.int .i64 0, .int .i64 0, .int .i64 0, .int .i64 0, .slice none 0 0, .slice none 0 0, .slice none 0 0, .slice none 0 0, .bool false, .int .i64 0, .int .i64 0, .slice none 0 0, .slice none 0 0, .bool false, .int .i64 0, .int .i64 0, .slice none 0 0, .slice none 0 0, .slice none 0 0, .int .i64 0]) (by kernel_rfl) (by unfold kZero; kernel_rfl) rfl rfl (cells := [_, _, _, _, _, _, _, _, _, _, _, _, _, _, _, _, _, _, _, _]) rfl) ?_
 refine l_to (to_alloc (z := (.agg #[.int .i64 0, .int .i64 0, .int .i64 0, .int .i64 0, .slice none 0 0, .slice none 0 0, .slice none 0 0, .slice none 0 0, .bool false, .int .i64 0, .int .i64 0, .slice none 0 0, .slice none 0 0, .bool false, .int .i64 0, .int .i64 0, .slice none 0 0, .slice none 0 0, .slice none 0 0, .int .i64 0])) (by unfold kZero; kernel_rfl) ?_)
 rintro b3 w3 zb3 HB3 e3 z3
 have zs_e3 := e3.size
 replace E := E.trans (Ext.keep e3)
 replace HSk := HSk.ext e3
 replace HSv := HSv.ext e3
 try simp only [Value.cells] at HB3
 refine l_to (to_storeA (n := 20) rfl rfl (show _ = (Value.agg _) from rfl) (by kernel_rfl) rfl (by first | (simp [slice_one]; done) | (simp only [List.forall_mem_cons, List.cons_append, List.nil_append]; repeat' (first | exact rfl | apply And.intro | (intro u hu; cases hu; done)))) HB3 dj5 ?_)
 rintro w103 HB3 k103 z103
 have zs_k103 := k103.size
 try simp only [List.set_cons_zero, List.set_cons_succ, setAt, List.take_zero, List.take_succ_cons, List.drop_zero, List.drop_succ_cons, List.nil_append, List.cons_append, List.append_nil, List.length_cons, List.length_nil] at HB3
 replace E := E.step k103 dj3
 replace HSk := HSk.keep k103 dj1
 replace HSv := HSv.keep k103 dj1
 refine l_nil ?_
 refine n_then ?_
 refine c_seq ?_
 refine wp_any (by kernel_rfl) ?_
 have e102 : Ext w103 { w103 with drawn := w103.drawn + 1 } := Keep.drawn _ _
 generalize hw102 : ({ w103 with drawn := w103.drawn + 1 } : World) = w102 at e102 ⊢
 clear hw102
 have zs_e102 := e102.size
 replace E := E.trans (Ext.keep e102)
 replace HSk := HSk.ext e102
 replace HSv := HSv.ext e102
 replace HB3 := HB3.ext e102
 refine r_cut 14 rfl (by decide +kernel) (by decide +kernel) (by decide +kernel) ?_
 refine wp_regJW (fun k => w102.heap.size ≤ k) (AlJ w102.heap.size [⟨5, some 10, 36, ([.int .i64 0, .int .i64 0, .int .i64 0, .int .i64 0, .slice none 0 0, .slice none 0 0, .slice none 0 0, .slice none 0 0, .bool false, .int .i64 0, .int .i64 0, .slice none 0 0, .slice none 0 0, .bool false, .int .i64 0, .int .i64 0, .slice none 0 0, .slice none 0 0, .slice none 0 0, .int .i64 0] : List Value), ([.int .i64 1, .int .i64 0, .int .i64 0, .int .i64 0, .slice none 0 0, .slice none 0 0, .slice none 0 0, .slice none 0 0, .bool false, .int .i64 0, .int .i64 0, .slice none 0 0, .slice none 0 0, .bool false, .int .i64 0, .int .i64 0, .slice none 0 0, .slice none 0 0, .slice none 0 0, .int .i64 0] : List Value)⟩, ⟨6, some 11, 36, ([.int .i64 0, .int .i64 0, .int .i64 0, .int .i64 0, .slice none 0 0, .slice none 0 0, .slice none 0 0, .slice none 0 0, .bool false, .int .i64 0, .int .i64 0, .slice none 0 0, .slice none 0 0, .bool false, .int .i64 0, .int .i64 0, .slice none 0 0, .slice none 0 0, .slice none 0 0, .int .i64 0] : List Value), ([.int .i64 1, .int .i64 0, .int .i64 0, .int .i64 0, .slice none 0 0, .slice none 0 0, .slice none 0 0, .slice none 0 0, .bool false, .int .i64 0, .int .i64 0, .slice none 0 0, .slice none 0 0, .bool false, .int .i64 0, .int .i64 0, .slice none 0 0, .slice none 0 0, .slice none 0 0, .int .i64 0] : List Value)⟩, ⟨7, some 12, 36, ([.int .i64 0, .int .i64 0, .int .i64 0, .int .i64 0, .slice none 0 0, .slice none 0 0, .slice none 0 0, .slice none 0 0, .bool false, .int .i64 0, .int .i64 0, .slice none 0 0, .slice none 0 0, .bool false, .int .i64 0, .int .i64 0, .slice none 0 0, .slice none 0 0, .slice none 0 0, .int .i64 0] : List Value), ([.int .i64 1, .int .i64 0, .int .i64 0, .int .i64 0, .slice none 0 0, .slice none 0 0, .slice none 0 0, .slice none 0 0, .bool false, .int .i64 0, .int .i64 0, .slice none 0 0, .slice none 0 0, .bool false, .int .i64 0, .int .i64 0, .slice none 0 0, .slice none 0 0, .slice none 0 0, .int .i64 0] : List Value)⟩, ⟨8, some 13, 36, ([.int .i64 0, .int .i64 0, .int .i64 0, .int .i64 0, .slice none 0 0, .slice none 0 0, .slice none 0 0, .slice none 0 0, .bool false, .int .i64 0, .int .i64 0, .slice none 0 0, .slice none 0 0, .bool false, .int .i64 0, .int .i64 0, .slice none 0 0, .slice none 0 0, .slice none 0 0, .int .i64 0] : List Value), ([.int .i64 1, .int .i64 0, .int .i64 0, .int .i64 0, .slice none 0 0, .slice none 0 0, .slice none 0 0, .slice none 0 0, .bool false, .int .i64 0, .int .i64 0, .slice none 0 0, .slice none 0 0, .bool false, .int .i64 0, .int .i64 0, .slice none 0 0, .slice none 0 0, .slice none 0 0, .int .i64 0] : List Value)⟩, ⟨9, none, 36, ([.int .i64 0, .int .i64 0, .int .i64 0, .int .i64 0, .slice none 0 0, .slice none 0 0, .slice none 0 0, .slice none 0 0, .bool false, .int .i64 0, .int .i64 0, .slice none 0 0, .slice none 0 0, .bool false, .int .i64 0, .int .i64 0, .slice none 0 0, .slice none 0 0, .slice none 0 0, .int .i64 0] : List Value), ([.int .i64 0, .int .i64 0, .int .i64 0, .int .i64 0, .slice none 0 0, .slice none 0 0, .slice none 0 0, .slice none 0 0, .bool false, .int .i64 0, .int .i64 0, .slice none 0 0, .slice none 0 0, .bool false, .int .i64 0, .int .i64 0, .slice none 0 0, .slice none 0 0, .slice none 0 0, .int .i64 0] : List Value)⟩]) (by decide +kernel) (by decide +kernel) (fun vals done hd => AlJ.start (Nat.le_refl _) (fun a ha => hd a.al (al_lt (n := 14) rfl a ha))) ?_
 refine rj_vJ (fun done vals w hR hcl hdk hJ hdn hd => v_loadA (by kernel_rfl) rfl (by first | exact (HB3.keep hR dj4).pv | assumption) rfl) (fun done vals w hdk hJ => hJ.src (Keep.refl _) rfl) ?_
 refine rj_vJ (fun done vals w hR hcl hdk hJ hdn hd => v_loadA (by kernel_rfl) rfl (by first | exact (HB3.keep hR dj4).pv | assumption) rfl) (fun done vals w hdk hJ => hJ.src (Keep.refl _) rfl) ?_
 refine rj_vJ (fun done vals w hR hcl hdk hJ hdn hd => v_loadA (by kernel_rfl) rfl (by first | exact (HB3.keep hR dj4).pv | assumption) rfl) (fun done vals w hdk hJ => hJ.src (Keep.refl _) rfl) ?_
 refine rj_vJ (fun done vals w hR hcl hdk hJ hdn hd => v_loadA (by kernel_rfl) rfl (by first | exact (HB3.keep hR dj4).pv | assumption) rfl) (fun done vals w hdk hJ => hJ.src (Keep.refl _) rfl) ?_
 refine rj_vJ (fun done vals w hR hcl hdk hJ hdn hd => v_loadA (by kernel_rfl) rfl (by first | exact (HB3.keep hR dj4).pv | assumption) rfl) (fun done vals w hdk hJ => hJ.src (Keep.refl _) rfl) ?_
 refine rj_d (fun done vals w hR hcl hdk hJ hdn hd => to_alloc (z := .agg #[.int .i64 0, .int .i64 0, .int .i64 0, .int .i64 0, .slice none 0 0, .slice none 0 0, .slice none 0 0, .slice none 0 0, .bool false, .int .i64 0, .int .i64 0, .slice none 0 0, .slice none 0 0, .bool false, .int .i64 0, .int .i64 0, .slice none 0 0, .slice none 0 0, .slice none 0 0, .int .i64 0]) (by unfold kZero; kernel_rfl) fun b w1 hb hB e hz => ⟨Ext.keep e, hJ.al (i := 0) rfl rfl hdk hcl (fun m a hm he => alOne_al (i := 0) (m := m) rfl rfl hm he) (fun a ha => alSt_ne rfl ha (List.mem_of_getElem? (i := 0) rfl)) (fun s hs => by cases hs; exact ⟨_, rfl, rfl⟩) hb hB e⟩) ?_
 refine rj_d (fun done vals w hR hcl hdk hJ hdn hd => to_alloc (z := .agg #[.int .i64 0, .int .i64 0, .int .i64 0, .int .i64 0, .slice none 0 0, .slice none 0 0, .slice none 0 0, .slice none 0 0, .bool false, .int .i64 0, .int .i64 0, .slice none 0 0, .slice none 0 0, .bool false, .int .i64 0, .int .i64 0, .slice none 0 0, .slice none 0 0, .slice none 0 0, .int .i64 0]) (by unfold kZero; kernel_rfl) fun b w1 hb hB e hz => ⟨Ext.keep e, hJ.al (i := 1) rfl rfl hdk hcl (fun m a hm he => alOne_al (i := 1) (m := m) rfl rfl hm he) (fun a ha => alSt_ne rfl ha (List.mem_of_getElem? (i := 1) rfl)) (fun s hs => by cases hs; exact ⟨_, rfl, rfl⟩) hb hB e⟩) ?_
 refine rj_d (fun done vals w hR hcl hdk hJ hdn hd => to_alloc (z := .agg #[.int .i64 0, .int .i64 0, .int .i64 0, .int .i64 0, .slice none 0 0, .slice none 0 0, .slice none 0 0, .slice none 0 0, .bool false, .int .i64 0, .int .i64 0, .slice none 0 0, .slice none 0 0, .bool false, .int .i64 0, .int .i64 0, .slice none 0 0, .slice none 0 0, .slice none 0 0, .int .i64 0]) (by unfold kZero; kernel_rfl) fun b w1 hb hB e hz => ⟨Ext.keep e, hJ.al (i := 2) rfl rfl hdk hcl (fun m a hm he => alOne_al (i := 2) (m := m) rfl rfl hm he) (fun a ha => alSt_ne rfl ha (List.mem_of_getElem? (i := 2) rfl)) (fun s hs => by cases hs; exact ⟨_, rfl, rfl⟩) hb hB e⟩) ?_
 refine rj_d (fun done vals w hR hcl hdk hJ hdn hd => to_alloc (z := .agg #[.int .i64 0, .int .i64 0, .int .i64 0, .int .i64 0, .slice none 0 0, .slice none 0 0, .slice none 0 0, .slice none 0 0, .bool false, .int .i64 0, .int .i64 0, .slice none 0 0, .slice none 0 0, .bool false, .int .i64 0, .int .i64 0, .slice none 0 0, .slice none 0 0, .slice none 0 0, .int .i64 0]) (by unfold kZero; kernel_rfl) fun b w1 hb hB e hz => ⟨Ext.keep e, hJ.al (i := 3) rfl rfl hdk hcl (fun m a hm he => alOne_al (i := 3) (m := m) rfl rfl hm he) (fun a ha => alSt_ne rfl ha (List.mem_of_getElem? (i := 3) rfl)) (fun s hs => by cases hs; exact ⟨_, rfl, rfl⟩) hb hB e⟩) ?_
 refine rj_d (fun done vals w hR hcl hdk hJ hdn hd => to_alloc (z := .agg #[.int .i64 0, .int .i64 0, .int .i64 0, .int .i64 0, .slice none 0 0, .slice none 0 0, .slice none 0 0, .slice none 0 0, .bool false, .int .i64 0, .int .i64 0, .slice none 0 0, .slice none 0 0, .bool false, .int .i64 0, .int .i64 0, .slice none 0 0, .slice none 0 0, .slice none 0 0, .int .i64 0]) (by unfold kZero; kernel_rfl) fun b w1 hb hB e hz => ⟨Ext.keep e, hJ.al (i := 4) rfl rfl hdk hcl (fun m a hm he => alOne_al (i := 4) (m := m) rfl rfl hm he) (fun a ha => alSt_ne rfl ha (List.mem_of_getElem? (i := 4) rfl)) (fun s hs => by cases hs) hb hB e⟩) ?_
 refine rj_d (fun done vals w hR hcl hdk hJ hdn hd => by
   obtain ⟨b, hb, hn, hB⟩ := hJ.at (i := 0) rfl rfl hdk (hdn 5 rfl)
   exact to_storeA (n := 20) (hb : _ = Value.pointer (some ⟨b, 0, none⟩)) rfl (hd 0 rfl) (by kernel_rfl) rfl (by first | (simp [slice_one]; done) | (simp only [List.forall_mem_cons, List.cons_append, List.nil_append]; repeat' (first | exact rfl | apply And.intro | (intro u hu; cases hu; done)))) hB (of_decide_eq_true rfl) (fun w1 hB1 kk z => ⟨kk.mono (fun i _ h => by rw [h]; exact hn), hJ.st (i := 0) rfl rfl hdk (hdn 5 rfl) (fun m a hm he => alOne_st (i := 0) (m := m) rfl rfl hm rfl he) (fun a ha h => alSt_ne (a := _) rfl (List.mem_of_getElem? (i := 0) rfl) ha (by rw [h])) rfl (fun m a hm he => alOne_al (i := 0) (m := m) rfl rfl hm he) hb hB1 kk⟩)) ?_
 refine rj_d (fun done vals w hR hcl hdk hJ hdn hd => by
   obtain ⟨b, hb, hn, hB⟩ := hJ.at (i := 1) rfl rfl hdk (hdn 6 rfl)
   exact to_storeA (n := 20) (hb : _ = Value.pointer (some ⟨b, 0, none⟩)) rfl (hd 1 rfl) (by kernel_rfl) rfl (by first | (simp [slice_one]; done) | (simp only [List.forall_mem_cons, List.cons_append, List.nil_append]; repeat' (first | exact rfl | apply And.intro | (intro u hu; cases hu; done)))) hB (of_decide_eq_true rfl) (fun w1 hB1 kk z => ⟨kk.mono (fun i _ h => by rw [h]; exact hn), hJ.st (i := 1) rfl rfl hdk (hdn 6 rfl) (fun m a hm he => alOne_st (i := 1) (m := m) rfl rfl hm rfl he) (fun a ha h => alSt_ne (a := _) rfl (List.mem_of_getElem? (i := 1) rfl) ha (by rw [h])) rfl (fun m a hm he => alOne_al (i := 1) (m := m) rfl rfl hm he) hb hB1 kk⟩)) ?_
 refine rj_d (fun done vals w hR hcl hdk hJ hdn hd => by
   obtain ⟨b, hb, hn, hB⟩ := hJ.at (i := 2) rfl rfl hdk (hdn 7 rfl)
   exact to_storeA (n := 20) (hb : _ = Value.pointer (some ⟨b, 0, none⟩)) rfl (hd 2 rfl) (by kernel_rfl) rfl (by first | (simp [slice_one]; done) | (simp only [List.forall_mem_cons, List.cons_append, List.nil_append]; repeat' (first | exact rfl | apply And.intro | (intro u hu; cases hu; done)))) hB (of_decide_eq_true rfl) (fun w1 hB1 kk z => ⟨kk.mono (fun i _ h => by rw [h]; exact hn), hJ.st (i := 2) rfl rfl hdk (hdn 7 rfl) (fun m a hm he => alOne_st (i := 2) (m := m) rfl rfl hm rfl he) (fun a ha h => alSt_ne (a := _) rfl (List.mem_of_getElem? (i := 2) rfl) ha (by rw [h])) rfl (fun m a hm he => alOne_al (i := 2) (m := m) rfl rfl hm he) hb hB1 kk⟩)) ?_
 refine rj_d (fun done vals w hR hcl hdk hJ hdn hd => by
   obtain ⟨b, hb, hn, hB⟩ := hJ.at (i := 3) rfl rfl hdk (hdn 8 rfl)
   exact to_storeA (n := 20) (hb : _ = Value.pointer (some ⟨b, 0, none⟩)) rfl (hd 3 rfl) (by kernel_rfl) rfl (by first | (simp [slice_one]; done) | (simp only [List.forall_mem_cons, List.cons_append, List.nil_append]; repeat' (first | exact rfl | apply And.intro | (intro u hu; cases hu; done)))) hB (of_decide_eq_true rfl) (fun w1 hB1 kk z => ⟨kk.mono (fun i _ h => by rw [h]; exact hn), hJ.st (i := 3) rfl rfl hdk (hdn 8 rfl) (fun m a hm he => alOne_st (i := 3) (m := m) rfl rfl hm rfl he) (fun a ha h => alSt_ne (a := _) rfl (List.mem_of_getElem? (i := 3) rfl) ha (by rw [h])) rfl (fun m a hm he => alOne_al (i := 3) (m := m) rfl rfl hm he) hb hB1 kk⟩)) ?_
 refine rj_nil (fun vals w103 k103 J103 => ?_)
 rintro _ - rfl _ - rfl _ - rfl _ - rfl _ - rfl v4 qv4 - v5 qv5 - v6 qv6 - v7 qv7 - v8 qv8 - _ - - _ - - _ - - _ - -
 have zs_k103 := k103.size
 obtain ⟨b4, hb4, zb4, HB4⟩ := J103.fin (i := 0) rfl
 try dsimp only at HB4
 have zl4 := HB4.lt
 obtain ⟨b5, hb5, zb5, HB5⟩ := J103.fin (i := 1) rfl
 try dsimp only at HB5
 have zl5 := HB5.lt
 obtain ⟨b6, hb6, zb6, HB6⟩ := J103.fin (i := 2) rfl
 try dsimp only at HB6
 have zl6 := HB6.lt
 obtain ⟨b7, hb7, zb7, HB7⟩ := J103.fin (i := 3) rfl
 try dsimp only at HB7
 have zl7 := HB7.lt
 obtain ⟨b8, hb8, zb8, HB8⟩ := J103.fin (i := 4) rfl
 try dsimp only at HB8
 have zl8 := HB8.lt
 have ne4_5 := J103.ne (i := 0) (m := 1) rfl rfl (by dsimp only; decide) hb4 hb5
 have ne4_6 := J103.ne (i := 0) (m := 2) rfl rfl (by dsimp only; decide) hb4 hb6
 have ne4_7 := J103.ne (i := 0) (m := 3) rfl rfl (by dsimp only; decide) hb4 hb7
 have ne4_8 := J103.ne (i := 0) (m := 4) rfl rfl (by dsimp only; decide) hb4 hb8
 have ne5_6 := J103.ne (i := 1) (m := 2) rfl rfl (by dsimp only; decide) hb5 hb6
 have ne5_7 := J103.ne (i := 1) (m := 3) rfl rfl (by dsimp only; decide) hb5 hb7
 have ne5_8 := J103.ne (i := 1) (m := 4) rfl rfl (by dsimp only; decide) hb5 hb8
 have ne6_7 := J103.ne (i := 2) (m := 3) rfl rfl (by dsimp only; decide) hb6 hb7
 have ne6_8 := J103.ne (i := 2) (m := 4) rfl rfl (by dsimp only; decide) hb6 hb8
 have ne7_8 := J103.ne (i := 3) (m := 4) rfl rfl (by dsimp only; decide) hb7 hb8
 obtain rfl := qv4.trans hb4
 obtain rfl := qv5.trans hb5
 obtain rfl := qv6.trans hb6
 obtain rfl := qv7.trans hb7
 obtain rfl := qv8.trans hb8
 replace E := E.step k103 dj3
 replace HSk := HSk.keep k103 dj1
 replace HSv := HSv.keep k103 dj1
 replace HB3 := HB3.keep k103 dj4
 refine fin_nilJ ?_
 refine n_then ?_
 refine r_one (by decide +kernel) rfl ?_
 refine l_to (to_storeA (n := 20) rfl rfl (show _ = (Value.agg _) from rfl) (by kernel_rfl) rfl (by first | (simp [slice_one]; done) | (simp only [List.forall_mem_cons, List.cons_append, List.nil_append]; repeat' (first | exact rfl | apply And.intro | (intro u hu; cases hu; done)))) HB8 dj5 ?_)
 rintro w108 HB8 k108 z108
 have zs_k108 := k108.size
 try simp only [List.set_cons_zero, List.set_cons_succ, setAt, List.take_zero, List.take_succ_cons, List.drop_zero, List.drop_succ_cons, List.nil_append, List.cons_append, List.append_nil, List.length_cons, List.length_nil] at HB8
 replace E := E.step k108 dj3
 replace HSk := HSk.keep k108 dj1
 replace HSv := HSv.keep k108 dj1
 replace HB3 := HB3.keep k108 dj4
 replace HB4 := HB4.keep k108 dj4
 replace HB5 := HB5.keep k108 dj4
 replace HB6 := HB6.keep k108 dj4
 replace HB7 := HB7.keep k108 dj4
 refine l_nil ?_
 refine n_then ?_
 refine c_seq ?_
 refine wp_reg (by decide +kernel) ?_
 refine l_v (v_move (t := .slice _ _ _) rfl) ?_
 refine l_v (v_move (t := .slice _ _ _) rfl) ?_
 refine l_v (v_fieldAddr (off := 1) (ft := 27) (by kernel_rfl) rfl) ?_
 refine l_v (v_fieldAddr (off := 0) (ft := 3) (by kernel_rfl) rfl) ?_
 refine l_to (to_store rfl rfl (show _ = (Value.int _ _) from rfl) rfl (by kernel_rfl) HB4 (by simp) ?_)
 rintro w204 HB4 k204 z204
 have zs_k204 := k204.size
 try simp only [List.set_cons_zero, List.set_cons_succ, setAt, List.take_zero, List.take_succ_cons, List.drop_zero, List.drop_succ_cons, List.nil_append, List.cons_append, List.append_nil, List.length_cons, List.length_nil] at HB4
 replace E := E.step k204 dj3
 replace HSk := HSk.keep k204 dj1
 replace HSv := HSv.keep k204 dj1
 replace HB3 := HB3.keep k204 dj4
 replace HB5 := HB5.keep k204 dj4
 replace HB6 := HB6.keep k204 dj4
 replace HB7 := HB7.keep k204 dj4
 replace HB8 := HB8.keep k204 dj4
 refine l_v (v_fieldAddr (off := 10) (ft := 33) (by kernel_rfl) rfl) ?_
 refine l_v (v_fieldAddr (off := 0) (ft := 2) (by kernel_rfl) rfl) ?_
 refine l_to (to_store rfl rfl (show _ = (Value.int _ _) from rfl) rfl (by kernel_rfl) HB5 (by simp) ?_)
 rintro w205 HB5 k205 z205
 have zs_k205 := k205.size
 try simp only [List.set_cons_zero, List.set_cons_succ, setAt, List.take_zero, List.take_succ_cons, List.drop_zero, List.drop_succ_cons, List.nil_append, List.cons_append, List.append_nil, List.length_cons, List.length_nil] at HB5
 replace E := E.step k205 dj3
 replace HSk := HSk.keep k205 dj1
 replace HSv := HSv.keep k205 dj1
 replace HB3 := HB3.keep k205 dj4
 replace HB6 := HB6.keep k205 dj4
 replace HB7 := HB7.keep k205 dj4
 replace HB8 := HB8.keep k205 dj4
 replace HB4 := HB4.keep k205 dj4
 refine l_v (v_fieldAddr (off := 18) (ft := 23) (by kernel_rfl) rfl) ?_
 refine l_to (to_store rfl rfl (show _ = (Value.slice _ _ _) from rfl) rfl (by kernel_rfl) HB6 (by simp) ?_)
 rintro w206 HB6 k206 z206
 have zs_k206 := k206.size
 try simp only [List.set_cons_zero, List.set_cons_succ, setAt, List.take_zero, List.take_succ_cons, List.drop_zero, List.drop_succ_cons, List.nil_append, List.cons_append, List.append_nil, List.length_cons, List.length_nil] at HB6
 replace E := E.step k206 dj3
 replace HSk := HSk.keep k206 dj1
 replace HSv := HSv.keep k206 dj1
 replace HB3 := HB3.keep k206 dj4
 replace HB7 := HB7.keep k206 dj4
 replace HB8 := HB8.keep k206 dj4
 replace HB4 := HB4.keep k206 dj4
 replace HB5 := HB5.keep k206 dj4
 refine l_v (v_fieldAddr (off := 19) (ft := 3) (by kernel_rfl) rfl) ?_
 refine l_to (to_store rfl rfl (show _ = (Value.int _ _) from rfl) rfl (by kernel_rfl) HB7 (by simp) ?_)
 rintro w207 HB7 k207 z207
 have zs_k207 := k207.size
 try simp only [List.set_cons_zero, List.set_cons_succ, setAt, List.take_zero, List.take_succ_cons, List.drop_zero, List.drop_succ_cons, List.nil_append, List.cons_append, List.append_nil, List.length_cons, List.length_nil] at HB7
 replace E := E.step k207 dj3
 replace HSk := HSk.keep k207 dj1
 replace HSv := HSv.keep k207 dj1
 replace HB3 := HB3.keep k207 dj4
 replace HB8 := HB8.keep k207 dj4
 replace HB4 := HB4.keep k207 dj4
 replace HB5 := HB5.keep k207 dj4
 replace HB6 := HB6.keep k207 dj4
 refine l_v (v_fieldAddr (off := 17) (ft := 23) (by kernel_rfl) rfl) ?_
 refine l_to (to_store rfl rfl (show _ = (Value.slice _ _ _) from rfl) rfl (by kernel_rfl) HB8 (by simp) ?_)
 rintro w208 HB8 k208 z208
 have zs_k208 := k208.size
 try simp only [List.set_cons_zero, List.set_cons_succ, setAt, List.take_zero, List.take_succ_cons, List.drop_zero, List.drop_succ_cons, List.nil_append, List.cons_append, List.append_nil, List.length_cons, List.length_nil] at HB8
 replace E := E.step k208 dj3
 replace HSk := HSk.keep k208 dj1
 replace HSv := HSv.keep k208 dj1
 replace HB3 := HB3.keep k208 dj4
 replace HB4 := HB4.keep k208 dj4
 replace HB5 := HB5.keep k208 dj4
 replace HB6 := HB6.keep k208 dj4
 replace HB7 := HB7.keep k208 dj4
 refine l_nil ?_
 refine n_then ?_
 refine c_seq ?_
 refine wp_any (by kernel_rfl) ?_
 have e104 : Ext w208 { w208 with drawn := w208.drawn + 1 } := Keep.drawn _ _
 generalize hw104 : ({ w208 with drawn := w208.drawn + 1 } : World) = w104 at e104 ⊢
 clear hw104
 have zs_e104 := e104.size
 replace E := E.trans (Ext.keep e104)
 replace HSk := HSk.ext e104
 replace HSv := HSv.ext e104
 replace HB3 := HB3.ext e104
 replace HB4 := HB4.ext e104
 replace HB5 := HB5.ext e104
 replace HB6 := HB6.ext e104
 replace HB7 := HB7.ext e104
 replace HB8 := HB8.ext e104
 refine r_cut 12 rfl (by decide +kernel) (by decide +kernel) (by decide +kernel) ?_
 refine wp_regdW (NoK) (by decide +kernel) (by decide +kernel) ?_
 refine rt_v (fun vals w hR hd => v_loadA (by kernel_rfl) rfl (by first | exact (HB8.ext hR).pv | exact (HB7.ext hR).pv | exact (HB6.ext hR).pv | exact (HB5.ext hR).pv | exact (HB4.ext hR).pv | exact (HB3.ext hR).pv | assumption) rfl) ?_
 refine rt_v (fun vals w hR hd => v_loadA (by kernel_rfl) rfl (by first | exact (HB8.ext hR).pv | exact (HB7.ext hR).pv | exact (HB6.ext hR).pv | exact (HB5.ext hR).pv | exact (HB4.ext hR).pv | exact (HB3.ext hR).pv | assumption) rfl) ?_
 refine rt_v (fun vals w hR hd => v_loadA (by kernel_rfl) rfl (by first | exact (HB8.ext hR).pv | exact (HB7.ext hR).pv | exact (HB6.ext hR).pv | exact (HB5.ext hR).pv | exact (HB4.ext hR).pv | exact (HB3.ext hR).pv | assumption) rfl) ?_
 refine rt_v (fun vals w hR hd => v_loadA (by kernel_rfl) rfl (by first | exact (HB8.ext hR).pv | exact (HB7.ext hR).pv | exact (HB6.ext hR).pv | exact (HB5.ext hR).pv | exact (HB4.ext hR).pv | exact (HB3.ext hR).pv | assumption) rfl) ?_
 refine rt_v (fun vals w hR hd => v_loadA (by kernel_rfl) rfl (by first | exact (HB8.ext hR).pv | exact (HB7.ext hR).pv | exact (HB6.ext hR).pv | exact (HB5.ext hR).pv | exact (HB4.ext hR).pv | exact (HB3.ext hR).pv | assumption) rfl) ?_
 refine rt_v (fun vals w hR hd => v_build (pl := [(0, 1), (1, 9), (10, 6), (16, 1), (17, 1), (18, 1), (19, 1)]) (z := .agg #[.int .i64 0, .int .i64 0, .int .i64 0, .int .i64 0, .slice none 0 0, .slice none 0 0, .slice none 0 0, .slice none 0 0, .bool false, .int .i64 0, .int .i64 0, .slice none 0 0, .slice none 0 0, .bool false, .int .i64 0, .int .i64 0, .slice none 0 0, .slice none 0 0, .slice none 0 0, .int .i64 0]) (zl := [.int .i64 0, .int .i64 0, .int .i64 0, .int .i64 0, .slice none 0 0, .slice none 0 0, .slice none 0 0, .slice none 0 0, .bool false, .int .i64 0, .int .i64 0, .slice none 0 0, .slice none 0 0, .bool false, .int .i64 0, .int .i64 0, .slice none 0 0, .slice none 0 0, .slice none 0 0, .int .i64 0]) (by kernel_rfl) (by unfold kZero; kernel_rfl) rfl rfl (cells := [_, _, _, _, _, _, _, _, _, _, _, _, _, _, _, _, _, _, _, _]) rfl) ?_
 refine rt_v (fun vals w hR hd => v_build (pl := [(0, 1), (1, 9), (10, 6), (16, 1), (17, 1), (18, 1), (19, 1)]) (z := .agg #[.int .i64 0, .int .i64 0, .int .i64 0, .int .i64 0, .slice none 0 0, .slice none 0 0, .slice none 0 0, .slice none 0 0, .bool false, .int .i64 0, .int .i64 0, .slice none 0 0, .slice none 0 0, .bool false, .int .i64 0, .int .i64 0, .slice none 0 0, .slice none 0 0, .slice none 0 0, .int .i64 0]) (zl := [.int .i64 0, .int .i64 0, .int .i64 0, .int .i64 0, .slice none 0 0, .slice none 0 0, .slice none 0 0, .slice none 0 0, .bool false, .int .i64 0, .int .i64 0, .slice none 0 0, .slice none 0 0, .bool false, .int .i64 0, .int .i64 0, .slice none 0 0, .slice none 0 0, .slice none 0 0, .int .i64 0]) (by kernel_rfl) (by unfold kZero; kernel_rfl) rfl rfl (cells := [_, _, _, _, _, _, _, _, _, _, _, _, _, _, _, _, _, _, _, _]) rfl) ?_
 refine rt_v (fun vals w hR hd => v_build (pl := [(0, 1), (1, 9), (10, 6), (16, 1), (17, 1), (18, 1), (19, 1)]) (z := .agg #[.int .i64 0, .int .i64 0, .int .i64 0, .int .i64 0, .slice none 0 0, .slice none 0 0, .slice none 0 0, .slice none 0 0, .bool false, .int .i64 0, .int .i64 0, .slice none 0 0, .slice none 0 0, .bool false, .int .i64 0, .int .i64 0, .slice none 0 0, .slice none 0 0, .slice none 0 0, .int .i64 0]) (zl := [.int .i64 0, .int .i64 0, .int .i64 0, .int .i64 0, .slice none 0 0, .slice none 0 0, .slice none 0 0, .slice none 0 0, .bool false, .int .i64 0, .int .i64 0, .slice none 0 0, .slice none 0 0, .bool false, .int .i64 0, .int .i64 0, .slice none 0 0, .slice none 0 0, .slice none 0 0, .int .i64 0]) (by kernel_rfl) (by unfold kZero; kernel_rfl) rfl rfl (cells := [_, _, _, _, _, _, _, _, _, _, _, _, _, _, _, _, _, _, _, _]) rfl) ?_
 refine rt_to (fun v W => Bv W AllB v (List.replicate 25 (0 : UInt8))) (fun v w w' h k => h.ext k) (fun vals w hR hd => to_makeA (et := 5) (bytes := 1) (by kernel_rfl) (t := tU8) (z := 0) (n := 25) (zv := .int .u8 0) rfl rfl (by omega) (by simp only [maxLen]; omega) (by unfold kZero; kernel_rfl) rfl (fun _ _ => rfl) (fun b w1 hb HO e z => ⟨e, HO.view.allB⟩)) ?_
 refine rt_to (fun v W => ∃ u, v = .agg #[.int .i64 6, .int .i64 0, .int .i64 0, .int .i64 0, .slice none 0 0, .slice none 0 0, .slice none 0 0, .slice none 0 0, .bool false, .int .i64 0, .int .i64 0, .slice none 0 0, .slice none 0 0, .bool false, .int .i64 0, .int .i64 0, .slice none 0 0, .slice none 0 0, u, .int .i64 0] ∧ Bv W AllB u (List.replicate 25 (0 : UInt8))) (fun v w w' h k => by obtain ⟨u, h1, h2⟩ := h; exact ⟨u, h1, h2.ext k⟩) (fun vals w hR hd => OpTo.of_v (v_build (pl := [(0, 1), (1, 9), (10, 6), (16, 1), (17, 1), (18, 1), (19, 1)]) (z := .agg #[.int .i64 0, .int .i64 0, .int .i64 0, .int .i64 0, .slice none 0 0, .slice none 0 0, .slice none 0 0, .slice none 0 0, .bool false, .int .i64 0, .int .i64 0, .slice none 0 0, .slice none 0 0, .bool false, .int .i64 0, .int .i64 0, .slice none 0 0, .slice none 0 0, .slice none 0 0, .int .i64 0]) (zl := [.int .i64 0, .int .i64 0, .int .i64 0, .int .i64 0, .slice none 0 0, .slice none 0 0, .slice none 0 0, .slice none 0 0, .bool false, .int .i64 0, .int .i64 0, .slice none 0 0, .slice none 0 0, .bool false, .int .i64 0, .int .i64 0, .slice none 0 0, .slice none 0 0, .slice none 0 0, .int .i64 0]) (ps := [(0, .int .i64 6), (5, vals 8)]) (by kernel_rfl) (by unfold kZero; kernel_rfl) rfl (partsB rfl rfl) (cells := [.int .i64 6, .int .i64 0, .int .i64 0, .int .i64 0, .slice none 0 0, .slice none 0 0, .slice none 0 0, .slice none 0 0, .bool false, .int .i64 0, .int .i64 0, .slice none 0 0, .slice none 0 0, .bool false, .int .i64 0, .int .i64 0, .slice none 0 0, .slice none 0 0, vals 8, .int .i64 0]) (by have h1 := SlV.one (show Bv _ AllB _ (List.replicate 25 (0 : UInt8)) from hd 8 rfl); simp [fillL, one_cells h1, setAt, cells_int])) ⟨Keep.refl _, _, rfl, (show Bv _ AllB _ (List.replicate 25 (0 : UInt8)) from hd 8 rfl)⟩) ?_
 refine rt_v (fun vals w hR hd => v_build (pl := [(0, 1), (1, 9), (10, 6), (16, 1), (17, 1), (18, 1), (19, 1)]) (z := .agg #[.int .i64 0, .int .i64 0, .int .i64 0, .int .i64 0, .slice none 0 0, .slice none 0 0, .slice none 0 0, .slice none 0 0, .bool false, .int .i64 0, .int .i64 0, .slice none 0 0, .slice none 0 0, .bool false, .int .i64 0, .int .i64 0, .slice none 0 0, .slice none 0 0, .slice none 0 0, .int .i64 0]) (zl := [.int .i64 0, .int .i64 0, .int .i64 0, .int .i64 0, .slice none 0 0, .slice none 0 0, .slice none 0 0, .slice none 0 0, .bool false, .int .i64 0, .int .i64 0, .slice none 0 0, .slice none 0 0, .bool false, .int .i64 0, .int .i64 0, .slice none 0 0, .slice none 0 0, .slice none 0 0, .int .i64 0]) (by kernel_rfl) (by unfold kZero; kernel_rfl) rfl rfl (cells := [_, _, _, _, _, _, _, _, _, _, _, _, _, _, _, _, _, _, _, _]) rfl) ?_
 refine rt_v (fun vals w hR hd => v_build (pl := [(0, 1), (1, 9), (10, 6), (16, 1), (17, 1), (18, 1), (19, 1)]) (z := .agg #[.int .i64 0, .int .i64 0, .int .i64 0, .int .i64 0, .slice none 0 0, .slice none 0 0, .slice none 0 0, .slice none 0 0, .bool false, .int .i64 0, .int .i64 0, .slice none 0 0, .slice none 0 0, .bool false, .int .i64 0, .int .i64 0, .slice none 0 0, .slice none 0 0, .slice none 0 0, .int .i64 0]) (zl := [.int .i64 0, .int .i64 0, .int .i64 0, .int .i64 0, .slice none 0 0, .slice none 0 0, .slice none 0 0, .slice none 0 0, .bool false, .int .i64 0, .int .i64 0, .slice none 0 0, .slice none 0 0, .bool false, .int .i64 0, .int .i64 0, .slice none 0 0, .slice none 0 0, .slice none 0 0, .int .i64 0]) (by kernel_rfl) (by unfold kZero; kernel_rfl) rfl rfl (cells := [_, _, _, _, _, _, _, _, _, _, _, _, _, _, _, _, _, _, _, _]) rfl) ?_
 refine rt_nil (fun w105 e105 => ?_)
 rintro _ rfl _ rfl _ rfl _ rfl _ rfl _ rfl _ rfl _ rfl v46 hs46 v47 hs47 _ rfl _ rfl
 have zs_e105 := e105.size
 have hs47 : ∃ u, v47 = .agg #[.int .i64 6, .int .i64 0, .int .i64 0, .int .i64 0, .slice none 0 0, .slice none 0 0, .slice none 0 0, .slice none 0 0, .bool false, .int .i64 0, .int .i64 0, .slice none 0 0, .slice none 0 0, .bool false, .int .i64 0, .int .i64 0, .slice none 0 0, .slice none 0 0, u, .int .i64 0] ∧ Bv _ AllB u (List.replicate 25 (0 : UInt8)) := hs47
 obtain ⟨u47, rfl, hu47⟩ := hs47
 obtain ⟨a47, c47, rfl⟩ := hu47.shape
 replace E := E.trans (Ext.keep e105)
 replace HSk := HSk.ext e105
 replace HSv := HSv.ext e105
 replace HB3 := HB3.ext e105
 replace HB4 := HB4.ext e105
 replace HB5 := HB5.ext e105
 replace HB6 := HB6.ext e105
 replace HB7 := HB7.ext e105
 replace HB8 := HB8.ext e105
 refine fin_nil ?_
 refine n_then ?_
 refine r_cut 1 rfl (by decide +kernel) (by decide +kernel) (by decide +kernel) ?_
 refine r_one (by decide +kernel) rfl ?_
 refine l_to (to_sliceN (t := tCm) (xs := bL) (et := 36) (bytes := 304) (zl := [.int .i64 0, .int .i64 0, .int .i64 0, .int .i64 0, .slice none 0 0, .slice none 0 0, .slice none 0 0, .slice none 0 0, .bool false, .int .i64 0, .int .i64 0, .slice none 0 0, .slice none 0 0, .bool false, .int .i64 0, .int .i64 0, .slice none 0 0, .slice none 0 0, .slice none 0 0, .int .i64 0, .int .i64 0, .int .i64 0, .int .i64 0, .int .i64 0, .slice none 0 0, .slice none 0 0, .slice none 0 0, .slice none 0 0, .bool false, .int .i64 0, .int .i64 0, .slice none 0 0, .slice none 0 0, .bool false, .int .i64 0, .int .i64 0, .slice none 0 0, .slice none 0 0, .slice none 0 0, .int .i64 0, .int .i64 0, .int .i64 0, .int .i64 0, .int .i64 0, .slice none 0 0, .slice none 0 0, .slice none 0 0, .slice none 0 0, .bool false, .int .i64 0, .int .i64 0, .slice none 0 0, .slice none 0 0, .bool false, .int .i64 0, .int .i64 0, .slice none 0 0, .slice none 0 0, .slice none 0 0, .int .i64 0, .int .i64 0, .int .i64 0, .int .i64 0, .int .i64 0, .slice none 0 0, .slice none 0 0, .slice none 0 0, .slice none 0 0, .bool false, .int .i64 0, .int .i64 0, .slice none 0 0, .slice none 0 0, .bool false, .int .i64 0, .int .i64 0, .slice none 0 0, .slice none 0 0, .slice none 0 0, .int .i64 0, .int .i64 0, .int .i64 0, .int .i64 0, .int .i64 0, .slice none 0 0, .slice none 0 0, .slice none 0 0, .slice none 0 0, .bool false, .int .i64 0, .int .i64 0, .slice none 0 0, .slice none 0 0, .bool false, .int .i64 0, .int .i64 0, .slice none 0 0, .slice none 0 0, .slice none 0 0, .int .i64 0, .int .i64 0, .int .i64 0, .int .i64 0, .int .i64 0, .slice none 0 0, .slice none 0 0, .slice none 0 0, .slice none 0 0, .bool false, .int .i64 0, .int .i64 0, .slice none 0 0, .slice none 0 0, .bool false, .int .i64 0, .int .i64 0, .slice none 0 0, .slice none 0 0, .slice none 0 0, .int .i64 0, .int .i64 0, .int .i64 0, .int .i64 0, .int .i64 0, .slice none 0 0, .slice none 0 0, .slice none 0 0, .slice none 0 0, .bool false, .int .i64 0, .int .i64 0, .slice none 0 0, .slice none 0 0, .bool false, .int .i64 0, .int .i64 0, .slice none 0 0, .slice none 0 0, .slice none 0 0, .int .i64 0, .int .i64 0, .int .i64 0, .int .i64 0, .int .i64 0, .slice none 0 0, .slice none 0 0, .slice none 0 0, .slice none 0 0, .bool false, .int .i64 0, .int .i64 0, .slice none 0 0, .slice none 0 0, .bool false, .int .i64 0, .int .i64 0, .slice none 0 0, .slice none 0 0, .slice none 0 0, .int .i64 0, .int .i64 0, .int .i64 0, .int .i64 0, .int .i64 0, .slice none 0 0, .slice none 0 0, .slice none 0 0, .slice none 0 0, .bool false, .int .i64 0, .int .i64 0, .slice none 0 0, .slice none 0 0, .bool false, .int .i64 0, .int .i64 0, .slice none 0 0, .slice none 0 0, .slice none 0 0, .int .i64 0, .int .i64 0, .int .i64 0, .int .i64 0, .int .i64 0, .slice none 0 0, .slice none 0 0, .slice none 0 0, .slice none 0 0, .bool false, .int .i64 0, .int .i64 0, .slice none 0 0, .slice none 0 0, .bool false, .int .i64 0, .int .i64 0, .slice none 0 0, .slice none 0 0, .slice none 0 0, .int .i64 0, .int .i64 0, .int .i64 0, .int .i64 0, .int .i64 0, .slice none 0 0, .slice none 0 0, .slice none 0 0, .slice none 0 0, .bool false, .int .i64 0, .int .i64 0, .slice none 0 0, .slice none 0 0, .bool false, .int .i64 0, .int .i64 0, .slice none 0 0, .slice none 0 0, .slice none 0 0, .int .i64 0]) (by kernel_rfl) (by decide) (by decide) (by unfold kZeros; kernel_rfl) rfl (cells := ([[.int .i64 1, .int .i64 1, .int .i64 0, .int .i64 0, .slice none 0 0, .slice none 0 0, .slice none 0 0, .slice none 0 0, .bool false, .int .i64 0, .int .i64 0, .slice none 0 0, .slice none 0 0, .bool false, .int .i64 0, .int .i64 0, .slice none 0 0, .slice none 0 0, .slice none 0 0, .int .i64 0], [.int .i64 1, .int .i64 0, .int .i64 0, .int .i64 0, .slice none 0 0, .slice none 0 0, .slice none 0 0, .slice none 0 0, .bool false, .int .i64 0, .int .i64 1, .slice none 0 0, .slice none 0 0, .bool false, .int .i64 0, .int .i64 0, .slice none 0 0, .slice none 0 0, .slice none 0 0, .int .i64 0], [.int .i64 1, .int .i64 0, .int .i64 0, .int .i64 0, .slice none 0 0, .slice none 0 0, .slice none 0 0, .slice none 0 0, .bool false, .int .i64 0, .int .i64 0, .slice none 0 0, .slice none 0 0, .bool false, .int .i64 0, .int .i64 0, .slice none 0 0, .slice none 0 0, .slice a21 24 c21, .int .i64 0], [.int .i64 1, .int .i64 0, .int .i64 0, .int .i64 0, .slice none 0 0, .slice none 0 0, .slice none 0 0, .slice none 0 0, .bool false, .int .i64 0, .int .i64 0, .slice none 0 0, .slice none 0 0, .bool false, .int .i64 0, .int .i64 0, .slice none 0 0, .slice none 0 0, .slice none 0 0, .int .i64 1], [.int .i64 1, .int .i64 0, .int .i64 0, .int .i64 0, .slice none 0 0, .slice none 0 0, .slice none 0 0, .slice none 0 0, .bool false, .int .i64 0, .int .i64 0, .slice none 0 0, .slice none 0 0, .bool false, .int .i64 0, .int .i64 0, .slice none 0 0, .slice a22 40 c22, .slice none 0 0, .int .i64 0], [.int .i64 0, .int .i64 0, .int .i64 0, .int .i64 0, .slice none 0 0, .slice none 0 0, .slice none 0 0, .slice none 0 0, .bool false, .int .i64 0, .int .i64 0, .slice none 0 0, .slice none 0 0, .bool false, .int .i64 0, .int .i64 0, .slice none 0 0, .slice none 0 0, .slice none 0 0, .int .i64 0], [.int .i64 11, .int .i64 0, .int .i64 0, .int .i64 0, .slice none 0 0, .slice none 0 0, .slice none 0 0, .slice none 0 0, .bool false, .int .i64 0, .int .i64 0, .slice none 0 0, .slice none 0 0, .bool false, .int .i64 0, .int .i64 0, .slice none 0 0, .slice none 0 0, .slice none 0 0, .int .i64 0], [.int .i64 6, .int .i64 0, .int .i64 0, .int .i64 0, .slice none 0 0, .slice none 0 0, .slice none 0 0, .slice none 0 0, .bool false, .int .i64 0, .int .i64 0, .slice none 0 0, .slice none 0 0, .bool false, .int .i64 0, .int .i64 0, .slice none 0 0, .slice none 0 0, .slice none 0 0, .int .i64 0], [.int .i64 6, .int .i64 0, .int .i64 0, .int .i64 0, .slice none 0 0, .slice none 0 0, .slice none 0 0, .slice none 0 0, .bool false, .int .i64 0, .int .i64 0, .slice none 0 0, .slice none 0 0, .bool false, .int .i64 0, .int .i64 0, .slice none 0 0, .slice none 0 0, .slice a47 25 c47, .int .i64 0], [.int .i64 8, .int .i64 0, .int .i64 0, .int .i64 0, .slice none 0 0, .slice none 0 0, .slice none 0 0, .slice none 0 0, .bool false, .int .i64 0, .int .i64 0, .slice none 0 0, .slice none 0 0, .bool false, .int .i64 0, .int .i64 0, .slice none 0 0, .slice none 0 0, .slice none 0 0, .int .i64 5], [.int .i64 8, .int .i64 0, .int .i64 0, .int .i64 0, .slice none 0 0, .slice none 0 0, .slice none 0 0, .slice none 0 0, .bool false, .int .i64 0, .int .i64 0, .slice none 0 0, .slice none 0 0, .bool false, .int .i64 0, .int .i64 0, .slice none 0 0, .slice none 0 0, .slice none 0 0, .int .i64 0]] : List (List Value)).flatten) (by kernel_rfl) (by kernel_rfl) (by kernel_rfl) ((allRep.reps (F := AllB) (css := [[.int .i64 1, .int .i64 1, .int .i64 0, .int .i64 0, .slice none 0 0, .slice none 0 0, .slice none 0 0, .slice none 0 0, .bool false, .int .i64 0, .int .i64 0, .slice none 0 0, .slice none 0 0, .bool false, .int .i64 0, .int .i64 0, .slice none 0 0, .slice none 0 0, .slice none 0 0, .int .i64 0], [.int .i64 1, .int .i64 0, .int .i64 0, .int .i64 0, .slice none 0 0, .slice none 0 0, .slice none 0 0, .slice none 0 0, .bool false, .int .i64 0, .int .i64 1, .slice none 0 0, .slice none 0 0, .bool false, .int .i64 0, .int .i64 0, .slice none 0 0, .slice none 0 0, .slice none 0 0, .int .i64 0], [.int .i64 1, .int .i64 0, .int .i64 0, .int .i64 0, .slice none 0 0, .slice none 0 0, .slice none 0 0, .slice none 0 0, .bool false, .int .i64 0, .int .i64 0, .slice none 0 0, .slice none 0 0, .bool false, .int .i64 0, .int .i64 0, .slice none 0 0, .slice none 0 0, .slice a21 24 c21, .int .i64 0], [.int .i64 1, .int .i64 0, .int .i64 0, .int .i64 0, .slice none 0 0, .slice none 0 0, .slice none 0 0, .slice none 0 0, .bool false, .int .i64 0, .int .i64 0, .slice none 0 0, .slice none 0 0, .bool false, .int .i64 0, .int .i64 0, .slice none 0 0, .slice none 0 0, .slice none 0 0, .int .i64 1], [.int .i64 1, .int .i64 0, .int .i64 0, .int .i64 0, .slice none 0 0, .slice none 0 0, .slice none 0 0, .slice none 0 0, .bool false, .int .i64 0, .int .i64 0, .slice none 0 0, .slice none 0 0, .bool false, .int .i64 0, .int .i64 0, .slice none 0 0, .slice a22 40 c22, .slice none 0 0, .int .i64 0], [.int .i64 0, .int .i64 0, .int .i64 0, .int .i64 0, .slice none 0 0, .slice none 0 0, .slice none 0 0, .slice none 0 0, .bool false, .int .i64 0, .int .i64 0, .slice none 0 0, .slice none 0 0, .bool false, .int .i64 0, .int .i64 0, .slice none 0 0, .slice none 0 0, .slice none 0 0, .int .i64 0], [.int .i64 11, .int .i64 0, .int .i64 0, .int .i64 0, .slice none 0 0, .slice none 0 0, .slice none 0 0, .slice none 0 0, .bool false, .int .i64 0, .int .i64 0, .slice none 0 0, .slice none 0 0, .bool false, .int .i64 0, .int .i64 0, .slice none 0 0, .slice none 0 0, .slice none 0 0, .int .i64 0], [.int .i64 6, .int .i64 0, .int .i64 0, .int .i64 0, .slice none 0 0, .slice none 0 0, .slice none 0 0, .slice none 0 0, .bool false, .int .i64 0, .int .i64 0, .slice none 0 0, .slice none 0 0, .bool false, .int .i64 0, .int .i64 0, .slice none 0 0, .slice none 0 0, .slice none 0 0, .int .i64 0], [.int .i64 6, .int .i64 0, .int .i64 0, .int .i64 0, .slice none 0 0, .slice none 0 0, .slice none 0 0, .slice none 0 0, .bool false, .int .i64 0, .int .i64 0, .slice none 0 0, .slice none 0 0, .bool false, .int .i64 0, .int .i64 0, .slice none 0 0, .slice none 0 0, .slice a47 25 c47, .int .i64 0], [.int .i64 8, .int .i64 0, .int .i64 0, .int .i64 0, .slice none 0 0, .slice none 0 0, .slice none 0 0, .slice none 0 0, .bool false, .int .i64 0, .int .i64 0, .slice none 0 0, .slice none 0 0, .bool false, .int .i64 0, .int .i64 0, .slice none 0 0, .slice none 0 0, .slice none 0 0, .int .i64 5], [.int .i64 8, .int .i64 0, .int .i64 0, .int .i64 0, .slice none 0 0, .slice none 0 0, .slice none 0 0, .slice none 0 0, .bool false, .int .i64 0, .int .i64 0, .slice none 0 0, .slice none 0 0, .bool false, .int .i64 0, .int .i64 0, .slice none 0 0, .slice none 0 0, .slice none 0 0, .int .i64 0]]) (xs := bL) ⟨tCm_mk ⟨by decide, by decide⟩ (AgV.mkRq ak0_ag.rep ⟨by decide, by decide⟩ ⟨by decide, by decide⟩).rep mv0_ag.rep (SlV.nil _ _ _) (SlV.nil _ _ _) (SlV.nil _ _ _) ⟨by decide, by decide⟩, tCm_mk ⟨by decide, by decide⟩ rq0_ag.rep (tMv_mk (SlV.nil _ _ _) (SlV.nil _ _ _) ⟨by decide, by decide⟩ ⟨by decide, by decide⟩ ⟨by decide, by decide⟩) (SlV.nil _ _ _) (SlV.nil _ _ _) (SlV.nil _ _ _) ⟨by decide, by decide⟩, tCm_mk ⟨by decide, by decide⟩ rq0_ag.rep mv0_ag.rep (SlV.nil _ _ _) (SlV.nil _ _ _) HSk.allB ⟨by decide, by decide⟩, tCm_mk ⟨by decide, by decide⟩ rq0_ag.rep mv0_ag.rep (SlV.nil _ _ _) (SlV.nil _ _ _) (SlV.nil _ _ _) ⟨by decide, by decide⟩, tCm_mk ⟨by decide, by decide⟩ rq0_ag.rep mv0_ag.rep (SlV.nil _ _ _) HSv.allB (SlV.nil _ _ _) ⟨by decide, by decide⟩, tCm_mk ⟨by decide, by decide⟩ rq0_ag.rep mv0_ag.rep (SlV.nil _ _ _) (SlV.nil _ _ _) (SlV.nil _ _ _) ⟨by decide, by decide⟩, tCm_mk ⟨by decide, by decide⟩ rq0_ag.rep mv0_ag.rep (SlV.nil _ _ _) (SlV.nil _ _ _) (SlV.nil _ _ _) ⟨by decide, by decide⟩, tCm_mk ⟨by decide, by decide⟩ rq0_ag.rep mv0_ag.rep (SlV.nil _ _ _) (SlV.nil _ _ _) (SlV.nil _ _ _) ⟨by decide, by decide⟩, tCm_mk ⟨by decide, by decide⟩ rq0_ag.rep mv0_ag.rep (SlV.nil _ _ _) (SlV.nil _ _ _) hu47 ⟨by decide, by decide⟩, tCm_mk ⟨by decide, by decide⟩ rq0_ag.rep mv0_ag.rep (SlV.nil _ _ _) (SlV.nil _ _ _) (SlV.nil _ _ _) ⟨by decide, by decide⟩, tCm_mk ⟨by decide, by decide⟩ rq0_ag.rep mv0_ag.rep (SlV.nil _ _ _) (SlV.nil _ _ _) (SlV.nil _ _ _) ⟨by decide, by decide⟩, trivial⟩)) ?_)
 rintro b50 w50 zb50 HO50 e50 z50
 have zs_e50 := e50.size
 replace E := E.trans (Ext.keep e50)
 replace HSk := HSk.ext e50
 replace HSv := HSv.ext e50
 replace HB3 := HB3.ext e50
 replace HB4 := HB4.ext e50
 replace HB5 := HB5.ext e50
 replace HB6 := HB6.ext e50
 replace HB7 := HB7.ext e50
 replace HB8 := HB8.ext e50
 have zo_HO50 := fun (b : Nat) h => HO50.own_lt (b := b) h
 refine l_nil ?_
 refine n_then ?_
 refine r_one (by decide +kernel) rfl ?_
 refine l_v (v_assign (t := .slice _ _ _) rfl) ?_
 refine l_nil ?_
 refine n_then ?_
 refine c_seq ?_
 refine c_seq ?_
 refine wp_reg (by decide +kernel) ?_
 refine l_v (v_assign rfl) ?_
 refine l_nil ?_
 refine n_then ?_
 refine c_block ?_
 refine c_loop (τ := Nat) [0, 10, 11, 12, 51, 52, 53, 54, 55, 56, 57, 58, 59, 60, 61, 62, 63, 64, 65, 66, 67, 68, 69, 70, 71, 72, 73, 74] (fun i => [(10, .int .i64 i)]) (fun i W => Ext w W ∧ Keep (NoK) w50 W ∧ i ≤ 11) (fun i => 11 - i) 0 (by exact ⟨rfl, trivial⟩) (by exact ⟨E, Keep.refl _, Nat.zero_le _⟩) ?_
 rintro i w106 j ⟨E, EL1, h1⟩
 have zs_EL1 := EL1.size
 replace HSk := HSk.ext EL1
 replace HSv := HSv.ext EL1
 replace HB3 := HB3.ext EL1
 replace HB4 := HB4.ext EL1
 replace HB5 := HB5.ext EL1
 replace HB6 := HB6.ext EL1
 replace HB7 := HB7.ext EL1
 replace HB8 := HB8.ext EL1
 replace HO50 := HO50.ext EL1
 refine c_seq ?_
 refine c_seq ?_
 refine wp_reg (by decide +kernel) ?_
 refine l_v (v_move (t := .int _ _) rfl) ?_
 refine l_v (v_move (t := .slice _ _ _) rfl) ?_
 refine l_v (v_len (et := 36) (by kernel_rfl) rfl) ?_
 refine l_v (v_lss rfl rfl) ?_
 refine l_nil ?_
 refine n_then ?_
 refine c_cond rfl rfl (fun hlt => ?_) (fun hlt => ?_)
 ·
  have hlt : i < 11 := by have := dtrue hlt; omega
  obtain ⟨m, hx, _⟩ := getE (l := bL) (i := i) (by have : bL.length = 11 := rfl; omega)
  have hno := bL_no m (List.mem_of_getElem? hx)
  obtain ⟨q, cs, hq, hF, _, HPq, hr⟩ := HO50.view.el hx
  cases hq
  have HGq : AgV tCm _ _ _ m := ⟨cs, rfl, hr⟩
  obtain ⟨x0, x1, x2, x3, x4, x5, x6, x7, x8, x9, x10, x11, x12, x13, x14, x15, x16, x17, x18, x19, hcs⟩ := HGq.cm20
  obtain rfl : cs = [x0, x1, x2, x3, x4, x5, x6, x7, x8, x9, x10, x11, x12, x13, x14, x15, x16, x17, x18, x19] := by have := congrArg Array.toList (Value.agg.inj hcs); simpa using this
  refine c_skip ?_
  refine n_then ?_
  refine c_seq ?_
  refine c_block ?_
  refine c_seq ?_
  refine wp_reg (by decide +kernel) ?_
  refine l_v (v_move (t := .slice _ _ _) rfl) ?_
  refine l_v (v_move (t := .int _ _) rfl) ?_
  refine l_v (v_indexAddr (et := 36) (sz := 20) (k := i) (by kernel_rfl) (by kernel_rfl) rfl rfl (by first | rfl | omega) (by omega)) ?_
  refine l_v (v_loadA (by kernel_rfl) rfl (by first | exact HPq | exact HB8.pv | exact HB7.pv | exact HB6.pv | exact HB5.pv | exact HB4.pv | exact HB3.pv | assumption) rfl) ?_
  refine l_to (to_f1 (by kernel_rfl) (show _ = (Value.agg _) from rfl) (CallsR.mono (CBytes_f HGq hno) ?_))
  rintro _ w60 ⟨rfl, e60⟩
  have zs_e60 := e60.size
  replace E := E.trans (Ext.keep e60)
  replace HSk := HSk.ext e60
  replace HSv := HSv.ext e60
  replace HB3 := HB3.ext e60
  replace HB4 := HB4.ext e60
  replace HB5 := HB5.ext e60
  replace HB6 := HB6.ext e60
  replace HB7 := HB7.ext e60
  replace HB8 := HB8.ext e60
  replace HO50 := HO50.ext e60
  replace EL1 := EL1.trans (Ext.keep e60)
  replace HPq := HPq.ext e60
  replace HGq := HGq.ext e60
  refine l_v (v_move (t := .tuple _) rfl) ?_
  refine l_v (v_extract (t := .slice _ _ _) rfl rfl) ?_
  refine l_v (v_extract (t := .int _ _) rfl rfl) ?_
  refine l_v (v_assign (t := .slice _ _ _) rfl) ?_
  refine l_v (v_assign (t := .int _ _) rfl) ?_
  refine l_nil ?_
  refine n_then ?_
  refine c_seq ?_
  refine wp_reg (by decide +kernel) ?_
  refine l_v (v_move (t := .slice _ _ _) rfl) ?_
  refine l_v (v_move (t := .int _ _) rfl) ?_
  refine l_v (v_indexAddr (et := 36) (sz := 20) (k := i) (by kernel_rfl) (by kernel_rfl) rfl rfl (by first | rfl | omega) (by omega)) ?_
  refine l_v (v_loadA (by kernel_rfl) rfl (by first | exact HPq | exact HB8.pv | exact HB7.pv | exact HB6.pv | exact HB5.pv | exact HB4.pv | exact HB3.pv | assumption) rfl) ?_
  refine l_to (to_f1 (by kernel_rfl) (show _ = (Value.agg _) from rfl) (CallsR.mono (CMay_b (b := false) HGq hno) ?_))
  rintro _ w107 ⟨rfl, e107⟩
  have zs_e107 := e107.size
  replace E := E.trans (Ext.keep e107)
  replace HSk := HSk.ext e107
  replace HSv := HSv.ext e107
  replace HB3 := HB3.ext e107
  replace HB4 := HB4.ext e107
  replace HB5 := HB5.ext e107
  replace HB6 := HB6.ext e107
  replace HB7 := HB7.ext e107
  replace HB8 := HB8.ext e107
  replace HO50 := HO50.ext e107
  replace EL1 := EL1.trans (Ext.keep e107)
  replace HPq := HPq.ext e107
  replace HGq := HGq.ext e107
  refine l_v (v_move (t := .bool _) rfl) ?_
  refine l_g1 rfl rfl (fun hG => v_move (t := .int _ _) rfl) ?_
  refine l_g1f rfl rfl (fun hG => to_f1 (by kernel_rfl) (gd hG rfl) (num_c)) ?_
  rintro w108 e108
  have zs_e108 := e108.size
  replace E := E.trans (Ext.keep e108)
  replace HSk := HSk.ext e108
  replace HSv := HSv.ext e108
  replace HB3 := HB3.ext e108
  replace HB4 := HB4.ext e108
  replace HB5 := HB5.ext e108
  replace HB6 := HB6.ext e108
  replace HB7 := HB7.ext e108
  replace HB8 := HB8.ext e108
  replace HO50 := HO50.ext e108
  replace EL1 := EL1.trans (Ext.keep e108)
  replace HPq := HPq.ext e108
  replace HGq := HGq.ext e108
  refine l_g1 rfl rfl (fun hG => v_neq (gd hG rfl) rfl) ?_
  refine l_v (v_or rfl rfl) ?_
  refine l_nil ?_
  refine n_then ?_
  refine c_cond rfl rfl (fun hb => ?_) (fun hb => ?_)
  ·
   simp at hb
  ·
   refine c_skip ?_
   refine n_blk ?_
   refine n_then ?_
   refine wp_reg (by decide +kernel) ?_
   refine l_v (v_move (t := .int _ _) rfl) ?_
   refine l_v (v_add rfl rfl (by first | exact wr_i64 (by omega) (by omega) | rfl)) ?_
   refine l_v (v_assign (t := .int _ _) rfl) ?_
   refine l_nil ?_
   refine n_then ?_
   refine ⟨i + 1, _, rfl, by (repeat (first | exact Off.of_over _ _ _ | refine Off.upd ?_ (by decide) _ | refine Off.overs ?_ (by decide) _)), ⟨by first | rfl | exact congrArg (Value.int _) (by omega) | (simp; done), trivial⟩, ⟨E, EL1, ?_⟩, ?_⟩
   ·
    omega
   ·
    (dsimp only; omega)
 ·
  refine c_exit ?_
  refine x_then ?_
  refine x_then ?_
  refine x_hit ?_
  refine n_then ?_
  refine c_seq ?_
  refine wp_reg (by decide +kernel) ?_
  refine l_v (v_move (t := .slice _ _ _) rfl) ?_
  refine l_v (v_build (pl := [(0, 1), (1, 1), (2, 1), (3, 1), (4, 1), (5, 1)]) (z := .agg #[.int .i64 0, .slice none 0 0, .slice none 0 0, .bool false, .int .i64 0, .int .i64 0]) (zl := [.int .i64 0, .slice none 0 0, .slice none 0 0, .bool false, .int .i64 0, .int .i64 0]) (by kernel_rfl) (by unfold kZero; kernel_rfl) rfl rfl (cells := [_, _, _, _, _, _]) rfl) ?_
  refine l_to (to_alloc (z := (.agg #[.int .i64 0, .slice none 0 0, .slice none 0 0, .bool false, .int .i64 0, .int .i64 0])) (by unfold kZero; kernel_rfl) ?_)
  rintro b13 w13 zb13 HB13 e13 z13
  have zs_e13 := e13.size
  replace E := E.trans (Ext.keep e13)
  replace HSk := HSk.ext e13
  replace HSv := HSv.ext e13
  replace HB3 := HB3.ext e13
  replace HB4 := HB4.ext e13
  replace HB5 := HB5.ext e13
  replace HB6 := HB6.ext e13
  replace HB7 := HB7.ext e13
  replace HB8 := HB8.ext e13
  try simp only [Value.cells] at HB13
  refine l_to (to_storeA (n := 6) rfl rfl (show _ = (Value.agg _) from rfl) (by kernel_rfl) rfl (by first | (simp [slice_one]; done) | (simp only [List.forall_mem_cons, List.cons_append, List.nil_append]; repeat' (first | exact rfl | apply And.intro | (intro u hu; cases hu; done)))) HB13 dj5 ?_)
  rintro w113 HB13 k113 z113
  have zs_k113 := k113.size
  try simp only [List.set_cons_zero, List.set_cons_succ, setAt, List.take_zero, List.take_succ_cons, List.drop_zero, List.drop_succ_cons, List.nil_append, List.cons_append, List.append_nil, List.length_cons, List.length_nil] at HB13
  replace E := E.step k113 dj3
  replace HSk := HSk.keep k113 dj1
  replace HSv := HSv.keep k113 dj1
  replace HB3 := HB3.keep k113 dj4
  replace HB4 := HB4.keep k113 dj4
  replace HB5 := HB5.keep k113 dj4
  replace HB6 := HB6.keep k113 dj4
  replace HB7 := HB7.keep k113 dj4
  replace HB8 := HB8.keep k113 dj4
  refine l_nil ?_
  refine n_then ?_
  refine c_seq ?_
  obtain ⟨n0, hn0⟩ : ∃ n, n = w113.heap.size := ⟨_, rfl⟩
  refine wp_any (by kernel_rfl) ?_
  have e109 : Ext w113 { w113 with drawn := w113.drawn + 1 } := Keep.drawn _ _
  generalize hw109 : ({ w113 with drawn := w113.drawn + 1 } : World) = w109 at e109 ⊢
  clear hw109
  have zs_e109 := e109.size
  replace E := E.trans (Ext.keep e109)
  replace HSk := HSk.ext e109
  replace HSv := HSv.ext e109
  replace HB3 := HB3.ext e109
  replace HB4 := HB4.ext e109
  replace HB5 := HB5.ext e109
  replace HB6 := HB6.ext e109
  replace HB7 := HB7.ext e109
  replace HB8 := HB8.ext e109
  replace HB13 := HB13.ext e109
  refine r_cut 4 rfl (by decide +kernel) (by decide +kernel) (by decide +kernel) ?_
  refine wp_regdW (NoK) (by decide +kernel) (by decide +kernel) ?_
  refine rt_v (fun vals w hR hd => v_loadA (by kernel_rfl) rfl (by first | exact (HB13.ext hR).pv | exact (HB8.ext hR).pv | exact (HB7.ext hR).pv | exact (HB6.ext hR).pv | exact (HB5.ext hR).pv | exact (HB4.ext hR).pv | exact (HB3.ext hR).pv | assumption) rfl) ?_
  refine rt_to (fun v W => OwV tU8 5 W n0 NoK v (List.replicate 524288 (0 : UInt8))) (fun v w w' h k => h.ext k) (fun vals w hR hd => to_makeA (et := 5) (bytes := 1) (by kernel_rfl) (t := tU8) (z := 0) (n := 524288) (zv := .int .u8 0) rfl rfl (by omega) (by simp only [maxLen]; omega) (by unfold kZero; kernel_rfl) rfl (fun _ _ => rfl) (fun b w1 hb HO e z => ⟨e, HO.base (by have := hR.size; omega)⟩)) ?_
  refine rt_to (fun v W => ∃ u, v = .agg #[.int .i64 4, .int .i64 0, .int .i64 0, .int .i64 0, .slice none 0 0, .slice none 0 0, .slice none 0 0, .slice none 0 0, .bool false, .int .i64 0, .int .i64 2147483647, .slice a21 24 c21, .slice none 0 0, .bool false, .int .i64 4, .int .i64 1, .slice none 0 0, u, .slice none 0 0, .int .i64 0] ∧ OwV tU8 5 W n0 NoK u (List.replicate 524288 (0 : UInt8))) (fun v w w' h k => by obtain ⟨u, h1, h2⟩ := h; exact ⟨u, h1, h2.ext k⟩) (fun vals w hR hd => OpTo.of_v (v_build (pl := [(0, 1), (1, 9), (10, 6), (16, 1), (17, 1), (18, 1), (19, 1)]) (z := .agg #[.int .i64 0, .int .i64 0, .int .i64 0, .int .i64 0, .slice none 0 0, .slice none 0 0, .slice none 0 0, .slice none 0 0, .bool false, .int .i64 0, .int .i64 0, .slice none 0 0, .slice none 0 0, .bool false, .int .i64 0, .int .i64 0, .slice none 0 0, .slice none 0 0, .slice none 0 0, .int .i64 0]) (zl := [.int .i64 0, .int .i64 0, .int .i64 0, .int .i64 0, .slice none 0 0, .slice none 0 0, .slice none 0 0, .slice none 0 0, .bool false, .int .i64 0, .int .i64 0, .slice none 0 0, .slice none 0 0, .bool false, .int .i64 0, .int .i64 0, .slice none 0 0, .slice none 0 0, .slice none 0 0, .int .i64 0]) (ps := [(0, .int .i64 4), (2, .agg #[.int .i64 2147483647, .slice a21 24 c21, .slice none 0 0, .bool false, .int .i64 4, .int .i64 1]), (4, vals 1)]) (by kernel_rfl) (by unfold kZero; kernel_rfl) rfl (partsC rfl (hd 0 rfl) rfl) (cells := [.int .i64 4, .int .i64 0, .int .i64 0, .int .i64 0, .slice none 0 0, .slice none 0 0, .slice none 0 0, .slice none 0 0, .bool false, .int .i64 0, .int .i64 2147483647, .slice a21 24 c21, .slice none 0 0, .bool false, .int .i64 4, .int .i64 1, .slice none 0 0, vals 1, .slice none 0 0, .int .i64 0]) (by have h1 := SlV.one (show OwV tU8 5 _ n0 NoK _ (List.replicate 524288 (0 : UInt8)) from hd 1 rfl).view; simp [fillL, one_cells h1, setAt, cells_int, cells_agg])) ⟨Keep.refl _, _, rfl, (show OwV tU8 5 _ n0 NoK _ (List.replicate 524288 (0 : UInt8)) from hd 1 rfl)⟩) ?_
  refine rt_to (fun v W => ∃ b, v = .pointer (some ⟨b, 0, none⟩) ∧ n0 ≤ b ∧ Blk W b [.int .i64 0, .int .i64 0, .int .i64 0, .int .i64 0, .slice none 0 0, .slice none 0 0, .slice none 0 0, .slice none 0 0, .bool false, .int .i64 0, .int .i64 0, .slice none 0 0, .slice none 0 0, .bool false, .int .i64 0, .int .i64 0, .slice none 0 0, .slice none 0 0, .slice none 0 0, .int .i64 0] 36) (fun v w w' h k => by obtain ⟨b, h1, h2, h3⟩ := h; exact ⟨b, h1, h2, h3.ext k⟩) (fun vals w hR hd => to_alloc (z := (.agg #[.int .i64 0, .int .i64 0, .int .i64 0, .int .i64 0, .slice none 0 0, .slice none 0 0, .slice none 0 0, .slice none 0 0, .bool false, .int .i64 0, .int .i64 0, .slice none 0 0, .slice none 0 0, .bool false, .int .i64 0, .int .i64 0, .slice none 0 0, .slice none 0 0, .slice none 0 0, .int .i64 0])) (by unfold kZero; kernel_rfl) (fun b w1 hb hB e z => ⟨e, b, rfl, by have := hR.size; omega, hB⟩)) ?_
  refine rt_nil (fun w80 e80 => ?_)
  rintro _ rfl v78 hs78 v79 hs79 v14 ⟨b14, rfl, hb14, HB14⟩
  have zs_e80 := e80.size
  have hs79 : ∃ u, v79 = .agg #[.int .i64 4, .int .i64 0, .int .i64 0, .int .i64 0, .slice none 0 0, .slice none 0 0, .slice none 0 0, .slice none 0 0, .bool false, .int .i64 0, .int .i64 2147483647, .slice a21 24 c21, .slice none 0 0, .bool false, .int .i64 4, .int .i64 1, .slice none 0 0, u, .slice none 0 0, .int .i64 0] ∧ OwV tU8 5 _ n0 NoK u (List.replicate 524288 (0 : UInt8)) := hs79
  obtain ⟨u79, rfl, ho79⟩ := hs79
  obtain ⟨big, hbig, hbl⟩ : ∃ l : List UInt8, l = (List.replicate 524288 (0 : UInt8)) ∧ l.length = 524288 := ⟨_, rfl, List.length_replicate⟩
  rw [← hbig] at ho79
  have zb14' := HB14.lt
  have HF79 := OwV.byN ho79 HB14 (by decide)
  obtain ⟨a79, c79, rfl⟩ := HF79.bv.shape
  replace E := E.trans (Ext.keep e80)
  replace HSk := HSk.ext e80
  replace HSv := HSv.ext e80
  replace HB3 := HB3.ext e80
  replace HB4 := HB4.ext e80
  replace HB5 := HB5.ext e80
  replace HB6 := HB6.ext e80
  replace HB7 := HB7.ext e80
  replace HB8 := HB8.ext e80
  replace HB13 := HB13.ext e80
  refine fin_nil ?_
  refine n_then ?_
  refine r_one (by decide +kernel) rfl ?_
  obtain ⟨n6, hn6⟩ : ∃ n, n = w80.heap.size := ⟨_, rfl⟩
  have HS79 := (HF79.mono (F' := fun b => n0 ≤ b ∧ b ≠ b14 ∧ b < n6) fun b hb h => ⟨h.1, h.2, by omega⟩).bv
  refine l_to (to_storeA (n := 20) rfl rfl (show _ = (Value.agg _) from rfl) (by kernel_rfl) rfl (by first | (simp [slice_one]; done) | (simp only [List.forall_mem_cons, List.cons_append, List.nil_append]; repeat' (first | exact rfl | apply And.intro | (intro u hu; cases hu; done)))) HB14 dj5 ?_)
  rintro w81 HB14 k81 z81
  have zs_k81 := k81.size
  try simp only [List.set_cons_zero, List.set_cons_succ, setAt, List.take_zero, List.take_succ_cons, List.drop_zero, List.drop_succ_cons, List.nil_append, List.cons_append, List.append_nil, List.length_cons, List.length_nil] at HB14
  replace E := E.step k81 dj3
  replace HSk := HSk.keep k81 dj1
  replace HSv := HSv.keep k81 dj1
  replace HB3 := HB3.keep k81 dj4
  replace HB4 := HB4.keep k81 dj4
  replace HB5 := HB5.keep k81 dj4
  replace HB6 := HB6.keep k81 dj4
  replace HB7 := HB7.keep k81 dj4
  replace HB8 := HB8.keep k81 dj4
  replace HB13 := HB13.keep k81 dj4
  replace HS79 := HS79.keep k81 dj1
  refine l_nil ?_
  refine n_then ?_
  refine c_seq ?_
  have hmay : mayCm (4, rq0, bMv, [], big, [], 0) = true := by rw [bIn, hbl]; rfl
  refine wp_reg (by decide +kernel) ?_
  refine l_v (v_loadA (by kernel_rfl) rfl (by first | exact HB14.pv | exact HB13.pv | exact HB8.pv | exact HB7.pv | exact HB6.pv | exact HB5.pv | exact HB4.pv | exact HB3.pv | assumption) rfl) ?_
  refine l_to (to_f1 (by kernel_rfl) (show _ = (Value.agg _) from rfl) (CallsR.mono (CBytes_t (AgV.mkCm ⟨by decide, by decide⟩ rq0_ag (⟨_, rfl, tMv_mk HSk.allB (SlV.nil _ _ _) ⟨by decide, by decide⟩ ⟨by decide, by decide⟩ ⟨by decide, by decide⟩⟩) (SlV.nil _ _ _) HS79.allB (SlV.nil _ _ _) ⟨by decide, by decide⟩) hmay) ?_))
  rintro _ w82 ⟨⟨q82, d82, rfl, HS82⟩, e82⟩
  have zs_e82 := e82.size
  replace HS82 := HS82.all
  replace E := E.trans (Ext.keep e82)
  replace HSk := HSk.ext e82
  replace HSv := HSv.ext e82
  replace HB3 := HB3.ext e82
  replace HB4 := HB4.ext e82
  replace HB5 := HB5.ext e82
  replace HB6 := HB6.ext e82
  replace HB7 := HB7.ext e82
  replace HB8 := HB8.ext e82
  replace HB13 := HB13.ext e82
  replace HS79 := HS79.ext e82
  replace HB14 := HB14.ext e82
  refine l_v (v_move (t := .tuple _) rfl) ?_
  refine l_v (v_extract (t := .slice _ _ _) rfl rfl) ?_
  refine l_v (v_extract (t := .int _ _) rfl rfl) ?_
  refine l_v (v_assign (t := .slice _ _ _) rfl) ?_
  refine l_v (v_assign (t := .int _ _) rfl) ?_
  refine l_nil ?_
  refine n_then ?_
  refine c_seq ?_
  refine wp_reg (by decide +kernel) ?_
  refine l_v (v_move (t := .slice _ _ _) rfl) ?_
  refine l_to (to_f1 (by kernel_rfl) (show _ = (Value.slice _ _ _) from rfl) (CallsR.mono (CRead_any HS82 (cmW_len hmay (by simp [sumI]))) ?_))
  rintro _ w83 ⟨⟨u83, x83, r83, rfl, HG83, h83⟩, e83⟩
  have zs_e83 := e83.size
  replace HG83 := HG83.all
  obtain ⟨hr83, hx83⟩ : r83 = 0 ∧ x83 = (4, rq0, bMv, [], big, [], 0) := by
   rw [rdAll_back hmay] at h83
   rcases h83 with ⟨h1, h2⟩ | ⟨_, _, h2⟩
   ·
    exact ⟨h1, (Option.some.inj h2).symm⟩
   ·
    cases h2
  subst hr83
  subst hx83
  obtain ⟨a83x0, c83x0, a83x1, c83x1, a83x2, c83x2, a83x3, c83x3, a83x4, c83x4, a83x5, c83x5, a83x6, c83x6, a83x7, c83x7, a83x8, c83x8, hu83, _⟩ := HG83.cm
  subst hu83
  replace E := E.trans (Ext.keep e83)
  replace HSk := HSk.ext e83
  replace HSv := HSv.ext e83
  replace HB3 := HB3.ext e83
  replace HB4 := HB4.ext e83
  replace HB5 := HB5.ext e83
  replace HB6 := HB6.ext e83
  replace HB7 := HB7.ext e83
  replace HB8 := HB8.ext e83
  replace HB13 := HB13.ext e83
  replace HS79 := HS79.ext e83
  replace HB14 := HB14.ext e83
  replace HS82 := HS82.ext e83
  refine l_v (v_move (t := .tuple _) rfl) ?_
  refine l_v (v_extract (t := .agg _) rfl rfl) ?_
  refine l_v (v_extract (t := .int _ _) rfl rfl) ?_
  refine l_to (to_alloc (z := (.agg #[.int .i64 0, .int .i64 0, .int .i64 0, .int .i64 0, .slice none 0 0, .slice none 0 0, .slice none 0 0, .slice none 0 0, .bool false, .int .i64 0, .int .i64 0, .slice none 0 0, .slice none 0 0, .bool false, .int .i64 0, .int .i64 0, .slice none 0 0, .slice none 0 0, .slice none 0 0, .int .i64 0])) (by unfold kZero; kernel_rfl) ?_)
  rintro b17 w84 zb17 HB17 e84 z84
  have zs_e84 := e84.size
  replace E := E.trans (Ext.keep e84)
  replace HSk := HSk.ext e84
  replace HSv := HSv.ext e84
  replace HB3 := HB3.ext e84
  replace HB4 := HB4.ext e84
  replace HB5 := HB5.ext e84
  replace HB6 := HB6.ext e84
  replace HB7 := HB7.ext e84
  replace HB8 := HB8.ext e84
  replace HB13 := HB13.ext e84
  replace HS79 := HS79.ext e84
  replace HB14 := HB14.ext e84
  try simp only [Value.cells] at HB17
  refine l_to (to_storeA (n := 20) rfl rfl (show _ = (Value.agg _) from rfl) (by kernel_rfl) rfl (by first | (simp [slice_one]; done) | (simp only [List.forall_mem_cons, List.cons_append, List.nil_append]; repeat' (first | exact rfl | apply And.intro | (intro u hu; cases hu; done)))) HB17 dj5 ?_)
  rintro w85 HB17 k85 z85
  have zs_k85 := k85.size
  try simp only [List.set_cons_zero, List.set_cons_succ, setAt, List.take_zero, List.take_succ_cons, List.drop_zero, List.drop_succ_cons, List.nil_append, List.cons_append, List.append_nil, List.length_cons, List.length_nil] at HB17
  replace E := E.step k85 dj3
  replace HSk := HSk.keep k85 dj1
  replace HSv := HSv.keep k85 dj1
  replace HB3 := HB3.keep k85 dj4
  replace HB4 := HB4.keep k85 dj4
  replace HB5 := HB5.keep k85 dj4
  replace HB6 := HB6.keep k85 dj4
  replace HB7 := HB7.keep k85 dj4
  replace HB8 := HB8.keep k85 dj4
  replace HB13 := HB13.keep k85 dj4
  replace HS79 := HS79.keep k85 dj1
  replace HB14 := HB14.keep k85 dj4
  refine l_v (v_assign (t := .int _ _) rfl) ?_
  refine l_nil ?_
  refine n_then ?_
  refine c_seq ?_
  refine wp_reg (by decide +kernel) ?_
  refine l_to (to_make (et := 5) (bytes := 1) (by kernel_rfl) (t := tU8) (z := 0) (n := 524289) (m := 524289) (zv := .int .u8 0) rfl rfl (.inl rfl) (by omega) (by simp only [maxLen]; omega) (by unfold kZero; kernel_rfl) rfl rfl (fun _ _ => rfl) ?_)
  rintro b90 c90 w90 zb90 HO90 e90 z90
  have zs_e90 := e90.size
  replace E := E.trans (Ext.keep e90)
  replace HSk := HSk.ext e90
  replace HSv := HSv.ext e90
  replace HB3 := HB3.ext e90
  replace HB4 := HB4.ext e90
  replace HB5 := HB5.ext e90
  replace HB6 := HB6.ext e90
  replace HB7 := HB7.ext e90
  replace HB8 := HB8.ext e90
  replace HB13 := HB13.ext e90
  replace HS79 := HS79.ext e90
  replace HB14 := HB14.ext e90
  replace HB17 := HB17.ext e90
  have zo_HO90 := fun (b : Nat) h => HO90.own_lt (b := b) h
  obtain ⟨big2, hbig2, hbl2⟩ : ∃ l : List UInt8, l = List.replicate 524289 (0 : UInt8) ∧ l.length = 524289 := ⟨_, rfl, List.length_replicate⟩
  rw [← hbig2] at HO90
  have HS90 := HO90.view.mono (F' := fun k => b90 ≤ k) fun k hk h => by rcases h with h | h; omega; exact h.elim
  refine l_v (v_fieldAddr (off := 17) (ft := 23) (by kernel_rfl) rfl) ?_
  refine l_to (to_store rfl rfl (show _ = (Value.slice _ _ _) from rfl) rfl (by kernel_rfl) HB14 (by simp) ?_)
  rintro w91 HB14 k91 z91
  have zs_k91 := k91.size
  try simp only [List.set_cons_zero, List.set_cons_succ, setAt, List.take_zero, List.take_succ_cons, List.drop_zero, List.drop_succ_cons, List.nil_append, List.cons_append, List.append_nil, List.length_cons, List.length_nil] at HB14
  replace E := E.step k91 dj3
  replace HSk := HSk.keep k91 dj1
  replace HSv := HSv.keep k91 dj1
  replace HB3 := HB3.keep k91 dj4
  replace HB4 := HB4.keep k91 dj4
  replace HB5 := HB5.keep k91 dj4
  replace HB6 := HB6.keep k91 dj4
  replace HB7 := HB7.keep k91 dj4
  replace HB8 := HB8.keep k91 dj4
  replace HB13 := HB13.keep k91 dj4
  replace HS79 := HS79.keep k91 dj1
  replace HB17 := HB17.keep k91 dj4
  replace HS90 := HS90.keep k91 dj1
  refine l_nil ?_
  refine n_then ?_
  refine c_seq ?_
  replace HS90 := HS90.all
  refine wp_reg (by decide +kernel) ?_
  refine l_v (v_move (t := .slice _ _ _) rfl) ?_
  refine l_v (v_move (t := .slice _ _ _) rfl) ?_
  refine l_v (v_move (t := .slice _ _ _) rfl) ?_
  refine l_v (v_build (pl := [(0, 1), (1, 1), (2, 1), (3, 1), (4, 1), (5, 1), (6, 1)]) (z := .agg #[.int .i64 0, .slice none 0 0, .slice none 0 0, .slice none 0 0, .slice none 0 0, .bool false, .int .i64 0]) (zl := [.int .i64 0, .slice none 0 0, .slice none 0 0, .slice none 0 0, .slice none 0 0, .bool false, .int .i64 0]) (by kernel_rfl) (by unfold kZero; kernel_rfl) rfl rfl (cells := [_, _, _, _, _, _, _]) rfl) ?_
  refine l_to (to_alloc (z := (.agg #[.int .i64 0, .slice none 0 0, .slice none 0 0, .slice none 0 0, .slice none 0 0, .bool false, .int .i64 0])) (by unfold kZero; kernel_rfl) ?_)
  rintro b19 w92 zb19 HB19 e92 z92
  have zs_e92 := e92.size
  replace E := E.trans (Ext.keep e92)
  replace HSk := HSk.ext e92
  replace HSv := HSv.ext e92
  replace HB3 := HB3.ext e92
  replace HB4 := HB4.ext e92
  replace HB5 := HB5.ext e92
  replace HB6 := HB6.ext e92
  replace HB7 := HB7.ext e92
  replace HB8 := HB8.ext e92
  replace HB13 := HB13.ext e92
  replace HS79 := HS79.ext e92
  replace HB17 := HB17.ext e92
  replace HS90 := HS90.ext e92
  replace HB14 := HB14.ext e92
  try simp only [Value.cells] at HB19
  refine l_to (to_storeA (n := 7) rfl rfl (show _ = (Value.agg _) from rfl) (by kernel_rfl) rfl (by first | (simp [slice_one]; done) | (simp only [List.forall_mem_cons, List.cons_append, List.nil_append]; repeat' (first | exact rfl | apply And.intro | (intro u hu; cases hu; done)))) HB19 dj5 ?_)
  rintro w93 HB19 k93 z93
  have zs_k93 := k93.size
  try simp only [List.set_cons_zero, List.set_cons_succ, setAt, List.take_zero, List.take_succ_cons, List.drop_zero, List.drop_succ_cons, List.nil_append, List.cons_append, List.append_nil, List.length_cons, List.length_nil] at HB19
  replace E := E.step k93 dj3
  replace HSk := HSk.keep k93 dj1
  replace HSv := HSv.keep k93 dj1
  replace HB3 := HB3.keep k93 dj4
  replace HB4 := HB4.keep k93 dj4
  replace HB5 := HB5.keep k93 dj4
  replace HB6 := HB6.keep k93 dj4
  replace HB7 := HB7.keep k93 dj4
  replace HB8 := HB8.keep k93 dj4
  replace HB13 := HB13.keep k93 dj4
  replace HS79 := HS79.keep k93 dj1
  replace HB17 := HB17.keep k93 dj4
  replace HS90 := HS90.keep k93 dj1
  replace HB14 := HB14.keep k93 dj4
  refine l_nil ?_
  refine n_then ?_
  refine c_seq ?_
  refine wp_reg (by decide +kernel) ?_
  refine l_v (v_loadA (by kernel_rfl) rfl (by first | exact HB19.pv | exact HB14.pv | exact HB17.pv | exact HB13.pv | exact HB8.pv | exact HB7.pv | exact HB6.pv | exact HB5.pv | exact HB4.pv | exact HB3.pv | assumption) rfl) ?_
  refine l_to (to_alloc (z := (.agg #[.int .i64 0, .slice none 0 0, .slice none 0 0, .slice none 0 0, .slice none 0 0, .bool false, .int .i64 0])) (by unfold kZero; kernel_rfl) ?_)
  rintro b20 w94 zb20 HB20 e94 z94
  have zs_e94 := e94.size
  replace E := E.trans (Ext.keep e94)
  replace HSk := HSk.ext e94
  replace HSv := HSv.ext e94
  replace HB3 := HB3.ext e94
  replace HB4 := HB4.ext e94
  replace HB5 := HB5.ext e94
  replace HB6 := HB6.ext e94
  replace HB7 := HB7.ext e94
  replace HB8 := HB8.ext e94
  replace HB13 := HB13.ext e94
  replace HS79 := HS79.ext e94
  replace HB17 := HB17.ext e94
  replace HS90 := HS90.ext e94
  replace HB14 := HB14.ext e94
  replace HB19 := HB19.ext e94
  try simp only [Value.cells] at HB20
  refine l_to (to_storeA (n := 7) rfl rfl (show _ = (Value.agg _) from rfl) (by kernel_rfl) rfl (by first | (simp [slice_one]; done) | (simp only [List.forall_mem_cons, List.cons_append, List.nil_append]; repeat' (first | exact rfl | apply And.intro | (intro u hu; cases hu; done)))) HB20 dj5 ?_)
  rintro w95 HB20 k95 z95
  have zs_k95 := k95.size
  try simp only [List.set_cons_zero, List.set_cons_succ, setAt, List.take_zero, List.take_succ_cons, List.drop_zero, List.drop_succ_cons, List.nil_append, List.cons_append, List.append_nil, List.length_cons, List.length_nil] at HB20
  replace E := E.step k95 dj3
  replace HSk := HSk.keep k95 dj1
  replace HSv := HSv.keep k95 dj1
  replace HB3 := HB3.keep k95 dj4
  replace HB4 := HB4.keep k95 dj4
  replace HB5 := HB5.keep k95 dj4
  replace HB6 := HB6.keep k95 dj4
  replace HB7 := HB7.keep k95 dj4
  replace HB8 := HB8.keep k95 dj4
  replace HB13 := HB13.keep k95 dj4
  replace HS79 := HS79.keep k95 dj1
  replace HB17 := HB17.keep k95 dj4
  replace HS90 := HS90.keep k95 dj1
  replace HB14 := HB14.keep k95 dj4
  replace HB19 := HB19.keep k95 dj4
  refine l_nil ?_
  refine n_then ?_
  refine c_seq ?_
  refine wp_reg (by decide +kernel) ?_
  refine l_to (to_make (et := 5) (bytes := 1) (by kernel_rfl) (t := tU8) (z := 0) (n := 41) (m := 41) (zv := .int .u8 0) rfl rfl (.inl rfl) (by omega) (by simp only [maxLen]; omega) (by unfold kZero; kernel_rfl) rfl rfl (fun _ _ => rfl) ?_)
  rintro b97 c97 w97 zb97 HO97 e97 z97
  have zs_e97 := e97.size
  replace E := E.trans (Ext.keep e97)
  replace HSk := HSk.ext e97
  replace HSv := HSv.ext e97
  replace HB3 := HB3.ext e97
  replace HB4 := HB4.ext e97
  replace HB5 := HB5.ext e97
  replace HB6 := HB6.ext e97
  replace HB7 := HB7.ext e97
  replace HB8 := HB8.ext e97
  replace HB13 := HB13.ext e97
  replace HS79 := HS79.ext e97
  replace HB17 := HB17.ext e97
  replace HS90 := HS90.ext e97
  replace HB14 := HB14.ext e97
  replace HB19 := HB19.ext e97
  replace HB20 := HB20.ext e97
  have zo_HO97 := fun (b : Nat) h => HO97.own_lt (b := b) h
  have HS97 := HO97.view.mono (F' := fun k => b97 ≤ k) fun k hk h => by rcases h with h | h; omega; exact h.elim
  refine l_v (v_fieldAddr (off := 4) (ft := 23) (by kernel_rfl) rfl) ?_
  refine l_to (to_store rfl rfl (show _ = (Value.slice _ _ _) from rfl) rfl (by kernel_rfl) HB20 (by simp) ?_)
  rintro w98 HB20 k98 z98
  have zs_k98 := k98.size
  try simp only [List.set_cons_zero, List.set_cons_succ, setAt, List.take_zero, List.take_succ_cons, List.drop_zero, List.drop_succ_cons, List.nil_append, List.cons_append, List.append_nil, List.length_cons, List.length_nil] at HB20
  replace E := E.step k98 dj3
  replace HSk := HSk.keep k98 dj1
  replace HSv := HSv.keep k98 dj1
  replace HB3 := HB3.keep k98 dj4
  replace HB4 := HB4.keep k98 dj4
  replace HB5 := HB5.keep k98 dj4
  replace HB6 := HB6.keep k98 dj4
  replace HB7 := HB7.keep k98 dj4
  replace HB8 := HB8.keep k98 dj4
  replace HB13 := HB13.keep k98 dj4
  replace HS79 := HS79.keep k98 dj1
  replace HB17 := HB17.keep k98 dj4
  replace HS90 := HS90.keep k98 dj1
  replace HB14 := HB14.keep k98 dj4
  replace HB19 := HB19.keep k98 dj4
  replace HS97 := HS97.keep k98 dj1
  refine l_nil ?_
  refine n_then ?_
  refine c_seq ?_
  refine wp_reg (by decide +kernel) ?_
  refine l_v (v_move (t := .int _ _) rfl) ?_
  refine l_to (to_f1 (by kernel_rfl) (show _ = (Value.int _ _) from rfl) (CallsR.mono (num_c) ?_))
  rintro _ w110 ⟨rfl, e110⟩
  have zs_e110 := e110.size
  replace E := E.trans (Ext.keep e110)
  replace HSk := HSk.ext e110
  replace HSv := HSv.ext e110
  replace HB3 := HB3.ext e110
  replace HB4 := HB4.ext e110
  replace HB5 := HB5.ext e110
  replace HB6 := HB6.ext e110
  replace HB7 := HB7.ext e110
  replace HB8 := HB8.ext e110
  replace HB13 := HB13.ext e110
  replace HS79 := HS79.ext e110
  replace HB17 := HB17.ext e110
  replace HS90 := HS90.ext e110
  replace HB14 := HB14.ext e110
  replace HB19 := HB19.ext e110
  replace HS97 := HS97.ext e110
  replace HB20 := HB20.ext e110
  refine l_v (v_move (t := .int _ _) rfl) ?_
  refine l_to (to_f1 (by kernel_rfl) (show _ = (Value.int _ _) from rfl) (CallsR.mono (num_c) ?_))
  rintro _ w111 ⟨rfl, e111⟩
  have zs_e111 := e111.size
  replace E := E.trans (Ext.keep e111)
  replace HSk := HSk.ext e111
  replace HSv := HSv.ext e111
  replace HB3 := HB3.ext e111
  replace HB4 := HB4.ext e111
  replace HB5 := HB5.ext e111
  replace HB6 := HB6.ext e111
  replace HB7 := HB7.ext e111
  replace HB8 := HB8.ext e111
  replace HB13 := HB13.ext e111
  replace HS79 := HS79.ext e111
  replace HB17 := HB17.ext e111
  replace HS90 := HS90.ext e111
  replace HB14 := HB14.ext e111
  replace HB19 := HB19.ext e111
  replace HS97 := HS97.ext e111
  replace HB20 := HB20.ext e111
  refine l_v (v_add rfl rfl (by first | exact wr_i64 (by omega) (by omega) | rfl)) ?_
  refine l_v (OpVat.as (b := true) (v_eql rfl rfl) (by decide)) ?_
  refine l_v (v_move (t := .bool _) rfl) ?_
  refine l_gt rfl rfl (OpTo.of_v (v_fieldAddr (off := 17) (ft := 23) (by kernel_rfl) rfl) ?_)
  refine l_gt rfl rfl (OpTo.of_v (v_load (by kernel_rfl) rfl (by first | exact HB20.pv 17 _ rfl | exact HB19.pv 17 _ rfl | exact HB14.pv 17 _ rfl | exact HB17.pv 17 _ rfl | exact HB13.pv 17 _ rfl | exact HB8.pv 17 _ rfl | exact HB7.pv 17 _ rfl | exact HB6.pv 17 _ rfl | exact HB5.pv 17 _ rfl | exact HB4.pv 17 _ rfl | exact HB3.pv 17 _ rfl | assumption)) ?_)
  refine l_gt rfl rfl (OpTo.of_v (v_len (et := 5) (by kernel_rfl) rfl) ?_)
  refine l_gt rfl rfl (OpTo.of_v (OpVat.as (b := true) (v_eql rfl rfl) (by simp [hbl])) ?_)
  refine l_v (v_andT rfl rfl) ?_
  refine l_v (v_move (t := .bool _) rfl) ?_
  refine l_gt rfl rfl (OpTo.of_v (v_loadA (by kernel_rfl) rfl (by first | exact HB20.pv | exact HB19.pv | exact HB14.pv | exact HB17.pv | exact HB13.pv | exact HB8.pv | exact HB7.pv | exact HB6.pv | exact HB5.pv | exact HB4.pv | exact HB3.pv | assumption) rfl) ?_)
  refine l_gt rfl rfl (to_f1 (by kernel_rfl) (show _ = (Value.agg _) from rfl) (CallsR.mono (CMay_b (b := false) (AgV.mkCm ⟨by decide, by decide⟩ rq0_ag (⟨_, rfl, tMv_mk HSk.allB (SlV.nil _ _ _) ⟨by decide, by decide⟩ ⟨by decide, by decide⟩ ⟨by decide, by decide⟩⟩) (SlV.nil _ _ _) (show Bv _ AllB (.slice (some ⟨b90, 0, none⟩) _ c90) big2 from HS90.allB) (SlV.nil _ _ _) ⟨by decide, by decide⟩) (by rw [bIn, hbl2]; rfl)) ?_))
  rintro _ w112 ⟨rfl, e112⟩
  have zs_e112 := e112.size
  replace E := E.trans (Ext.keep e112)
  replace HSk := HSk.ext e112
  replace HSv := HSv.ext e112
  replace HB3 := HB3.ext e112
  replace HB4 := HB4.ext e112
  replace HB5 := HB5.ext e112
  replace HB6 := HB6.ext e112
  replace HB7 := HB7.ext e112
  replace HB8 := HB8.ext e112
  replace HB13 := HB13.ext e112
  replace HS79 := HS79.ext e112
  replace HB17 := HB17.ext e112
  replace HS90 := HS90.ext e112
  replace HB14 := HB14.ext e112
  replace HB19 := HB19.ext e112
  replace HS97 := HS97.ext e112
  replace HB20 := HB20.ext e112
  refine l_gt rfl rfl (OpTo.of_v (v_not rfl) ?_)
  refine l_v (v_andT rfl rfl) ?_
  refine l_v (v_move (t := .bool _) rfl) ?_
  refine l_gt rfl rfl (OpTo.of_v (v_loadA (by kernel_rfl) rfl (by first | exact HB20.pv | exact HB19.pv | exact HB14.pv | exact HB17.pv | exact HB13.pv | exact HB8.pv | exact HB7.pv | exact HB6.pv | exact HB5.pv | exact HB4.pv | exact HB3.pv | assumption) rfl) ?_)
  refine l_gt rfl rfl (to_f1 (by kernel_rfl) (show _ = (Value.agg _) from rfl) (CallsR.mono (MayAsk_k (b := true) (⟨_, rfl, tAk_mk HSk.allB (SlV.nil _ _ _) HSv.allB HSv.allB ⟨by decide, by decide⟩ ⟨by decide, by decide⟩⟩) bK1) ?_))
  rintro _ w113 ⟨rfl, e113⟩
  have zs_e113 := e113.size
  replace E := E.trans (Ext.keep e113)
  replace HSk := HSk.ext e113
  replace HSv := HSv.ext e113
  replace HB3 := HB3.ext e113
  replace HB4 := HB4.ext e113
  replace HB5 := HB5.ext e113
  replace HB6 := HB6.ext e113
  replace HB7 := HB7.ext e113
  replace HB8 := HB8.ext e113
  replace HB13 := HB13.ext e113
  replace HS79 := HS79.ext e113
  replace HB17 := HB17.ext e113
  replace HS90 := HS90.ext e113
  replace HB14 := HB14.ext e113
  replace HB19 := HB19.ext e113
  replace HS97 := HS97.ext e113
  replace HB20 := HB20.ext e113
  refine l_v (v_andT rfl rfl) ?_
  refine l_v (v_move (t := .bool _) rfl) ?_
  refine l_gt rfl rfl (OpTo.of_v (v_loadA (by kernel_rfl) rfl (by first | exact HB20.pv | exact HB19.pv | exact HB14.pv | exact HB17.pv | exact HB13.pv | exact HB8.pv | exact HB7.pv | exact HB6.pv | exact HB5.pv | exact HB4.pv | exact HB3.pv | assumption) rfl) ?_)
  refine l_gt rfl rfl (to_f1 (by kernel_rfl) (show _ = (Value.agg _) from rfl) (CallsR.mono (MayAsk_k (b := false) (⟨_, rfl, tAk_mk HSk.allB (SlV.nil _ _ _) HSv.allB HS97.allB ⟨by decide, by decide⟩ ⟨by decide, by decide⟩⟩) bK2) ?_))
  rintro _ w114 ⟨rfl, e114⟩
  have zs_e114 := e114.size
  replace E := E.trans (Ext.keep e114)
  replace HSk := HSk.ext e114
  replace HSv := HSv.ext e114
  replace HB3 := HB3.ext e114
  replace HB4 := HB4.ext e114
  replace HB5 := HB5.ext e114
  replace HB6 := HB6.ext e114
  replace HB7 := HB7.ext e114
  replace HB8 := HB8.ext e114
  replace HB13 := HB13.ext e114
  replace HS79 := HS79.ext e114
  replace HB17 := HB17.ext e114
  replace HS90 := HS90.ext e114
  replace HB14 := HB14.ext e114
  replace HB19 := HB19.ext e114
  replace HS97 := HS97.ext e114
  replace HB20 := HB20.ext e114
  refine l_gt rfl rfl (OpTo.of_v (v_not rfl) ?_)
  refine l_v (v_andT rfl rfl) ?_
  refine l_v (v_move (t := .bool _) rfl) ?_
  refine l_gt rfl rfl (OpTo.of_v (v_move (t := .slice _ _ _) rfl) ?_)
  refine l_gt rfl rfl (OpTo.of_v (v_build (pl := [(0, 1), (1, 1), (2, 1), (3, 1), (4, 1), (5, 1), (6, 1)]) (z := .agg #[.int .i64 0, .slice none 0 0, .slice none 0 0, .slice none 0 0, .slice none 0 0, .bool false, .int .i64 0]) (zl := [.int .i64 0, .slice none 0 0, .slice none 0 0, .slice none 0 0, .slice none 0 0, .bool false, .int .i64 0]) (by kernel_rfl) (by unfold kZero; kernel_rfl) rfl rfl (cells := [_, _, _, _, _, _, _]) rfl) ?_)
  refine l_gt rfl rfl (to_f1 (by kernel_rfl) (show _ = (Value.agg _) from rfl) (CallsR.mono (MayAsk_k (b := true) (⟨_, rfl, tAk_mk HSk.allB (SlV.nil _ _ _) (SlV.nil _ _ _) (SlV.nil _ _ _) ⟨by decide, by decide⟩ ⟨by decide, by decide⟩⟩) bK3) ?_))
  rintro _ w115 ⟨rfl, e115⟩
  have zs_e115 := e115.size
  replace E := E.trans (Ext.keep e115)
  replace HSk := HSk.ext e115
  replace HSv := HSv.ext e115
  replace HB3 := HB3.ext e115
  replace HB4 := HB4.ext e115
  replace HB5 := HB5.ext e115
  replace HB6 := HB6.ext e115
  replace HB7 := HB7.ext e115
  replace HB8 := HB8.ext e115
  replace HB13 := HB13.ext e115
  replace HS79 := HS79.ext e115
  replace HB17 := HB17.ext e115
  replace HS90 := HS90.ext e115
  replace HB14 := HB14.ext e115
  replace HB19 := HB19.ext e115
  replace HS97 := HS97.ext e115
  replace HB20 := HB20.ext e115
  refine l_v (v_andT rfl rfl) ?_
  refine l_v (v_move (t := .bool _) rfl) ?_
  refine l_gt rfl rfl (OpTo.of_v (v_build (pl := [(0, 1), (1, 1), (2, 1), (3, 1), (4, 1), (5, 1), (6, 1)]) (z := .agg #[.int .i64 0, .slice none 0 0, .slice none 0 0, .slice none 0 0, .slice none 0 0, .bool false, .int .i64 0]) (zl := [.int .i64 0, .slice none 0 0, .slice none 0 0, .slice none 0 0, .slice none 0 0, .bool false, .int .i64 0]) (by kernel_rfl) (by unfold kZero; kernel_rfl) rfl rfl (cells := [_, _, _, _, _, _, _]) rfl) ?_)
  refine l_gt rfl rfl (to_f1 (by kernel_rfl) (show _ = (Value.agg _) from rfl) (CallsR.mono (MayAsk_k (b := true) (F := NoK) (⟨_, rfl, tAk_mk (SlV.nil _ _ _) (SlV.nil _ _ _) (SlV.nil _ _ _) (SlV.nil _ _ _) ⟨by decide, by decide⟩ ⟨by decide, by decide⟩⟩) bK4) ?_))
  rintro _ w116 ⟨rfl, e116⟩
  have zs_e116 := e116.size
  replace E := E.trans (Ext.keep e116)
  replace HSk := HSk.ext e116
  replace HSv := HSv.ext e116
  replace HB3 := HB3.ext e116
  replace HB4 := HB4.ext e116
  replace HB5 := HB5.ext e116
  replace HB6 := HB6.ext e116
  replace HB7 := HB7.ext e116
  replace HB8 := HB8.ext e116
  replace HB13 := HB13.ext e116
  replace HS79 := HS79.ext e116
  replace HB17 := HB17.ext e116
  replace HS90 := HS90.ext e116
  replace HB14 := HB14.ext e116
  replace HB19 := HB19.ext e116
  replace HS97 := HS97.ext e116
  replace HB20 := HB20.ext e116
  refine l_v (v_andT rfl rfl) ?_
  refine l_v (v_move (t := .bool _) rfl) ?_
  refine l_gt rfl rfl (OpTo.of_v (v_build (pl := [(0, 1), (1, 9), (10, 6), (16, 1), (17, 1), (18, 1), (19, 1)]) (z := .agg #[.int .i64 0, .int .i64 0, .int .i64 0, .int .i64 0, .slice none 0 0, .slice none 0 0, .slice none 0 0, .slice none 0 0, .bool false, .int .i64 0, .int .i64 0, .slice none 0 0, .slice none 0 0, .bool false, .int .i64 0, .int .i64 0, .slice none 0 0, .slice none 0 0, .slice none 0 0, .int .i64 0]) (zl := [.int .i64 0, .int .i64 0, .int .i64 0, .int .i64 0, .slice none 0 0, .slice none 0 0, .slice none 0 0, .slice none 0 0, .bool false, .int .i64 0, .int .i64 0, .slice none 0 0, .slice none 0 0, .bool false, .int .i64 0, .int .i64 0, .slice none 0 0, .slice none 0 0, .slice none 0 0, .int .i64 0]) (by kernel_rfl) (by unfold kZero; kernel_rfl) rfl rfl (cells := [_, _, _, _, _, _, _, _, _, _, _, _, _, _, _, _, _, _, _, _]) rfl) ?_)
  refine l_gt rfl rfl (to_f1 (by kernel_rfl) (show _ = (Value.agg _) from rfl) (CallsR.mono (CMay_b (b := true) (F := NoK) (AgV.mkCm ⟨by decide, by decide⟩ rq0_ag mv0_ag (SlV.nil _ _ _) (SlV.nil _ _ _) (SlV.nil _ _ _) ⟨by decide, by decide⟩) bC8) ?_))
  rintro _ w117 ⟨rfl, e117⟩
  have zs_e117 := e117.size
  replace E := E.trans (Ext.keep e117)
  replace HSk := HSk.ext e117
  replace HSv := HSv.ext e117
  replace HB3 := HB3.ext e117
  replace HB4 := HB4.ext e117
  replace HB5 := HB5.ext e117
  replace HB6 := HB6.ext e117
  replace HB7 := HB7.ext e117
  replace HB8 := HB8.ext e117
  replace HB13 := HB13.ext e117
  replace HS79 := HS79.ext e117
  replace HB17 := HB17.ext e117
  replace HS90 := HS90.ext e117
  replace HB14 := HB14.ext e117
  replace HB19 := HB19.ext e117
  replace HS97 := HS97.ext e117
  replace HB20 := HB20.ext e117
  refine l_v (v_andT rfl rfl) ?_
  refine l_v (v_move (t := .bool _) rfl) ?_
  refine l_gt rfl rfl (OpTo.of_v (v_loadA (by kernel_rfl) rfl (by first | exact HB20.pv | exact HB19.pv | exact HB14.pv | exact HB17.pv | exact HB13.pv | exact HB8.pv | exact HB7.pv | exact HB6.pv | exact HB5.pv | exact HB4.pv | exact HB3.pv | assumption) rfl) ?_)
  refine l_gt rfl rfl (to_f1 (by kernel_rfl) (show _ = (Value.agg _) from rfl) (CallsR.mono (MayMove_k (b := true) (⟨_, rfl, tMv_mk HSk.allB (SlV.nil _ _ _) ⟨by decide, by decide⟩ ⟨by decide, by decide⟩ ⟨by decide, by decide⟩⟩) bMv_may) ?_))
  rintro _ w118 ⟨rfl, e118⟩
  have zs_e118 := e118.size
  replace E := E.trans (Ext.keep e118)
  replace HSk := HSk.ext e118
  replace HSv := HSv.ext e118
  replace HB3 := HB3.ext e118
  replace HB4 := HB4.ext e118
  replace HB5 := HB5.ext e118
  replace HB6 := HB6.ext e118
  replace HB7 := HB7.ext e118
  replace HB8 := HB8.ext e118
  replace HB13 := HB13.ext e118
  replace HS79 := HS79.ext e118
  replace HB17 := HB17.ext e118
  replace HS90 := HS90.ext e118
  replace HB14 := HB14.ext e118
  replace HB19 := HB19.ext e118
  replace HS97 := HS97.ext e118
  replace HB20 := HB20.ext e118
  refine l_v (v_andT rfl rfl) ?_
  refine l_v (v_move (t := .bool _) rfl) ?_
  refine l_gt rfl rfl (to_f0 (by kernel_rfl) (CallsR.mono (known_c) ?_))
  rintro _ w119 ⟨rfl, e119⟩
  have zs_e119 := e119.size
  replace E := E.trans (Ext.keep e119)
  replace HSk := HSk.ext e119
  replace HSv := HSv.ext e119
  replace HB3 := HB3.ext e119
  replace HB4 := HB4.ext e119
  replace HB5 := HB5.ext e119
  replace HB6 := HB6.ext e119
  replace HB7 := HB7.ext e119
  replace HB8 := HB8.ext e119
  replace HB13 := HB13.ext e119
  replace HS79 := HS79.ext e119
  replace HB17 := HB17.ext e119
  replace HS90 := HS90.ext e119
  replace HB14 := HB14.ext e119
  replace HB19 := HB19.ext e119
  replace HS97 := HS97.ext e119
  replace HB20 := HB20.ext e119
  refine l_v (v_andT rfl rfl) ?_
  refine l_v (v_assign (t := .bool _) rfl) ?_
  refine l_nil ?_
  refine n_then ?_
  refine c_ret ?_
  refine ret1v rfl (by decide) (show _ = (Value.bool _) from rfl) ?_
  exact ⟨rfl, E⟩
end Go.Proofs.Ytogafjlbpodgjaa
