/- A part of the proof: steps and lemmas for the walks through the given program. -/
import Derived.Test.YteehplloacefmaaM1
import Derived.Test.YteehplloacefmaaVc48
namespace Go.Proofs.Yteehplloacefmaa
open Go.Vc
set_option linter.unusedVariables false
set_option linter.unusedSimpArgs false
set_option maxRecDepth 100000

theorem ownMove_c {w : World} {F : Nat → Prop} {v : Value} {m : MvV} (HG1 : AgV tMv w F v m) (hl1 : m.2.1.length ≤ 140737488355328) (hl2 : m.2.2.1.length ≤ 140737488355328) : CallsR Try.prog 46 #[v] w (fun o w' => AgV tMv w' (fun b => w.heap.size ≤ b ∧ b < w'.heap.size) o m ∧ Ext w w') := by
 obtain ⟨a1, c1, a2, c2, rfl, HSf, HSt, i1, i2, i3⟩ := HG1.mv
 replace HSf := HSf.all
 replace HSt := HSt.all
 refine enter 12 Try.func46 rfl rfl (by simp) ?_
 refine c_seq ?_
 have E := Keep.refl (K := NoK) w
 replace HSf := HSf.all
 replace HSt := HSt.all
 refine wp_reg zd (l_to (to_box (zvA rfl) ?_))
 rintro b1 w1 zb1 HB1 e1 z1
 have := e1.size
 try simp only [Value.cells] at HB1
 refine l_to (to_alloc (z := (.agg #[.int .i64 0, .slice none 0 0, .slice none 0 0, .bool false, .int .i64 0, .int .i64 0])) (by unfold kZero; kernel_rfl) ?_)
 rintro b2 w2 zb2 HB2 e2 z2
 have := e2.size
 try simp only [Value.cells] at HB2
 replace HB1 := HB1.ext e2
 refine l_nil (n_then (c_seq (wp_regJ (fun k => k = b1) (StJ b1 _ _ [(7, 1, some 2, (undef : Value)), (9, 2, some 5, (undef : Value))]) zk zd zd (fun vals done hd => StJ.start (HB1.ext (Keep.drawn _ _)) (fun a ha => hd a.1 (st_lt (n := 10) rfl a ha))) ?_)))
 refine rj_vJ (fun done vals w hR hcl hdk hJ hdn hd => v_fieldAddr (off := 1) (ft := 33) zk rfl) (fun done vals w hdk hJ => hJ.src (Keep.refl _) hdk rfl) ?_
 refine rj_vJ (fun done vals w hR hcl hdk hJ hdn hd => v_load zk (hd 0 rfl) (by first | exact (HB2.keep hR dj4).pv 1 _ rfl | exact (hJ.at0 hcl hdk ⟨_, _, rfl, rfl, by decide⟩).pv 1 _ rfl | assumption)) (fun done vals w hdk hJ => hJ.src (Keep.refl _) hdk rfl) ?_
 replace HSf := (HSf.ext e1).ext e2
 refine rj_to (fun v W => Bv W (fun b => b2 < b) v m.2.1) (fun v w w' h k => h.keep k dj2) (fun done vals w hR hcl hdk hJ hdn hd => OpTo.mono (K := fun v w1 => Ext w w1 ∧ (fun v W => Bv W (fun b => b2 < b) v m.2.1) v w1) (to_f1 zk (hd 1 rfl) (CallsR.mono (Clone_c (HSf.keep hR dj2) hl1) fun v w1 ⟨h, e⟩ => ⟨e, (h.fresh (Nat.le_refl _)).mono fun b _ hb => by have := hR.size; omega⟩)) fun v w1 h => ⟨Ext.keep h.1, h.2, hJ.src h.1 hdk rfl⟩) ?_
 refine rj_vJ (fun done vals w hR hcl hdk hJ hdn hd => v_fieldAddr (off := 2) (ft := 33) zk rfl) (fun done vals w hdk hJ => hJ.src (Keep.refl _) hdk rfl) ?_
 refine rj_vJ (fun done vals w hR hcl hdk hJ hdn hd => v_load zk (hd 3 rfl) (by first | exact (HB2.keep hR dj4).pv 2 _ rfl | exact (hJ.at0 hcl hdk ⟨_, _, rfl, rfl, by decide⟩).pv 2 _ rfl | assumption)) (fun done vals w hdk hJ => hJ.src (Keep.refl _) hdk rfl) ?_
 replace HSt := (HSt.ext e1).ext e2
 refine rj_to (fun v W => Bv W (fun b => b2 < b) v m.2.2.1) (fun v w w' h k => h.keep k dj2) (fun done vals w hR hcl hdk hJ hdn hd => OpTo.mono (K := fun v w1 => Ext w w1 ∧ (fun v W => Bv W (fun b => b2 < b) v m.2.2.1) v w1) (to_f1 zk (hd 4 rfl) (CallsR.mono (Clone_c (HSt.keep hR dj2) hl2) fun v w1 ⟨h, e⟩ => ⟨e, (h.fresh (Nat.le_refl _)).mono fun b _ hb => by have := hR.size; omega⟩)) fun v w1 h => ⟨Ext.keep h.1, h.2, hJ.src h.1 hdk rfl⟩) ?_
 refine rj_vJ (fun done vals w hR hcl hdk hJ hdn hd => v_fieldAddr (off := 1) (ft := 33) zk rfl) (fun done vals w hdk hJ => hJ.src (Keep.refl _) hdk rfl) ?_
 refine rj_d (fun done vals w hR hcl hdk hJ hdn hd => to_store (hd 6 rfl) rfl rfl (by first | exact SlV.one (hd 2 rfl) | exact SlV.one (hd 2 rfl).1 | exact OwV.one (hd 2 rfl) | exact OwV.one (hd 2 rfl).1 | (have h := hd 2 rfl; dsimp only [setS] at h; rw [h]; rfl) | exact (hd 2 rfl).1 | (obtain ⟨_, h⟩ := hd 2 rfl; rw [h]; rfl) | exact (congrArg Value.oneCell' (hd 2 rfl)).trans rfl) zk (hJ.at (n := 0) rfl hdk (fun m h => by cases h)) (by rw [conts_len]; first | exact of_decide_eq_true rfl | (rw [hlen]; exact of_decide_eq_true rfl)) (fun w1 hB k z => ⟨k, hJ.step (n := 0) rfl hdk (fun m h => by cases h) (fun k h => by cases h; exact hdn 2 rfl) (once_st rfl) rfl hB⟩)) ?_
 refine rj_vJ (fun done vals w hR hcl hdk hJ hdn hd => v_fieldAddr (off := 2) (ft := 33) zk rfl) (fun done vals w hdk hJ => hJ.src (Keep.refl _) hdk rfl) ?_
 refine rj_d (fun done vals w hR hcl hdk hJ hdn hd => to_store (hd 8 rfl) rfl rfl (by first | exact SlV.one (hd 5 rfl) | exact SlV.one (hd 5 rfl).1 | exact OwV.one (hd 5 rfl) | exact OwV.one (hd 5 rfl).1 | (have h := hd 5 rfl; dsimp only [setS] at h; rw [h]; rfl) | exact (hd 5 rfl).1 | (obtain ⟨_, h⟩ := hd 5 rfl; rw [h]; rfl) | exact (congrArg Value.oneCell' (hd 5 rfl)).trans rfl) zk (hJ.at (n := 1) rfl hdk (fun m h => ⟨_, by cases h; rfl, hdn 7 rfl⟩)) (by rw [conts_len]; first | exact of_decide_eq_true rfl | (rw [hlen]; exact of_decide_eq_true rfl)) (fun w1 hB k z => ⟨k, hJ.step (n := 1) rfl hdk (fun m h => ⟨_, by cases h; rfl, hdn 7 rfl⟩) (fun k h => by cases h; exact hdn 5 rfl) (once_st rfl) rfl hB⟩)) ?_
 refine rj_nil (fun vals w101 k101 J101 => ?_)
 rintro _ - rfl _ - rfl v5 qs2 HS5 _ - rfl _ - rfl v8 qs5 HS8 _ - rfl _ - - _ - rfl _ - -
 have := k101.size
 have HX101 := J101.fin
 obtain ⟨a5, c5, rfl⟩ := SlV.shape HS5
 obtain ⟨a8, c8, rfl⟩ := SlV.shape HS8
 simp only [conts, sv, ← qs2, ← qs5] at HX101
 replace HB1 := HX101
 clear HX101
 try simp only [zS, Nat.zero_add, Nat.reduceAdd, List.drop_nil] at HB1
 replace HB2 := HB2.keep k101 dj4
 refine fin_nilJ (n_then (c_seq (wp_reg zd (l_v (v_loadA zk rfl (by first | exact HB2.pv | exact HB1.pv | assumption) rfl) ?_))))
 refine l_to (to_storeA (n := 6) rfl rfl (zvA rfl) zk rfl dj6 HB2 dj5 ?_)
 rintro w102 HX102 k102 z102
 have := k102.size
 replace HB2 := HX102
 clear HX102
 try simp only [zS, Nat.zero_add, Nat.reduceAdd, List.drop_nil] at HB2
 refine l_nil (n_then (c_ret (ret1c (n := 6) rfl zq rfl zk HB2.pv rfl ?_)))
 replace E := (((E.trans e1.keep).trans e2.keep).step k101 dj3).step k102 dj3
 replace HS5 := HS5.keep k102 dj1
 replace HS8 := HS8.keep k102 dj1
 exact ⟨⟨_, rfl, tMv_mk (HS5.mono fun b hb h => ⟨by omega, hb⟩) (HS8.mono fun b hb h => ⟨by omega, hb⟩) i1 i2 i3⟩, E⟩
theorem MetaNew_c {w : World} : CallsR Try.prog 17 #[] w (fun o w' => AgV tMt w' (fun b => w.heap.size ≤ b) o ((1, [([], [], false, 1)]), 1, []) ∧ Ext w w') := by
 refine enter 9 Try.func17 rfl rfl (by simp) ?_
 refine c_seq ?_
 have E := Keep.refl (K := NoK) w
 refine wp_reg zd (l_to (to_alloc (z := (.agg #[.int .i64 0, .slice none 0 0, .int .i64 0, .slice none 0 0])) (by unfold kZero; kernel_rfl) ?_))
 rintro b1 w1 zb1 HB1 e1 z1
 have := e1.size
 try simp only [Value.cells] at HB1
 refine l_nil (n_then (c_seq (wp_reg zd (l_to (to_f1 zk (zvI rfl) (CallsR.mono (New_c (g := 1) zo) ?_))))))
 rintro _ w2 ⟨⟨y, rfl, HG2⟩, e2⟩
 have := e2.size
 replace HG2 := HG2.mono fun b hb h => And.intro h hb
 rw [show (if grpB 1 = true then ((1, [([], [], false, 1)]) : MpV) else (0, [])) = (1, [([], [], false, 1)]) from rfl] at HG2
 obtain ⟨a2, c2, rfl, HS2, i2⟩ := HG2.mp
 refine l_v (zmT rfl) (l_v (v_extract (t := .agg _) rfl rfl) (l_v (v_extract (t := .int _ _) rfl rfl) (l_to (to_alloc (z := .agg #[.int .i64 0, .slice none 0 0]) (by unfold kZero; kernel_rfl) ?_))))
 rintro b101 w101 zb101 HB101 e101 z101
 have := e101.size
 try simp only [Value.cells] at HB101
 refine l_to (to_storeA (n := 2) rfl rfl (zvA rfl) zk rfl dj6 HB101 dj5 ?_)
 rintro w102 HX102 k102 z102
 have := k102.size
 replace HB101 := HX102
 clear HX102
 try simp only [zS, Nat.zero_add, Nat.reduceAdd, List.drop_nil] at HB101
 replace HB1 := ((HB1.ext e2).ext e101).keep k102 dj4
 refine l_v (zaI rfl) (l_nil (n_then (c_seq (wp_reg zd (l_v (v_loadA zk rfl (by first | exact HB101.pv | exact HB1.pv | assumption) rfl) ?_)))))
 refine l_v (v_build (pl := [(0, 2), (2, 1), (3, 1)]) (z := .agg #[.int .i64 0, .slice none 0 0, .int .i64 0, .slice none 0 0]) (zl := [.int .i64 0, .slice none 0 0, .int .i64 0, .slice none 0 0]) zk (by unfold kZero; kernel_rfl) rfl rfl (cells := [_, _, _, _]) rfl) ?_
 refine l_to (to_storeA (n := 4) rfl rfl (zvA rfl) zk rfl dj6 HB1 dj5 ?_)
 rintro w103 HX103 k103 z103
 have := k103.size
 replace HB1 := HX103
 clear HX103
 try simp only [zS, Nat.zero_add, Nat.reduceAdd, List.drop_nil] at HB1
 refine l_nil (n_then (c_ret (ret1c (n := 4) rfl zq rfl zk HB1.pv rfl ?_)))
 replace E := ((((E.trans e1.keep).trans e2.keep).trans e101.keep).step k102 dj3).step k103 dj3
 replace HS2 := ((HS2.ext e101).keep k102 dj1).keep k103 dj1
 exact ⟨AgV.mkMt (HS2.mono fun b _ h => by have := h.1; omega) (SlV.nil _ _ _) ⟨by decide, by decide⟩ ⟨by decide, by decide⟩, E⟩
theorem own_c {w : World} {F : Nat → Prop} {v : Value} {e n : Int} {rs : List RgV} {ms : List MaV} (HG1 : AgV tMt w F v ((e, rs), n, ms)) (hl : ∀ r ∈ rs, r.1.length ≤ 100000 ∧ r.2.1.length ≤ 100000) (hl2 : ∀ x ∈ ms, x.1.2.1.length ≤ 100000 ∧ x.1.2.2.1.length ≤ 100000) (hn1 : rs.length ≤ 100000) (hn2 : ms.length ≤ 100000) :
    CallsR Try.prog 28 #[v] w (fun o w' => (∃ m a c a2 c2, w.heap.size ≤ m ∧ m ≤ w'.heap.size ∧ o = .agg #[.int .i64 e, .slice a rs.length c, .int .i64 n, .slice a2 ms.length c2] ∧ SlV tRg w' (fun b => w.heap.size ≤ b ∧ b < m) (.slice a rs.length c) rs ∧ OwV tMa 54 w' m (fun b => m ≤ b ∧ b < w'.heap.size) (.slice a2 ms.length c2) ms) ∧ Ext w w') := by
 obtain ⟨a, c, a2, c2, rfl, HSr, HSm, ie, im⟩ := HG1.mt
 simp only at HSr HSm ie im
 clear HG1
 refine enter 52 Try.func28 rfl rfl (by simp) ?_
 refine c_seq ?_
 have E := Keep.refl (K := NoK) w
 replace HSr := HSr.all
 replace HSm := HSm.all
 refine wp_reg zd (l_to (to_box (zvA rfl) ?_))
 rintro b1 w1 zb1 HB1 e1 z1
 have := e1.size
 try simp only [Value.cells] at HB1
 refine l_to (to_alloc (z := (.agg #[.int .i64 0, .slice none 0 0, .int .i64 0, .slice none 0 0])) (by unfold kZero; kernel_rfl) ?_)
 rintro b2 w2 zb2 HB2 e2 z2
 have := e2.size
 try simp only [Value.cells] at HB2
 refine l_nil (n_then (c_seq ?_))
 obtain ⟨n0, hn0⟩ : ∃ n, n = w2.heap.size := ⟨_, rfl⟩
 replace HB1 := HB1.ext e2
 refine wp_reg zd (l_v (v_assign rfl) (l_nil (n_then (c_seq (c_seq (wp_reg zd (l_v (v_fieldAddr (off := 0) (ft := 24) zk rfl) (l_v (v_fieldAddr (off := 1) (ft := 22) zk rfl) (l_v (v_load zk rfl (by first | exact HB2.pv 1 _ rfl | exact HB1.pv 1 _ rfl | assumption)) ?_)))))))))
 refine l_v (v_len (et := 63) zk rfl) ?_
 replace E := (E.trans e1.keep).trans e2.keep
 refine l_v (v_move rfl) (l_nil (n_then (c_block (c_loop (τ := Nat × Option Addr × Nat) [3, 5, 13, 14, 15, 16, 17, 18, 19, 20, 21, 22, 23, 24, 25, 26, 27, 28, 29] (fun (i, a5, c5) => [(3, .slice a5 i c5), (13, .int .i64 i)]) (fun (i, a5, c5) W => Ext w W ∧ Keep (fun b => n0 ≤ b) w2 W ∧ i ≤ rs.length ∧ OwV tRg 63 W n0 (fun b => n0 ≤ b ∧ b < W.heap.size) (.slice a5 i c5) (rs.take i)) (fun (i, a5, c5) => rs.length - i) (0, none, 0) (by exact ⟨rfl, rfl, trivial⟩) (by exact ⟨E, Keep.refl _, Nat.zero_le _, OwV.nil _ _ _ _ _⟩) ?_))))
 rintro ⟨i, a5, c5⟩ w101 j ⟨E, EL1, h1, HOx⟩
 have := EL1.size
 have zo_HOx := fun (b : Nat) h => HOx.own_lt (b := b) h
 refine c_seq (wp_reg zd (l_v (v_lss rfl rfl) ?_))
 replace HSr := ((HSr.ext e1).ext e2).keep EL1 dj1
 replace HSm := ((HSm.ext e1).ext e2).keep EL1 dj1
 replace HB1 := HB1.keep EL1 dj4
 replace HB2 := HB2.keep EL1 dj4
 refine l_nil (n_then (c_seq (c_cond rfl rfl (fun hlt => ?_) (fun hlt => ?_))))
 ·
  have hlt := dtrue hlt
  have htl : (rs.take i).length = i := by rw [List.length_take]; omega
  obtain ⟨r, hx, _⟩ := getE (l := rs) (i := i) zo
  obtain ⟨hl1, hl2'⟩ := hl r (List.mem_of_getElem? hx)
  obtain ⟨n1, hn1'⟩ : ∃ n, n = w101.heap.size := ⟨_, rfl⟩
  refine c_skip (n_then (c_seq (c_block (c_seq (wp_reg zd (l_to (to_index (et := 63) zk zk (zvS rfl) HSr (zvI rfl) rfl hx ?_)))))))
  rintro q cs hF HPq hr
  obtain ⟨b3, d3, b5, d5, rfl, HSf, HSt, hg⟩ := tRg_cells hr
  refine l_v (v_loadA zk rfl (by first | exact HPq | exact HB2.pv | exact HB1.pv | assumption) rfl) ?_
  refine l_to (to_alloc (z := (.agg #[.slice none 0 0, .slice none 0 0, .bool false, .int .i64 0])) (by unfold kZero; kernel_rfl) ?_)
  rintro b8 w8 zb8 HB8 e8 z8
  have := e8.size
  try simp only [Value.cells] at HB8
  refine l_to (to_storeA (n := 4) rfl rfl (zvA rfl) zk rfl dj6 HB8 dj5 ?_)
  rintro w102 HX102 k102 z102
  have := k102.size
  replace HB8 := HX102
  clear HX102
  try simp only [zS, Nat.zero_add, Nat.reduceAdd, List.drop_nil] at HB8
  refine l_nil (n_then (c_seq (wp_regJ (fun k => k = b8) (StJ b8 _ _ [(7, 0, some 2, (undef : Value)), (9, 1, some 5, (undef : Value))]) zk zd zd (fun vals done hd => StJ.start (HB8.ext (Keep.drawn _ _)) (fun a ha => hd a.1 (st_lt (n := 10) rfl a ha))) ?_)))
  refine rj_vJ (fun done vals w hR hcl hdk hJ hdn hd => v_fieldAddr (off := 0) (ft := 33) zk rfl) (fun done vals w hdk hJ => hJ.src (Keep.refl _) hdk rfl) ?_
  replace HB1 := (HB1.ext e8).keep k102 dj4
  replace HB2 := (HB2.ext e8).keep k102 dj4
  replace HPq := (HPq.ext e8).keep k102 (by intro h; (try dsimp only at h); (try simp only [add_block] at h); first | omega)
  refine rj_vJ (fun done vals w hR hcl hdk hJ hdn hd => v_load zk (hd 0 rfl) (by first | exact (hJ.at0 hcl hdk ⟨_, _, rfl, rfl, by decide⟩).pv 0 _ rfl | exact (HPq.keep hR (by intro h; (try dsimp only at h); (try simp only [add_block] at h); first | omega)) 0 _ rfl | exact (HB2.keep hR dj4).pv 0 _ rfl | exact (HB1.keep hR dj4).pv 0 _ rfl | assumption)) (fun done vals w hdk hJ => hJ.src (Keep.refl _) hdk rfl) ?_
  replace HSf := (HSf.ext e8).keep k102 dj1
  refine rj_to (fun v W => Bv W (fun b => b8 < b) v r.1) (fun v w w' h k => h.keep k dj2) (fun done vals w hR hcl hdk hJ hdn hd => OpTo.mono (K := fun v w1 => Ext w w1 ∧ (fun v W => Bv W (fun b => b8 < b) v r.1) v w1) (to_f1 zk (hd 1 rfl) (CallsR.mono (Clone_c (HSf.keep hR dj2) zo) fun v w1 ⟨h, e⟩ => ⟨e, (h.fresh (Nat.le_refl _)).mono fun b _ hb => by have := hR.size; omega⟩)) fun v w1 h => ⟨Ext.keep h.1, h.2, hJ.src h.1 hdk rfl⟩) ?_
  refine rj_vJ (fun done vals w hR hcl hdk hJ hdn hd => v_fieldAddr (off := 1) (ft := 33) zk rfl) (fun done vals w hdk hJ => hJ.src (Keep.refl _) hdk rfl) ?_
  refine rj_vJ (fun done vals w hR hcl hdk hJ hdn hd => v_load zk (hd 3 rfl) (by first | exact (hJ.at0 hcl hdk ⟨_, _, rfl, rfl, by decide⟩).pv 1 _ rfl | exact (HPq.keep hR (by intro h; (try dsimp only at h); (try simp only [add_block] at h); first | omega)) 1 _ rfl | exact pv_1 (HPq.keep hR (by intro h; (try dsimp only at h); (try simp only [add_block] at h); first | omega)) | exact (HB2.keep hR dj4).pv 1 _ rfl | exact (HB1.keep hR dj4).pv 1 _ rfl | assumption)) (fun done vals w hdk hJ => hJ.src (Keep.refl _) hdk rfl) ?_
  replace HSt := (HSt.ext e8).keep k102 dj1
  refine rj_to (fun v W => Bv W (fun b => b8 < b) v r.2.1) (fun v w w' h k => h.keep k dj2) (fun done vals w hR hcl hdk hJ hdn hd => OpTo.mono (K := fun v w1 => Ext w w1 ∧ (fun v W => Bv W (fun b => b8 < b) v r.2.1) v w1) (to_f1 zk (hd 4 rfl) (CallsR.mono (Clone_c (HSt.keep hR dj2) zo) fun v w1 ⟨h, e⟩ => ⟨e, (h.fresh (Nat.le_refl _)).mono fun b _ hb => by have := hR.size; omega⟩)) fun v w1 h => ⟨Ext.keep h.1, h.2, hJ.src h.1 hdk rfl⟩) ?_
  refine rj_vJ (fun done vals w hR hcl hdk hJ hdn hd => v_fieldAddr (off := 0) (ft := 33) zk rfl) (fun done vals w hdk hJ => hJ.src (Keep.refl _) hdk rfl) ?_
  refine rj_d (fun done vals w hR hcl hdk hJ hdn hd => to_store (hd 6 rfl) rfl rfl (by first | exact SlV.one (hd 2 rfl) | exact SlV.one (hd 2 rfl).1 | exact OwV.one (hd 2 rfl) | exact OwV.one (hd 2 rfl).1 | (have h := hd 2 rfl; dsimp only [setS] at h; rw [h]; rfl) | exact (hd 2 rfl).1 | (obtain ⟨_, h⟩ := hd 2 rfl; rw [h]; rfl) | exact (congrArg Value.oneCell' (hd 2 rfl)).trans rfl) zk (hJ.at (n := 0) rfl hdk (fun m h => by cases h)) (by rw [conts_len]; first | exact of_decide_eq_true rfl | (rw [hlen]; exact of_decide_eq_true rfl)) (fun w1 hB k z => ⟨k, hJ.step (n := 0) rfl hdk (fun m h => by cases h) (fun k h => by cases h; exact hdn 2 rfl) (once_st rfl) rfl hB⟩)) ?_
  refine rj_vJ (fun done vals w hR hcl hdk hJ hdn hd => v_fieldAddr (off := 1) (ft := 33) zk rfl) (fun done vals w hdk hJ => hJ.src (Keep.refl _) hdk rfl) ?_
  refine rj_d (fun done vals w hR hcl hdk hJ hdn hd => to_store (hd 8 rfl) rfl rfl (by first | exact SlV.one (hd 5 rfl) | exact SlV.one (hd 5 rfl).1 | exact OwV.one (hd 5 rfl) | exact OwV.one (hd 5 rfl).1 | (have h := hd 5 rfl; dsimp only [setS] at h; rw [h]; rfl) | exact (hd 5 rfl).1 | (obtain ⟨_, h⟩ := hd 5 rfl; rw [h]; rfl) | exact (congrArg Value.oneCell' (hd 5 rfl)).trans rfl) zk (hJ.at (n := 1) rfl hdk (fun m h => ⟨_, by cases h; rfl, hdn 7 rfl⟩)) (by rw [conts_len]; first | exact of_decide_eq_true rfl | (rw [hlen]; exact of_decide_eq_true rfl)) (fun w1 hB k z => ⟨k, hJ.step (n := 1) rfl hdk (fun m h => ⟨_, by cases h; rfl, hdn 7 rfl⟩) (fun k h => by cases h; exact hdn 5 rfl) (once_st rfl) rfl hB⟩)) ?_
  refine rj_nil (fun vals w103 k103 J103 => ?_)
  replace HSr := (HSr.ext e8).keep k102 dj1
  replace HSm := (HSm.ext e8).keep k102 dj1
  replace HOx := (HOx.ext e8).keep k102 (by intro i ho he; have he0 := he; have ho0 := ho; (try dsimp only [NoK] at he); (try simp only [Value.ownBlock, Option.some.injEq, reduceCtorEq] at ho); (try simp only [Value.ownBlock, Option.some.injEq, reduceCtorEq] at he); first | exact he.elim | exact ho.elim | omega | (have := zo_HOx _ ho0; omega)) (by intro i _ hi _ he; have he0 := he; have hi := hi; have he := he; (try dsimp only [NoK, AllB] at hi he); (try simp only [Value.ownBlock, Option.some.injEq, reduceCtorEq] at he); all_goals first | exact hi.elim | exact hi.1.elim | exact he.elim | omega | (rcases hi with hi | hi <;> omega) | (rcases he with he | he <;> omega))
  rintro _ - rfl _ - rfl v19 qs2 HS19 _ - rfl _ - rfl v22 qs5 HS22 _ - rfl _ - - _ - rfl _ - -
  have := k103.size
  have HX103 := J103.fin
  obtain ⟨a19, c19, rfl⟩ := SlV.shape HS19
  obtain ⟨a22, c22, rfl⟩ := SlV.shape HS22
  simp only [conts, sv, ← qs2, ← qs5] at HX103
  replace HB8 := HX103
  clear HX103
  try simp only [zS, Nat.zero_add, Nat.reduceAdd, List.drop_nil] at HB8
  replace HB1 := HB1.keep k103 dj4
  replace HB2 := HB2.keep k103 dj4
  replace HPq := HPq.keep k103 (by intro h; (try dsimp only at h); (try simp only [add_block] at h); first | omega)
  refine fin_nilJ (n_then (wp_reg zd (l_v (zmS rfl) (l_v (v_loadA zk rfl (by first | exact HB8.pv | exact HPq | exact HB2.pv | exact HB1.pv | assumption) rfl) ?_))))
  refine l_to (to_slice1 (t := tRg) (et := 63) (bytes := 64) zk zq (zvA rfl) (tRg_mk HS19 HS22 hg) ?_)
  rintro b9 w9 zb9 HO9 e9 z9
  have := e9.size
  have zo_HO9 := fun (b : Nat) h => HO9.own_lt (b := b) h
  have htl2 : (rs.take i ++ [r]).length = i + 1 := by rw [List.length_append, htl]; rfl
  replace HOx := (HOx.keep k103 (by intro i ho he; have he0 := he; have ho0 := ho; (try dsimp only [NoK] at he); (try simp only [Value.ownBlock, Option.some.injEq, reduceCtorEq] at ho); (try simp only [Value.ownBlock, Option.some.injEq, reduceCtorEq] at he); first | exact he.elim | exact ho.elim | omega | (have := zo_HOx _ ho0; omega)) (by intro i _ hi _ he; have he0 := he; have hi := hi; have he := he; (try dsimp only [NoK, AllB] at hi he); (try simp only [Value.ownBlock, Option.some.injEq, reduceCtorEq] at he); all_goals first | exact hi.elim | exact hi.1.elim | exact he.elim | omega | (rcases hi with hi | hi <;> omega) | (rcases he with he | he <;> omega))).ext e9
  have HOy := HOx.mono (F' := fun b => n0 ≤ b) fun b _ h => h.1
  have zo_HOy := fun (b : Nat) h => HOy.own_lt (b := b) h
  have zo_HOy := zo_HOx
  have HS32 : SlV tRg _ (fun b => n1 ≤ b) _ [r] := HO9.view.mono fun i _ hi => hi.elim (fun h => by omega) (fun h => by have := h.1; (try dsimp only at this); omega)
  refine l_to (to_append (et := 63) (bytes := 64) zk (zvS rfl) HOy (zvS rfl) HS32 (deepF fun b hb hb2 => ⟨by omega, fun ho => by have := zo_HOx _ ho; omega⟩) (by first | omega | (simp; done) | (simp; omega)) (by simp only [maxLen]; first | omega | (simp; done) | (simp; omega)) zo ?_)
  rintro a9 n9 c9 w9 HO19 hn9 k9 h9 i9
  have := k9.size
  replace E := (((E.trans e8.keep).step k102 dj3).step k103 dj3).trans e9.keep
  replace EL1 := (((EL1.trans e8.keep).step k102 dj3).step k103 dj3).trans e9.keep
  replace HSr := (HSr.keep k103 dj1).ext e9
  replace HSm := (HSm.keep k103 dj1).ext e9
  replace HSf := (HSf.keep k103 dj1).ext e9
  replace HSt := (HSt.keep k103 dj1).ext e9
  obtain rfl : n9 = i + 1 := hn9.trans htl2
  have htk : rs.take i ++ [r] = rs.take (i + 1) := by rw [List.take_add_one, hx]; rfl
  rw [htk] at HO19
  have zo_HO19 := fun (b : Nat) h => HO19.own_lt (b := b) h
  refine l_v (zaS rfl) (l_nil (n_blk (n_then (wp_reg zd (l_v (v_add rfl rfl (by first | exact wr_i64 zo zo | rfl)) ?_)))))
  replace HB1 := (HB1.ext e9).keep k9 (by intro h; have he0 := h; (try dsimp only at h); (try simp only [Value.ownBlock, Option.some.injEq] at h); first | omega | (have := (HOy).own_lt he0; omega) | (have := zo_HOy _ he0; omega))
  replace HB2 := (HB2.ext e9).keep k9 (by intro h; have he0 := h; (try dsimp only at h); (try simp only [Value.ownBlock, Option.some.injEq] at h); first | omega | (have := (HOy).own_lt he0; omega) | (have := zo_HOy _ he0; omega))
  replace HPq := HPq.ext e9
  replace HB8 := HB8.ext e9
  replace HS19 := HS19.ext e9
  replace HS22 := HS22.ext e9
  replace E := E.step k9 (by intro i hi he; have he0 := he; (try dsimp only [NoK] at hi he ⊢); (try simp only [Value.ownBlock, Option.some.injEq] at he); first | exact he.elim | omega | exact he | (have := (HOy).own_lt he0; omega) | (have := zo_HOy _ he0; omega) | (have := (HOy).own_lt he0; rcases hi with hi | hi <;> omega))
  replace HSr := HSr.keep k9 (by intro i _ hi he; have he0 := he; (try dsimp only [NoK, AllB] at hi he); (try simp only [Value.ownBlock, Option.some.injEq] at he); first | exact hi.elim | exact he.elim | omega | (rcases hi with hi | hi <;> omega) | (rcases he with he | he <;> omega) | (have := (HOy).own_lt he0; omega) | (have := zo_HOy _ he0; omega) | (have := (HOy).own_lt he0; rcases hi with hi | hi <;> omega))
  replace HSm := HSm.keep k9 (by intro i _ hi he; have he0 := he; (try dsimp only [NoK, AllB] at hi he); (try simp only [Value.ownBlock, Option.some.injEq] at he); first | exact hi.elim | exact he.elim | omega | (rcases hi with hi | hi <;> omega) | (rcases he with he | he <;> omega) | (have := (HOy).own_lt he0; omega) | (have := zo_HOy _ he0; omega) | (have := (HOy).own_lt he0; rcases hi with hi | hi <;> omega))
  replace EL1 := EL1.step k9 (by intro i hi he; have he0 := he; (try dsimp only [NoK] at hi he ⊢); (try simp only [Value.ownBlock, Option.some.injEq] at he); first | exact he.elim | omega | exact he | (have := (HOy).own_lt he0; omega) | (have := zo_HOy _ he0; omega) | (have := (HOy).own_lt he0; rcases hi with hi | hi <;> omega))
  replace HO9 := HO9.keep k9 (by intro i ho he; have he0 := he; have ho0 := ho; (try dsimp only [NoK] at he); (try simp only [Value.ownBlock, Option.some.injEq, reduceCtorEq] at ho); (try simp only [Value.ownBlock, Option.some.injEq, reduceCtorEq] at he); first | exact he.elim | exact ho.elim | omega | (have := zo_HO9 _ ho0; omega) | (have := (HOy).own_lt he0; omega) | (have := zo_HOy _ he0; omega) | (have := zo_HO9 _ ho0; have := (HOy).own_lt he0; omega)) (by intro i _ hi _ he; have he0 := he; have hi := hi; have he := he; (try dsimp only [NoK, AllB] at hi he); (try simp only [Value.ownBlock, Option.some.injEq, reduceCtorEq] at he); all_goals first | exact hi.elim | exact hi.1.elim | exact he.elim | omega | (rcases hi with hi | hi <;> omega) | (rcases he with he | he <;> omega) | (have := (HOy).own_lt he0; omega) | (have := zo_HOy _ he0; omega) | (have := (HOy).own_lt he0; rcases hi with hi | hi <;> omega))
  refine l_v (zmI rfl) (l_nil (n_then (⟨(i + 1, a9, c9), _, rfl, by (repeat (first | exact Off.of_over _ _ _ | refine Off.upd ?_ zq _ | refine Off.overs ?_ zq _)), ⟨by first | rfl | exact congrArg (Value.int _) zo | (simp; done), by first | rfl | exact congrArg (Value.int _) zo | (simp; done), trivial⟩, ⟨E, EL1, ?_⟩, ?_⟩)))
  ·
   exact ⟨by omega, HO19.mono fun b hb h => ⟨h, hb⟩⟩
  (dsimp only; omega)
 have hi : i = rs.length := by have := dfalse hlt; omega
 subst hi
 rw [List.take_length] at HOx
 have HSq := HOx.view
 replace HSq := HSq.mono (F' := fun b => n0 ≤ b ∧ b < w101.heap.size) fun b hb h => ⟨by rcases h with h | h <;> omega, hb⟩
 obtain ⟨n2, hn2'⟩ : ∃ n, n = w101.heap.size := ⟨_, rfl⟩
 rw [← hn2'] at HSq
 refine c_exit (x_then (x_then (x_hit (n_then (c_seq (wp_reg zd (l_v (zmS rfl) (l_v (v_fieldAddr (off := 0) (ft := 24) zk rfl) (l_v (v_fieldAddr (off := 1) (ft := 22) zk rfl) ?_)))))))))
 refine l_to (to_store (i := 1) rfl rfl (zvS rfl) rfl zk HB1 dj5 ?_)
 rintro w104 HX104 k104 z104
 have := k104.size
 try simp only [add_block] at k104
 try simp only [add_block] at HX104
 replace HB1 := HX104
 clear HX104
 try simp only [zS, Nat.zero_add, Nat.reduceAdd, List.drop_nil] at HB1
 refine l_nil (n_then (c_seq (wp_reg zd (l_v (v_assign rfl) (l_nil (n_then (c_seq (c_seq (wp_reg zd ?_)))))))))
 replace HB2 := HB2.keep k104 dj4
 refine l_v (v_fieldAddr (off := 3) (ft := 25) zk rfl) (l_v (v_load zk rfl (by first | exact HB2.pv 3 _ rfl | exact HB1.pv 3 _ rfl | assumption)) ?_)
 refine l_v (v_len (et := 54) zk rfl) ?_
 replace E := E.step k104 dj3
 refine l_v (v_move rfl) (l_nil (n_then (c_block (c_loop (τ := Nat × Option Addr × Nat) [6, 8, 36, 37, 38, 39, 40, 41, 42, 43, 44, 45, 46, 47, 48] (fun (i, a5, c5) => [(6, .slice a5 i c5), (36, .int .i64 i)]) (fun (i, a5, c5) W => Ext w W ∧ Keep (fun b => n2 ≤ b) w104 W ∧ i ≤ ms.length ∧ OwV tMa 54 W n2 (fun b => n2 ≤ b ∧ b < W.heap.size) (.slice a5 i c5) (ms.take i)) (fun (i, a5, c5) => ms.length - i) (0, none, 0) (by exact ⟨rfl, rfl, trivial⟩) (by exact ⟨E, Keep.refl _, Nat.zero_le _, OwV.nil _ _ _ _ _⟩) ?_))))
 replace HSm := HSm.keep k104 dj1
 replace HSq := HSq.keep k104 dj1
 rintro ⟨i, a5, c5⟩ w105 j ⟨E, EL2, h1, HOx⟩
 have := EL2.size
 have zo_HOx := fun (b : Nat) h => HOx.own_lt (b := b) h
 refine c_seq (wp_reg zd (l_v (v_lss rfl rfl) ?_))
 replace HSm := HSm.keep EL2 dj1
 replace HB1 := HB1.keep EL2 dj4
 replace HB2 := HB2.keep EL2 dj4
 replace HSq := HSq.keep EL2 dj1
 refine l_nil (n_then (c_seq (c_cond rfl rfl (fun hlt => ?_) (fun hlt => ?_))))
 ·
  have hlt := dtrue hlt
  have htl : (ms.take i).length = i := by rw [List.length_take]; omega
  obtain ⟨r, hx, _⟩ := getE (l := ms) (i := i) zo
  obtain ⟨hl1, hl3⟩ := hl2 r (List.mem_of_getElem? hx)
  obtain ⟨n1, hn1'⟩ : ∃ n, n = w105.heap.size := ⟨_, rfl⟩
  refine c_skip (n_then (c_seq (c_block (c_seq (wp_reg zd (l_to (to_index (et := 54) zk zk (zvS rfl) HSm (zvI rfl) rfl hx ?_)))))))
  rintro q cs hF HPq hr
  have HG2 : AgV tMa _ _ _ r := ⟨cs, rfl, hr⟩
  obtain ⟨b3, d3, b5, d5, rfl, _, _, i1, i2, i3⟩ := tMa_cells hr
  have HG3 := AgV.maMv HG2
  refine l_v (v_loadA zk rfl (by first | exact HPq | exact HB2.pv | exact HB1.pv | assumption) rfl) ?_
  refine l_to (to_alloc (z := (.agg #[.int .i64 0, .slice none 0 0, .slice none 0 0, .bool false, .int .i64 0, .int .i64 0, .bool false])) (by unfold kZero; kernel_rfl) ?_)
  rintro b8 w8 zb8 HB8 e8 z8
  have := e8.size
  try simp only [Value.cells] at HB8
  refine l_to (to_storeA (n := 7) rfl rfl (zvA rfl) zk rfl dj6 HB8 dj5 ?_)
  rintro w106 HX106 k106 z106
  have := k106.size
  replace HB8 := HX106
  clear HX106
  try simp only [zS, Nat.zero_add, Nat.reduceAdd, List.drop_nil] at HB8
  replace HB1 := (HB1.ext e8).keep k106 dj4
  replace HB2 := (HB2.ext e8).keep k106 dj4
  replace HPq := (HPq.ext e8).keep k106 (by intro h; (try dsimp only at h); (try simp only [add_block] at h); first | omega)
  refine l_nil (n_then (c_seq (wp_reg zd (l_v (v_fieldAddr (off := 0) (ft := 39) zk rfl) (l_v (v_loadA zk rfl (by first | exact (show Pv _ _ [_, _, _, _, _, _] from pv_sub 0 6 HB8.pv) | exact (show Pv _ _ [_, _, _, _, _, _] from pv_sub 0 6 HPq) | exact (show Pv _ _ [_, _, _, _, _, _] from pv_sub 0 6 HB2.pv) | exact (show Pv _ _ [_, _, _, _, _, _] from pv_sub 0 6 HB1.pv) | exact pv_at 0 HB8.pv | exact pv_at 0 HPq | exact pv_at 0 HB2.pv | exact pv_at 0 HB1.pv | exact HPq | assumption) rfl) ?_)))))
  replace HG3 := (HG3.ext e8).keep k106 dj1
  refine l_to (to_f1 zk (zvA rfl) (CallsR.mono (ownMove_c HG3 zo zo) ?_))
  rintro v42 w42 ⟨HG42, e42⟩
  have := e42.size
  obtain ⟨a19, c19, a22, c22, rfl, HS19, HS22, j1, j2, j3⟩ := AgV.mv HG42
  replace HB8 := HB8.ext e42
  refine l_v (v_fieldAddr (off := 0) (ft := 39) zk rfl) (l_to (to_storeA (n := 6) rfl rfl (zvA rfl) zk rfl dj6 HB8 dj5 ?_))
  rintro w107 HX107 k107 z107
  have := k107.size
  replace HB8 := HX107
  clear HX107
  try simp only [zS, Nat.zero_add, Nat.reduceAdd, List.drop_nil] at HB8
  replace HB1 := (HB1.ext e42).keep k107 dj4
  replace HB2 := (HB2.ext e42).keep k107 dj4
  replace HPq := (HPq.ext e42).keep k107 (by intro h; (try dsimp only at h); (try simp only [add_block] at h); first | omega)
  refine l_nil (n_then (wp_reg zd (l_v (zmS rfl) (l_v (v_loadA zk rfl (by first | exact HB8.pv | exact HPq | exact HB2.pv | exact HB1.pv | assumption) rfl) ?_))))
  replace HS19 := HS19.keep k107 dj1
  replace HS22 := HS22.keep k107 dj1
  refine l_to (to_slice1 (t := tMa) (et := 54) (bytes := 88) zk zq (zvA rfl) (tMa_mk (HS19.mono (F' := fun b => n1 ≤ b) fun b _ h => by have := h.1; omega) (HS22.mono (F' := fun b => n1 ≤ b) fun b _ h => by have := h.1; omega) j1 j2 j3) ?_)
  rintro b9 w9 zb9 HO9 e9 z9
  have := e9.size
  have zo_HO9 := fun (b : Nat) h => HO9.own_lt (b := b) h
  have htl2 : (ms.take i ++ [r]).length = i + 1 := by rw [List.length_append, htl]; rfl
  replace HOx := ((((HOx.ext e8).keep k106 (by intro i ho he; have he0 := he; have ho0 := ho; (try dsimp only [NoK] at he); (try simp only [Value.ownBlock, Option.some.injEq, reduceCtorEq] at ho); (try simp only [Value.ownBlock, Option.some.injEq, reduceCtorEq] at he); first | exact he.elim | exact ho.elim | omega | (have := zo_HOx _ ho0; omega)) (by intro i _ hi _ he; have he0 := he; have hi := hi; have he := he; (try dsimp only [NoK, AllB] at hi he); (try simp only [Value.ownBlock, Option.some.injEq, reduceCtorEq] at he); all_goals first | exact hi.elim | exact hi.1.elim | exact he.elim | omega | (rcases hi with hi | hi <;> omega) | (rcases he with he | he <;> omega))).ext e42).keep k107 (by intro i ho he; have he0 := he; have ho0 := ho; (try dsimp only [NoK] at he); (try simp only [Value.ownBlock, Option.some.injEq, reduceCtorEq] at ho); (try simp only [Value.ownBlock, Option.some.injEq, reduceCtorEq] at he); first | exact he.elim | exact ho.elim | omega | (have := zo_HOx _ ho0; omega)) (by intro i _ hi _ he; have he0 := he; have hi := hi; have he := he; (try dsimp only [NoK, AllB] at hi he); (try simp only [Value.ownBlock, Option.some.injEq, reduceCtorEq] at he); all_goals first | exact hi.elim | exact hi.1.elim | exact he.elim | omega | (rcases hi with hi | hi <;> omega) | (rcases he with he | he <;> omega))).ext e9
  have HOy := HOx.mono (F' := fun b => n2 ≤ b) fun b _ h => h.1
  have zo_HOy := fun (b : Nat) h => HOy.own_lt (b := b) h
  have zo_HOy := zo_HOx
  have HS32 : SlV tMa _ (fun b => n1 ≤ b) _ [r] := HO9.view.mono fun i _ hi => hi.elim (fun h => by omega) (fun h => by have := h.1; (try dsimp only at this); omega)
  refine l_to (to_append (et := 54) (bytes := 88) zk (zvS rfl) HOy (zvS rfl) HS32 (deepF fun b hb hb2 => ⟨by omega, fun ho => by have := zo_HOx _ ho; omega⟩) (by first | omega | (simp; done) | (simp; omega)) (by simp only [maxLen]; first | omega | (simp; done) | (simp; omega)) zo ?_)
  rintro a9 n9 c9 w9 HO19 hn9 k9 h9 i9
  have := k9.size
  replace E := ((((E.trans e8.keep).step k106 dj3).trans e42.keep).step k107 dj3).trans e9.keep
  replace HSm := ((((HSm.ext e8).keep k106 dj1).ext e42).keep k107 dj1).ext e9
  replace HSq := ((((HSq.ext e8).keep k106 dj1).ext e42).keep k107 dj1).ext e9
  replace EL2 := ((((EL2.trans e8.keep).step k106 dj3).trans e42.keep).step k107 dj3).trans e9.keep
  replace HG2 := ((((HG2.ext e8).keep k106 dj1).ext e42).keep k107 dj1).ext e9
  replace HG3 := ((HG3.ext e42).keep k107 dj1).ext e9
  replace HG42 := (HG42.keep k107 dj1).ext e9
  obtain rfl : n9 = i + 1 := hn9.trans htl2
  have htk : ms.take i ++ [r] = ms.take (i + 1) := by rw [List.take_add_one, hx]; rfl
  rw [htk] at HO19
  have zo_HO19 := fun (b : Nat) h => HO19.own_lt (b := b) h
  refine l_v (zaS rfl) (l_nil (n_blk (n_then (wp_reg zd (l_v (v_add rfl rfl (by first | exact wr_i64 zo zo | rfl)) ?_)))))
  replace HB1 := (HB1.ext e9).keep k9 (by intro h; have he0 := h; (try dsimp only at h); (try simp only [Value.ownBlock, Option.some.injEq] at h); first | omega | (have := (HOy).own_lt he0; omega) | (have := zo_HOy _ he0; omega))
  replace HB2 := (HB2.ext e9).keep k9 (by intro h; have he0 := h; (try dsimp only at h); (try simp only [Value.ownBlock, Option.some.injEq] at h); first | omega | (have := (HOy).own_lt he0; omega) | (have := zo_HOy _ he0; omega))
  replace HPq := HPq.ext e9
  replace HB8 := HB8.ext e9
  replace HS19 := HS19.ext e9
  replace HS22 := HS22.ext e9
  replace E := E.step k9 (by intro i hi he; have he0 := he; (try dsimp only [NoK] at hi he ⊢); (try simp only [Value.ownBlock, Option.some.injEq] at he); first | exact he.elim | omega | exact he | (have := (HOy).own_lt he0; omega) | (have := zo_HOy _ he0; omega) | (have := (HOy).own_lt he0; rcases hi with hi | hi <;> omega))
  replace HSm := HSm.keep k9 (by intro i _ hi he; have he0 := he; (try dsimp only [NoK, AllB] at hi he); (try simp only [Value.ownBlock, Option.some.injEq] at he); first | exact hi.elim | exact he.elim | omega | (rcases hi with hi | hi <;> omega) | (rcases he with he | he <;> omega) | (have := (HOy).own_lt he0; omega) | (have := zo_HOy _ he0; omega) | (have := (HOy).own_lt he0; rcases hi with hi | hi <;> omega))
  replace HSq := HSq.keep k9 (by intro i _ hi he; have he0 := he; (try dsimp only [NoK, AllB] at hi he); (try simp only [Value.ownBlock, Option.some.injEq] at he); first | exact hi.elim | exact he.elim | omega | (rcases hi with hi | hi <;> omega) | (rcases he with he | he <;> omega) | (have := (HOy).own_lt he0; omega) | (have := zo_HOy _ he0; omega) | (have := (HOy).own_lt he0; rcases hi with hi | hi <;> omega))
  replace EL2 := EL2.step k9 (by intro i hi he; have he0 := he; (try dsimp only [NoK] at hi he ⊢); (try simp only [Value.ownBlock, Option.some.injEq] at he); first | exact he.elim | omega | exact he | (have := (HOy).own_lt he0; omega) | (have := zo_HOy _ he0; omega) | (have := (HOy).own_lt he0; rcases hi with hi | hi <;> omega))
  replace HO9 := HO9.keep k9 (by intro i ho he; have he0 := he; have ho0 := ho; (try dsimp only [NoK] at he); (try simp only [Value.ownBlock, Option.some.injEq, reduceCtorEq] at ho); (try simp only [Value.ownBlock, Option.some.injEq, reduceCtorEq] at he); first | exact he.elim | exact ho.elim | omega | (have := zo_HO9 _ ho0; omega) | (have := (HOy).own_lt he0; omega) | (have := zo_HOy _ he0; omega) | (have := zo_HO9 _ ho0; have := (HOy).own_lt he0; omega)) (by intro i _ hi _ he; have he0 := he; have hi := hi; have he := he; (try dsimp only [NoK, AllB] at hi he); (try simp only [Value.ownBlock, Option.some.injEq, reduceCtorEq] at he); all_goals first | exact hi.elim | exact hi.1.elim | exact he.elim | omega | (rcases hi with hi | hi <;> omega) | (rcases he with he | he <;> omega) | (have := (HOy).own_lt he0; omega) | (have := zo_HOy _ he0; omega) | (have := (HOy).own_lt he0; rcases hi with hi | hi <;> omega))
  refine l_v (zmI rfl) (l_nil (n_then (⟨(i + 1, a9, c9), _, rfl, by (repeat (first | exact Off.of_over _ _ _ | refine Off.upd ?_ zq _ | refine Off.overs ?_ zq _)), ⟨by first | rfl | exact congrArg (Value.int _) zo | (simp; done), by first | rfl | exact congrArg (Value.int _) zo | (simp; done), trivial⟩, ⟨E, EL2, ?_⟩, ?_⟩)))
  ·
   exact ⟨by omega, HO19.mono fun b hb h => ⟨h, hb⟩⟩
  (dsimp only; omega)
 have hi : i = ms.length := by have := dfalse hlt; omega
 subst hi
 rw [List.take_length] at HOx
 refine c_exit (x_then (x_then (x_hit (n_then (c_seq (wp_reg zd (l_v (zmS rfl) (l_v (v_fieldAddr (off := 3) (ft := 25) zk rfl) (l_to (to_store rfl rfl (zvS rfl) rfl zk HB1 dj5 ?_))))))))))
 rintro w108 HX108 k108 z108
 have := k108.size
 replace HB1 := HX108
 clear HX108
 try simp only [zS, Nat.zero_add, Nat.reduceAdd, List.drop_nil] at HB1
 replace HB2 := HB2.keep k108 dj4
 refine l_nil (n_then (c_seq (wp_reg zd (l_v (v_loadA zk rfl (by first | exact HB2.pv | exact HB1.pv | assumption) rfl) ?_))))
 refine l_to (to_storeA (n := 4) rfl rfl (zvA rfl) zk rfl dj6 HB2 dj5 ?_)
 rintro w109 HX109 k109 z109
 have := k109.size
 replace HB2 := HX109
 clear HX109
 try simp only [zS, Nat.zero_add, Nat.reduceAdd, List.drop_nil] at HB2
 refine l_nil (n_then (c_ret (ret1c (n := 4) rfl zq rfl zk HB2.pv rfl ?_)))
 replace E := (E.step k108 dj3).step k109 dj3
 replace HSq := (HSq.keep k108 dj1).keep k109 dj1
 replace HOx := (HOx.keep k108 (by intro i ho he; have he0 := he; have ho0 := ho; (try dsimp only [NoK] at he); (try simp only [Value.ownBlock, Option.some.injEq, reduceCtorEq] at ho); (try simp only [Value.ownBlock, Option.some.injEq, reduceCtorEq] at he); first | exact he.elim | exact ho.elim | omega | (have := zo_HOx _ ho0; omega)) (by intro i _ hi _ he; have he0 := he; have hi := hi; have he := he; (try dsimp only [NoK, AllB] at hi he); (try simp only [Value.ownBlock, Option.some.injEq, reduceCtorEq] at he); all_goals first | exact hi.elim | exact hi.1.elim | exact he.elim | omega | (rcases hi with hi | hi <;> omega) | (rcases he with he | he <;> omega))).keep k109 (by intro i ho he; have he0 := he; have ho0 := ho; (try dsimp only [NoK] at he); (try simp only [Value.ownBlock, Option.some.injEq, reduceCtorEq] at ho); (try simp only [Value.ownBlock, Option.some.injEq, reduceCtorEq] at he); first | exact he.elim | exact ho.elim | omega | (have := zo_HOx _ ho0; omega)) (by intro i _ hi _ he; have he0 := he; have hi := hi; have he := he; (try dsimp only [NoK, AllB] at hi he); (try simp only [Value.ownBlock, Option.some.injEq, reduceCtorEq] at he); all_goals first | exact hi.elim | exact hi.1.elim | exact he.elim | omega | (rcases hi with hi | hi <;> omega) | (rcases he with he | he <;> omega))
 exact ⟨⟨n2, _, _, _, _, by omega, by omega, rfl, HSq.mono fun b _ h => ⟨by have := h.1; omega, h.2⟩, HOx.mono fun b hb h => ⟨h.1, hb⟩⟩, E⟩
theorem Delete_c {w : World} {F : Nat → Prop} {B b n cap i : Nat} {xs : List MaV} (HOx : OwV tMa 54 w B F (.slice (some ⟨b, 0, none⟩) n cap) xs) (hn : n = xs.length) (hi : i < xs.length) : CallsR Try.prog 66 #[.slice (some ⟨b, 0, none⟩) n cap, .int .i64 i, .int .i64 (i + 1)] w (fun o w' => o = .slice (some ⟨b, 0, none⟩) (n - 1) cap ∧ OwV tMa 54 w' B F o (xs.eraseIdx i) ∧ Keep (fun q => q = b) w w') := by
 subst hn
 have hcap := OwV.cap HOx
 refine enter 33 Try.func66 rfl rfl (by simp) ?_
 refine c_seq ?_
 have E := Keep.refl (K := fun q => q = b) w
 have zo_HOx := fun (b : Nat) h => HOx.own_lt (b := b) h
 refine wp_reg zd (l_v (v_assign rfl) (l_nil (n_then (c_seq (wp_reg zd (l_v (zmS rfl) (l_v (zmI rfl) (l_v (zmI rfl) (l_v (zmS rfl) ?_)))))))))
 refine l_v (v_len (et := 54) zk rfl) ?_
 refine l_v (v_slice3f (et := 54) (sz := 7) (l := i) (h := i + 1) (m := xs.length) zk zk rfl rfl rfl rfl zo zo zo) ?_
 refine l_nil (n_then (c_seq (c_seq (wp_reg zd (l_v (zmI rfl) (l_v (zmI rfl) (l_v (v_eql rfl rfl) ?_)))))))
 refine l_nil (n_then (c_cond rfl rfl (fun hc => ?_) (fun hc => ?_)))
 ·
  exact absurd (dtrue hc) zo
 refine c_skip (n_then (c_seq (wp_reg zd (l_v (zmS rfl) (l_v (v_len (et := 54) zk rfl) ?_)))))
 refine l_v (zaI rfl) (l_nil (n_then (c_seq (wp_any zk ?_))))
 have e101 : Ext w { w with drawn := w.drawn + 1 } := Keep.drawn _ _
 generalize hw101 : ({ w with drawn := w.drawn + 1 } : World) = w101 at e101 ⊢
 clear hw101
 have := e101.size
 refine r_cut 6 rfl zd zd zd ?_
 refine wp_regdW (NoK) zd zd ?_
 refine rt_v (fun vals w hR hd => zmS rfl) ?_
 refine rt_v (fun vals w hR hd => zmI rfl) ?_
 refine rt_v (fun vals w hR hd => v_slicePre (et := 54) (sz := 7) (h := i) zk zk (hd 0 rfl) (hd 1 rfl) (by first | rfl | omega) zo) ?_
 refine rt_v (fun vals w hR hd => zmS rfl) ?_
 refine rt_v (fun vals w hR hd => zmI rfl) ?_
 refine rt_v (fun vals w hR hd => v_slice (et := 54) (sz := 7) (l := i + 1) (h := xs.length) zk zk (hd 3 rfl) ⟨.i64, ((hd 4 rfl)).trans (congrArg (Value.int _) zo)⟩ rfl zo zo) ?_
 refine rt_nil (fun w102 e102 => ?_)
 rintro _ rfl _ rfl _ rfl _ rfl _ rfl _ rfl
 have := e102.size
 refine fin_nil (n_then (r_cut 1 rfl zd zd zd ?_))
 refine r_one zd rfl ?_
 replace HOx := (HOx.ext e101).ext e102
 refine l_to (to_delApp (et := 54) (bytes := 88) (i := i) zk rfl HOx zo rfl ?_)
 rintro w5 HO5 k5 z5
 have := k5.size
 have zo_HO5 := fun (b : Nat) h => HO5.own_lt (b := b) h
 refine l_nil (n_then (r_one zd rfl ?_))
 refine l_v (zaS rfl) (l_nil (n_then (c_seq (wp_reg zd (l_v (zmS rfl) (l_v (zmS rfl) (l_v (v_len (et := 54) zk rfl) ?_)))))))
 refine l_v (zmI rfl) (l_v (v_slice (et := 54) (sz := 7) (l := xs.length - 1) (h := xs.length) zk zk rfl ⟨.i64, ((show _ = Value.int _ _ from rfl)).trans (congrArg (Value.int _) zo)⟩ ⟨.i64, ((show _ = Value.int _ _ from rfl)).trans (congrArg (Value.int _) zo)⟩ zo zo) ?_)
 refine l_to (to_clear (et := 54) (bytes := 88) (j := xs.length - 1) zk HO5 (by first | rfl | exact (List.length_eraseIdx_of_lt (by assumption)).symm) zo zo zo rfl (fun z hz => by have : z = .agg #[.int .i64 0, .slice none 0 0, .slice none 0 0, .bool false, .int .i64 0, .int .i64 0, .bool false] := Option.some.inj (hz.symm.trans (show _ = some (Value.agg #[.int .i64 0, .slice none 0 0, .slice none 0 0, .bool false, .int .i64 0, .int .i64 0, .bool false]) from (by unfold kZero; kernel_rfl : kZero Try.prog 54 _))); subst this; simp [Value.cells, slice_one]; exact ⟨rfl, rfl, rfl, rfl⟩) ?_)
 rintro w6 HO6 k6 z6
 have := k6.size
 have zo_HO6 := fun (b : Nat) h => HO6.own_lt (b := b) h
 refine l_nil (n_then (c_seq (wp_reg zd (l_v (zmS rfl) (l_v (zaS rfl) (l_nil (n_then (c_ret (ret1v rfl zq (zvS rfl) ?_)))))))))
 replace E := (((E.trans e101.keep).trans e102.keep).step k5 dj3).step k6 dj3
 exact ⟨rfl, HO6, E⟩
end Go.Proofs.Yteehplloacefmaa
