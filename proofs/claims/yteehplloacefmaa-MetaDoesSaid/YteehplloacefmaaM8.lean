/- A part of the proof: steps and lemmas for the walks through the given program. -/
import Derived.Test.YteehplloacefmaaM7
namespace Go.Proofs.Yteehplloacefmaa
open Go.Vc
set_option linter.unusedVariables false
set_option linter.unusedSimpArgs false
set_option maxRecDepth 100000

theorem SameKey_c {w : World} {F G : Nat → Prop} {v u : Value} {x y : List UInt8} (HS1 : Bv w F v x) (HS2 : Bv w G u y) : CallsR Try.prog 25 #[v, u] w (fun o w' => o = .bool (decide (x = y)) ∧ Ext w w') := by
  obtain ⟨a, c, rfl⟩ := HS1.shape
  obtain ⟨a2, c2, rfl⟩ := HS2.shape
  refine enter 10 Try.func25 rfl rfl (by simp) ?_
  refine c_seq ?_
  have E := Keep.refl (K := NoK) w
  replace HS1 := HS1.all
  replace HS2 := HS2.all
  refine wp_reg zd (l_v (v_assign rfl) (l_nil (n_then (c_seq (wp_reg zd (l_v (zmS rfl) (l_v (v_b2s (et := 5) zk zk zk rfl HS1) ?_)))))))
  refine l_v (zmS rfl) (l_v (v_b2s (et := 5) zk zk zk rfl HS2) ?_)
  refine l_v (v_seq rfl rfl) ?_
  refine l_v (zaB rfl) (l_nil (n_then (c_ret (ret1v rfl zq (zvB rfl) ?_))))
  exact ⟨rfl, E⟩
theorem rSameMove_c {w : World} {F G : Nat → Prop} {v u : Value} {a b : MvV} (HG1 : AgV tMv w F v a) (HG2 : AgV tMv w G u b) : CallsR Try.prog 18 #[v, u] w (fun o w' => o = .bool (decide (a = b)) ∧ Ext w w') := by
 obtain ⟨n, f, t, d, og, ng⟩ := a
 obtain ⟨n', f', t', d', og', ng'⟩ := b
 obtain ⟨a1, c1, a2, c2, rfl, HS1, HS2, hi1, hi2, hi3⟩ := HG1.mv
 obtain ⟨a3, c3, a4, c4, rfl, HS3, HS4, hj1, hj2, hj3⟩ := HG2.mv
 simp only [] at HS1 HS2 HS3 HS4
 refine enter 45 Try.func18 rfl rfl (by simp) ?_
 refine c_seq ?_
 have E := Keep.refl (K := NoK) w
 replace HS1 := HS1.all
 replace HS2 := HS2.all
 replace HS3 := HS3.all
 replace HS4 := HS4.all
 refine wp_reg zd (l_to (to_box (zvA rfl) ?_))
 rintro b101 w101 zb101 HB101 e101 z101
 have := e101.size
 try simp only [Value.cells] at HB101
 refine l_to (to_box (zvA rfl) ?_)
 rintro b102 w102 zb102 HB102 e102 z102
 have := e102.size
 try simp only [Value.cells] at HB102
 replace HB101 := HB101.ext e102
 refine l_v (v_assign rfl) (l_nil (n_then (c_seq (wp_reg zd (l_v (v_fieldAddr (off := 0) (ft := 2) zk rfl) (l_v (v_load zk rfl (by first | exact HB102.pv 0 _ rfl | exact HB101.pv 0 _ rfl | assumption)) ?_))))))
 refine l_v (v_fieldAddr (off := 0) (ft := 2) zk rfl) (l_v (v_load zk rfl (by first | exact HB102.pv 0 _ rfl | exact HB101.pv 0 _ rfl | assumption)) ?_)
 refine l_v (v_eql rfl rfl) ?_
 refine l_v (zmB rfl) (l_g1 rfl rfl (fun hG => v_fieldAddr (off := 1) (ft := 33) zk rfl) ?_)
 refine l_g1 rfl rfl (fun hG => v_load zk (gd hG rfl) (by first | exact HB102.pv 1 _ rfl | exact HB101.pv 1 _ rfl | assumption)) ?_
 refine l_g1 rfl rfl (fun hG => v_fieldAddr (off := 1) (ft := 33) zk rfl) ?_
 refine l_g1 rfl rfl (fun hG => v_load zk (gd hG rfl) (by first | exact HB102.pv 1 _ rfl | exact HB101.pv 1 _ rfl | assumption)) ?_
 replace HS1 := (HS1.ext e101).ext e102
 replace HS3 := (HS3.ext e101).ext e102
 refine l_g1f rfl rfl (fun hG => to_f2 zk (gd hG rfl) (gd hG rfl) (SameKey_c HS1 HS3)) ?_
 rintro w103 e103
 have := e103.size
 refine l_v (v_and rfl rfl) ?_
 refine l_v (zmB rfl) (l_g1 rfl rfl (fun hG => v_fieldAddr (off := 2) (ft := 33) zk rfl) ?_)
 replace HB101 := HB101.ext e103
 replace HB102 := HB102.ext e103
 refine l_g1 rfl rfl (fun hG => v_load zk (gd hG rfl) (by first | exact HB102.pv 2 _ rfl | exact HB101.pv 2 _ rfl | assumption)) ?_
 refine l_g1 rfl rfl (fun hG => v_fieldAddr (off := 2) (ft := 33) zk rfl) ?_
 refine l_g1 rfl rfl (fun hG => v_load zk (gd hG rfl) (by first | exact HB102.pv 2 _ rfl | exact HB101.pv 2 _ rfl | assumption)) ?_
 replace HS2 := ((HS2.ext e101).ext e102).ext e103
 replace HS4 := ((HS4.ext e101).ext e102).ext e103
 refine l_g1f rfl rfl (fun hG => to_f2 zk (gd hG rfl) (gd hG rfl) (SameKey_c HS2 HS4)) ?_
 rintro w104 e104
 have := e104.size
 refine l_v (v_and rfl rfl) ?_
 refine l_v (zmB rfl) (l_g1 rfl rfl (fun hG => v_fieldAddr (off := 3) (ft := 4) zk rfl) ?_)
 replace HB101 := HB101.ext e104
 replace HB102 := HB102.ext e104
 refine l_g1 rfl rfl (fun hG => v_load zk (gd hG rfl) (by first | exact HB102.pv 3 _ rfl | exact HB101.pv 3 _ rfl | assumption)) ?_
 refine l_g1 rfl rfl (fun hG => v_fieldAddr (off := 3) (ft := 4) zk rfl) ?_
 refine l_g1 rfl rfl (fun hG => v_load zk (gd hG rfl) (by first | exact HB102.pv 3 _ rfl | exact HB101.pv 3 _ rfl | assumption)) ?_
 refine l_g1 rfl rfl (fun hG => v_beql zk (gd hG rfl) (gd hG rfl)) ?_
 refine l_v (v_and rfl rfl) ?_
 refine l_v (zmB rfl) (l_g1 rfl rfl (fun hG => v_fieldAddr (off := 4) (ft := 3) zk rfl) ?_)
 refine l_g1 rfl rfl (fun hG => v_load zk (gd hG rfl) (by first | exact HB102.pv 4 _ rfl | exact HB101.pv 4 _ rfl | assumption)) ?_
 refine l_g1 rfl rfl (fun hG => v_fieldAddr (off := 4) (ft := 3) zk rfl) ?_
 refine l_g1 rfl rfl (fun hG => v_load zk (gd hG rfl) (by first | exact HB102.pv 4 _ rfl | exact HB101.pv 4 _ rfl | assumption)) ?_
 refine l_g1 rfl rfl (fun hG => v_eql (gd hG rfl) (gd hG rfl)) ?_
 refine l_v (v_and rfl rfl) ?_
 refine l_v (zmB rfl) (l_g1 rfl rfl (fun hG => v_fieldAddr (off := 5) (ft := 3) zk rfl) ?_)
 refine l_g1 rfl rfl (fun hG => v_load zk (gd hG rfl) (by first | exact HB102.pv 5 _ rfl | exact HB101.pv 5 _ rfl | assumption)) ?_
 refine l_g1 rfl rfl (fun hG => v_fieldAddr (off := 5) (ft := 3) zk rfl) ?_
 refine l_g1 rfl rfl (fun hG => v_load zk (gd hG rfl) (by first | exact HB102.pv 5 _ rfl | exact HB101.pv 5 _ rfl | assumption)) ?_
 refine l_g1 rfl rfl (fun hG => v_eql (gd hG rfl) (gd hG rfl)) ?_
 refine l_v (v_and rfl rfl) ?_
 refine l_v (zaB rfl) (l_nil (n_then (c_ret (ret1v rfl zq (zvB rfl) ?_))))
 replace E := (((E.trans e101.keep).trans e102.keep).trans e103.keep).trans e104.keep
 refine ⟨?_, E⟩
 congr 1
 rw [Bool.eq_iff_iff, decide_eq_true_eq]
 simp only [Prod.mk.injEq]
 cases d <;> cases d' <;> simp [and_assoc]
theorem rSame_c {w : World} {F G : Nat → Prop} {v u : Value} {s t : MtV} (HG1 : AgV tMt w F v s) (HG2 : AgV tMt w G u t) : CallsR Try.prog 10 #[v, u] w (fun o w' => o = .bool (decide (s = t)) ∧ Ext w w') := by
 obtain ⟨⟨e, rs⟩, n, ms⟩ := s
 obtain ⟨⟨e2, ss⟩, n2, ns⟩ := t
 obtain ⟨a, c, a2, c2, rfl, HSr, HSm, ie, im⟩ := HG1.mt
 obtain ⟨a3, c3, a4, c4, rfl, HSs, HSn, ie2, im2⟩ := HG2.mt
 simp only at HSr HSm ie im HSs HSn ie2 im2
 have hmx := HSr.len_max
 have hmx2 := HSm.len_max
 refine enter 127 Try.func10 rfl rfl (by simp) ?_
 refine c_seq ?_
 have E := Keep.refl (K := NoK) w
 replace HSr := HSr.all
 replace HSm := HSm.all
 replace HSs := HSs.all
 replace HSn := HSn.all
 refine wp_reg zd (l_to (to_box (zvA rfl) ?_))
 rintro b101 w101 zb101 HB101 e101 z101
 have := e101.size
 try simp only [Value.cells] at HB101
 refine l_to (to_box (zvA rfl) ?_)
 rintro b102 w102 zb102 HB102 e102 z102
 have := e102.size
 try simp only [Value.cells] at HB102
 replace HB101 := HB101.ext e102
 refine l_v (v_assign rfl) (l_nil (n_then (c_seq (c_seq (wp_reg zd (l_v (v_fieldAddr (off := 0) (ft := 24) zk rfl) (l_v (v_fieldAddr (off := 0) (ft := 2) zk rfl) (l_v (v_load zk rfl (by first | exact HB102.pv 0 _ rfl | exact HB101.pv 0 _ rfl | assumption)) ?_))))))))
 refine l_v (v_fieldAddr (off := 0) (ft := 24) zk rfl) (l_v (v_fieldAddr (off := 0) (ft := 2) zk rfl) (l_v (v_load zk rfl (by first | exact HB102.pv 0 _ rfl | exact HB101.pv 0 _ rfl | assumption)) ?_))
 refine l_v (v_neq rfl rfl) ?_
 refine l_v (zmB rfl) (l_g1 rfl rfl (fun hG => v_fieldAddr (off := 2) (ft := 2) zk rfl) ?_)
 refine l_g1 rfl rfl (fun hG => v_load zk (gd hG rfl) (by first | exact HB102.pv 2 _ rfl | exact HB101.pv 2 _ rfl | assumption)) ?_
 refine l_g1 rfl rfl (fun hG => v_fieldAddr (off := 2) (ft := 2) zk rfl) ?_
 refine l_g1 rfl rfl (fun hG => v_load zk (gd hG rfl) (by first | exact HB102.pv 2 _ rfl | exact HB101.pv 2 _ rfl | assumption)) ?_
 refine l_g1 rfl rfl (fun hG => v_neq (gd hG rfl) (gd hG rfl)) ?_
 refine l_v (v_or rfl rfl) ?_
 refine l_v (zmB rfl) (l_g1 rfl rfl (fun hG => v_fieldAddr (off := 0) (ft := 24) zk rfl) ?_)
 refine l_g1 rfl rfl (fun hG => v_fieldAddr (off := 1) (ft := 22) zk (gd hG rfl)) ?_
 refine l_g1 rfl rfl (fun hG => v_load zk (gd hG rfl) (by first | exact HB102.pv 1 _ rfl | exact HB101.pv 1 _ rfl | assumption)) ?_
 refine l_g1 rfl rfl (fun hG => v_len (et := 63) zk (gd hG rfl)) ?_
 refine l_g1 rfl rfl (fun hG => v_fieldAddr (off := 0) (ft := 24) zk rfl) ?_
 refine l_g1 rfl rfl (fun hG => v_fieldAddr (off := 1) (ft := 22) zk (gd hG rfl)) ?_
 refine l_g1 rfl rfl (fun hG => v_load zk (gd hG rfl) (by first | exact HB102.pv 1 _ rfl | exact HB101.pv 1 _ rfl | assumption)) ?_
 refine l_g1 rfl rfl (fun hG => v_len (et := 63) zk (gd hG rfl)) ?_
 refine l_g1 rfl rfl (fun hG => v_neq (gd hG rfl) (gd hG rfl)) ?_
 refine l_v (v_or rfl rfl) ?_
 refine l_v (zmB rfl) (l_g1 rfl rfl (fun hG => v_fieldAddr (off := 3) (ft := 25) zk rfl) ?_)
 refine l_g1 rfl rfl (fun hG => v_load zk (gd hG rfl) (by first | exact HB102.pv 3 _ rfl | exact HB101.pv 3 _ rfl | assumption)) ?_
 refine l_g1 rfl rfl (fun hG => v_len (et := 54) zk (gd hG rfl)) ?_
 refine l_g1 rfl rfl (fun hG => v_fieldAddr (off := 3) (ft := 25) zk rfl) ?_
 refine l_g1 rfl rfl (fun hG => v_load zk (gd hG rfl) (by first | exact HB102.pv 3 _ rfl | exact HB101.pv 3 _ rfl | assumption)) ?_
 refine l_g1 rfl rfl (fun hG => v_len (et := 54) zk (gd hG rfl)) ?_
 refine l_g1 rfl rfl (fun hG => v_neq (gd hG rfl) (gd hG rfl)) ?_
 refine l_v (v_or rfl rfl) ?_
 replace E := (E.trans e101.keep).trans e102.keep
 replace HSr := (HSr.ext e101).ext e102
 replace HSm := (HSm.ext e101).ext e102
 replace HSs := (HSs.ext e101).ext e102
 replace HSn := (HSn.ext e101).ext e102
 refine l_nil (n_then (c_cond rfl rfl (fun hc => ?_) (fun hc => ?_)))
 ·
  refine c_seq (wp_reg zd (l_v (v_assign rfl) (l_nil (n_then (c_ret (r_then (ret1v rfl zq (zvB rfl) ?_)))))))
  refine ⟨?_, E⟩
  have hn : ¬ (((e, rs), n, ms) : MtV) = ((e2, ss), n2, ns) := by
   rintro h; cases h; simp at hc
  rw [decide_eq_false hn]
 have he3 : e = e2 ∧ n = n2 ∧ rs.length = ss.length ∧ ms.length = ns.length := by simp at hc; omega
 obtain ⟨rfl, rfl, hlen, hlen2⟩ := he3
 refine c_skip (n_then (c_seq (c_seq (wp_reg zd (l_v (v_assign rfl) (l_nil (n_then (c_block (c_loop (τ := Nat) [4, 5, 6, 7, 43, 44, 45, 46, 47, 48, 49, 50, 51, 52, 53, 54, 55, 56, 57, 58, 59, 60, 61, 62, 63, 64, 65, 66, 67, 68, 69, 70, 71, 72, 73, 74, 75, 76, 77, 78, 79, 80, 81, 82, 83, 84, 85, 86, 87, 88, 89, 90] (fun i => [(5, .int .i64 i)]) (fun i W => Ext w W ∧ Keep (NoK) w102 W ∧ i ≤ rs.length ∧ rs.take i = ss.take i) (fun i => rs.length - i) 0 (by exact ⟨rfl, trivial⟩) (by exact ⟨E, Keep.refl _, Nat.zero_le _, rfl⟩) ?_)))))))))
 rintro i w103 j ⟨E, EL1, h1, h2⟩
 have := EL1.size
 replace HB101 := HB101.ext EL1
 replace HB102 := HB102.ext EL1
 refine c_seq (c_seq (wp_reg zd (l_v (zmI rfl) (l_v (v_fieldAddr (off := 0) (ft := 24) zk rfl) (l_v (v_fieldAddr (off := 1) (ft := 22) zk rfl) (l_v (v_load zk rfl (by first | exact HB102.pv 1 _ rfl | exact HB101.pv 1 _ rfl | assumption)) ?_))))))
 refine l_v (v_len (et := 63) zk rfl) ?_
 refine l_v (v_lss rfl rfl) ?_
 replace HSr := HSr.ext EL1
 replace HSm := HSm.ext EL1
 replace HSs := HSs.ext EL1
 replace HSn := HSn.ext EL1
 refine l_nil (n_then (c_cond rfl rfl (fun hlt => ?_) (fun hlt => ?_)))
 ·
  have hlt := dtrue hlt
  obtain ⟨r, hx, hdr⟩ := getE (l := rs) (i := i) zo
  obtain ⟨s, hy, hds⟩ := getE (l := ss) (i := i) zo
  obtain ⟨q1, cs1, rfl, hq1, _, HP1, hr1⟩ := HSr.el hx
  obtain ⟨q2, cs2, rfl, hq2, _, HP2, hr2⟩ := HSs.el hy
  obtain ⟨b1, d1, b2, d2, rfl, HSa, HSb, _⟩ := tRg_cells hr1
  obtain ⟨b3, d3, b4, d4, rfl, HSc, HSd, _⟩ := tRg_cells hr2
  refine c_skip (n_then (c_seq (c_block (c_seq (wp_any zk ?_)))))
  have e104 : Ext w103 { w103 with drawn := w103.drawn + 1 } := Keep.drawn _ _
  generalize hw104 : ({ w103 with drawn := w103.drawn + 1 } : World) = w104 at e104 ⊢
  clear hw104
  have := e104.size
  refine r_cut 15 rfl zd zd zd ?_
  refine wp_regJW (fun k => w104.heap.size ≤ k) (AlJ w104.heap.size [⟨12, some 14, 63, ([.slice none 0 0, .slice none 0 0, .bool false, .int .i64 0] : List Value), ([.slice b1 r.1.length d1, .slice b2 r.2.1.length d2, .bool r.2.2.1, .int .i64 r.2.2.2] : List Value)⟩, ⟨13, none, 63, ([.slice none 0 0, .slice none 0 0, .bool false, .int .i64 0] : List Value), ([.slice none 0 0, .slice none 0 0, .bool false, .int .i64 0] : List Value)⟩]) zd zd (fun vals done hd => AlJ.start (Nat.le_refl _) (fun a ha => hd a.al (al_lt (n := 15) rfl a ha))) ?_
  refine rj_vJ (fun done vals w hR hcl hdk hJ hdn hd => v_fieldAddr (off := 0) (ft := 24) zk rfl) (fun _ _ _ _ j => j.src (Keep.refl _) rfl) ?_
  refine rj_vJ (fun done vals w hR hcl hdk hJ hdn hd => v_fieldAddr (off := 1) (ft := 22) zk (hd 0 rfl)) (fun _ _ _ _ j => j.src (Keep.refl _) rfl) ?_
  replace HB101 := HB101.ext e104
  replace HB102 := HB102.ext e104
  replace HP1 := HP1.ext e104
  replace HP2 := HP2.ext e104
  refine rj_vJ (fun done vals w hR hcl hdk hJ hdn hd => v_load zk (hd 1 rfl) (by first | exact (HP2.keep hR (by intro h; (try dsimp only at h); (try simp only [add_block] at h); first | omega)) 1 _ rfl | exact pv_1 (HP2.keep hR (by intro h; (try dsimp only at h); (try simp only [add_block] at h); first | omega)) | exact (HP1.keep hR (by intro h; (try dsimp only at h); (try simp only [add_block] at h); first | omega)) 1 _ rfl | exact pv_1 (HP1.keep hR (by intro h; (try dsimp only at h); (try simp only [add_block] at h); first | omega)) | exact (HB102.keep hR dj4).pv 1 _ rfl | exact (HB101.keep hR dj4).pv 1 _ rfl | assumption)) (fun _ _ _ _ j => j.src (Keep.refl _) rfl) ?_
  refine rj_vJ (fun done vals w hR hcl hdk hJ hdn hd => zmI rfl) (fun _ _ _ _ j => j.src (Keep.refl _) rfl) ?_
  refine rj_vJ (fun done vals w hR hcl hdk hJ hdn hd => v_indexAddr (et := 63) (sz := 4) (k := i) zk zk (hd 2 rfl) (hd 3 rfl) (by first | rfl | omega) zo) (fun _ _ _ _ j => j.src (Keep.refl _) rfl) ?_
  refine rj_vJ (fun done vals w hR hcl hdk hJ hdn hd => v_loadA zk (hd 4 rfl) (by first | exact (HP2.keep hR (by intro h; (try dsimp only at h); (try simp only [add_block] at h); first | omega)) | exact (HP1.keep hR (by intro h; (try dsimp only at h); (try simp only [add_block] at h); first | omega)) | exact (HB102.keep hR dj4).pv | exact (HB101.keep hR dj4).pv | assumption) rfl) (fun _ _ _ _ j => j.src (Keep.refl _) rfl) ?_
  refine rj_vJ (fun done vals w hR hcl hdk hJ hdn hd => v_fieldAddr (off := 0) (ft := 24) zk rfl) (fun _ _ _ _ j => j.src (Keep.refl _) rfl) ?_
  refine rj_vJ (fun done vals w hR hcl hdk hJ hdn hd => v_fieldAddr (off := 1) (ft := 22) zk (hd 6 rfl)) (fun _ _ _ _ j => j.src (Keep.refl _) rfl) ?_
  refine rj_vJ (fun done vals w hR hcl hdk hJ hdn hd => v_load zk (hd 7 rfl) (by first | exact (HP2.keep hR (by intro h; (try dsimp only at h); (try simp only [add_block] at h); first | omega)) 1 _ rfl | exact pv_1 (HP2.keep hR (by intro h; (try dsimp only at h); (try simp only [add_block] at h); first | omega)) | exact (HP1.keep hR (by intro h; (try dsimp only at h); (try simp only [add_block] at h); first | omega)) 1 _ rfl | exact pv_1 (HP1.keep hR (by intro h; (try dsimp only at h); (try simp only [add_block] at h); first | omega)) | exact (HB102.keep hR dj4).pv 1 _ rfl | exact (HB101.keep hR dj4).pv 1 _ rfl | assumption)) (fun _ _ _ _ j => j.src (Keep.refl _) rfl) ?_
  refine rj_vJ (fun done vals w hR hcl hdk hJ hdn hd => zmI rfl) (fun _ _ _ _ j => j.src (Keep.refl _) rfl) ?_
  refine rj_vJ (fun done vals w hR hcl hdk hJ hdn hd => v_indexAddr (et := 63) (sz := 4) (k := i) zk zk (hd 8 rfl) (hd 9 rfl) (by first | rfl | omega) zo) (fun _ _ _ _ j => j.src (Keep.refl _) rfl) ?_
  refine rj_vJ (fun done vals w hR hcl hdk hJ hdn hd => v_loadA zk (hd 10 rfl) (by first | exact (HP2.keep hR (by intro h; (try dsimp only at h); (try simp only [add_block] at h); first | omega)) | exact (HP1.keep hR (by intro h; (try dsimp only at h); (try simp only [add_block] at h); first | omega)) | exact (HB102.keep hR dj4).pv | exact (HB101.keep hR dj4).pv | assumption) rfl) (fun _ _ _ _ j => j.src (Keep.refl _) rfl) ?_
  refine rj_d (fun done vals w hR hcl hdk hJ hdn hd => to_alloc (z := .agg #[.slice none 0 0, .slice none 0 0, .bool false, .int .i64 0]) (by unfold kZero; kernel_rfl) fun b w1 hb hB e hz => ⟨Ext.keep e, hJ.al (i := 0) rfl rfl hdk hcl (fun m a hm he => alOne_al (i := 0) (m := m) rfl rfl hm he) (fun a ha => alSt_ne rfl ha (List.mem_of_getElem? (i := 0) rfl)) (fun s hs => by cases hs; exact ⟨_, rfl, rfl⟩) hb hB e⟩) ?_
  refine rj_d (fun done vals w hR hcl hdk hJ hdn hd => to_alloc (z := .agg #[.slice none 0 0, .slice none 0 0, .bool false, .int .i64 0]) (by unfold kZero; kernel_rfl) fun b w1 hb hB e hz => ⟨Ext.keep e, hJ.al (i := 1) rfl rfl hdk hcl (fun m a hm he => alOne_al (i := 1) (m := m) rfl rfl hm he) (fun a ha => alSt_ne rfl ha (List.mem_of_getElem? (i := 1) rfl)) (fun s hs => by cases hs) hb hB e⟩) ?_
  replace E := E.trans e104.keep
  replace HSr := HSr.ext e104
  replace HSm := HSm.ext e104
  replace HSs := HSs.ext e104
  replace HSn := HSn.ext e104
  replace EL1 := EL1.trans e104.keep
  replace HSa := HSa.ext e104
  replace HSb := HSb.ext e104
  replace HSc := HSc.ext e104
  replace HSd := HSd.ext e104
  refine rj_d (fun done vals w hR hcl hdk hJ hdn hd => by
    obtain ⟨b, hb, hn, hB⟩ := hJ.at (i := 0) rfl rfl hdk (hdn 12 rfl)
    exact to_storeA (n := 4) (hb : _ = Value.pointer (some ⟨b, 0, none⟩)) rfl (hd 5 rfl) zk rfl (by first | (simp [slice_one]; done) | (simp only [List.forall_mem_cons, List.cons_append, List.nil_append]; repeat' (first | exact rfl | apply And.intro | (intro u hu; cases hu; done)))) hB (of_decide_eq_true rfl) (fun w1 hB1 kk z => ⟨kk.mono (fun i _ h => by rw [h]; exact hn), hJ.st (i := 0) rfl rfl hdk (hdn 12 rfl) (fun m a hm he => alOne_st (i := 0) (m := m) rfl rfl hm rfl he) (fun a ha h => alSt_ne (a := _) rfl (List.mem_of_getElem? (i := 0) rfl) ha (by rw [h])) rfl (fun m a hm he => alOne_al (i := 0) (m := m) rfl rfl hm he) hb hB1 kk⟩)) ?_
  refine rj_nil (fun vals w105 k105 J105 => ?_)
  rintro _ - rfl _ - rfl _ - rfl _ - rfl _ - rfl _ - rfl _ - rfl _ - rfl _ - rfl _ - rfl _ - rfl _ - rfl v6 qv6 - v7 qv7 - _ - -
  have := k105.size
  obtain ⟨b6, hb6, zb6, HB6⟩ := J105.fin (i := 0) rfl
  try dsimp only at HB6
  have zl6 := HB6.lt
  obtain ⟨b7, hb7, zb7, HB7⟩ := J105.fin (i := 1) rfl
  try dsimp only at HB7
  have zl7 := HB7.lt
  have ne6_7 := J105.ne (i := 0) (m := 1) rfl rfl (by dsimp only; decide) hb6 hb7
  obtain rfl := qv6.trans hb6
  obtain rfl := qv7.trans hb7
  refine fin_nilJ (n_then (r_one zd rfl ?_))
  refine l_to (to_storeA (n := 4) rfl rfl (zvA rfl) zk rfl dj6 HB7 dj5 ?_)
  rintro w106 HX106 k106 z106
  have := k106.size
  replace HB7 := HX106
  clear HX106
  try simp only [zS, Nat.zero_add, Nat.reduceAdd, List.drop_nil] at HB7
  replace HB101 := (HB101.keep k105 dj4).keep k106 dj4
  replace HB102 := (HB102.keep k105 dj4).keep k106 dj4
  replace HP1 := (HP1.keep k105 (by intro h; (try dsimp only at h); (try simp only [add_block] at h); first | omega)).keep k106 (by intro h; (try dsimp only at h); (try simp only [add_block] at h); first | omega)
  replace HP2 := (HP2.keep k105 (by intro h; (try dsimp only at h); (try simp only [add_block] at h); first | omega)).keep k106 (by intro h; (try dsimp only at h); (try simp only [add_block] at h); first | omega)
  replace HB6 := HB6.keep k106 dj4
  refine l_nil (n_then (c_seq (wp_reg zd (l_v (v_fieldAddr (off := 0) (ft := 33) zk rfl) (l_v (v_load zk rfl (by first | exact HB7.pv 0 _ rfl | exact HB6.pv 0 _ rfl | exact HP2 0 _ rfl | exact HP1 0 _ rfl | exact HB102.pv 0 _ rfl | exact HB101.pv 0 _ rfl | assumption)) ?_)))))
  refine l_v (v_fieldAddr (off := 0) (ft := 33) zk rfl) (l_v (v_load zk rfl (by first | exact HB7.pv 0 _ rfl | exact HB6.pv 0 _ rfl | exact HP2 0 _ rfl | exact HP1 0 _ rfl | exact HB102.pv 0 _ rfl | exact HB101.pv 0 _ rfl | assumption)) ?_)
  replace HSa := (HSa.keep k105 dj1).keep k106 dj1
  replace HSc := (HSc.keep k105 dj1).keep k106 dj1
  refine l_to (to_f2 zk (zvS rfl) (zvS rfl) (CallsR.mono (SameKey_c HSa HSc) ?_))
  replace HSr := (HSr.keep k105 dj1).keep k106 dj1
  replace HSm := (HSm.keep k105 dj1).keep k106 dj1
  replace HSs := (HSs.keep k105 dj1).keep k106 dj1
  replace HSn := (HSn.keep k105 dj1).keep k106 dj1
  replace HSb := (HSb.keep k105 dj1).keep k106 dj1
  replace HSd := (HSd.keep k105 dj1).keep k106 dj1
  rintro _ w107 ⟨rfl, e107⟩
  have := e107.size
  refine l_v (v_not rfl) ?_
  refine l_v (zmB rfl) (l_g1 rfl rfl (fun hG => v_fieldAddr (off := 1) (ft := 33) zk rfl) ?_)
  replace HB101 := HB101.ext e107
  replace HB102 := HB102.ext e107
  replace HP1 := HP1.ext e107
  replace HP2 := HP2.ext e107
  replace HB6 := HB6.ext e107
  replace HB7 := HB7.ext e107
  refine l_g1 rfl rfl (fun hG => v_load zk (gd hG rfl) (by first | exact HB7.pv 1 _ rfl | exact HB6.pv 1 _ rfl | exact HP2 1 _ rfl | exact pv_1 HP2 | exact HP1 1 _ rfl | exact pv_1 HP1 | exact HB102.pv 1 _ rfl | exact HB101.pv 1 _ rfl | assumption)) ?_
  refine l_g1 rfl rfl (fun hG => v_fieldAddr (off := 1) (ft := 33) zk rfl) ?_
  refine l_g1 rfl rfl (fun hG => v_load zk (gd hG rfl) (by first | exact HB7.pv 1 _ rfl | exact HB6.pv 1 _ rfl | exact HP2 1 _ rfl | exact pv_1 HP2 | exact HP1 1 _ rfl | exact pv_1 HP1 | exact HB102.pv 1 _ rfl | exact HB101.pv 1 _ rfl | assumption)) ?_
  replace HSb := HSb.ext e107
  replace HSd := HSd.ext e107
  refine l_g1f rfl rfl (fun hG => to_f2 zk (gd hG rfl) (gd hG rfl) (SameKey_c HSb HSd)) ?_
  rintro w108 e108
  have := e108.size
  refine l_g1 rfl rfl (fun hG => v_not (gd hG rfl)) ?_
  refine l_v (v_or rfl rfl) ?_
  refine l_v (zmB rfl) (l_g1 rfl rfl (fun hG => v_fieldAddr (off := 2) (ft := 4) zk rfl) ?_)
  replace HB101 := HB101.ext e108
  replace HB102 := HB102.ext e108
  replace HP1 := HP1.ext e108
  replace HP2 := HP2.ext e108
  replace HB6 := HB6.ext e108
  replace HB7 := HB7.ext e108
  refine l_g1 rfl rfl (fun hG => v_load zk (gd hG rfl) (by first | exact HB7.pv 2 _ rfl | exact HB6.pv 2 _ rfl | exact HP2 2 _ rfl | exact pv_1 HP2 | exact HP1 2 _ rfl | exact pv_1 HP1 | exact HB102.pv 2 _ rfl | exact HB101.pv 2 _ rfl | assumption)) ?_
  refine l_g1 rfl rfl (fun hG => v_fieldAddr (off := 2) (ft := 4) zk rfl) ?_
  refine l_g1 rfl rfl (fun hG => v_load zk (gd hG rfl) (by first | exact HB7.pv 2 _ rfl | exact HB6.pv 2 _ rfl | exact HP2 2 _ rfl | exact pv_1 HP2 | exact HP1 2 _ rfl | exact pv_1 HP1 | exact HB102.pv 2 _ rfl | exact HB101.pv 2 _ rfl | assumption)) ?_
  refine l_g1 rfl rfl (fun hG => v_bneq zk (gd hG rfl) (gd hG rfl)) ?_
  refine l_v (v_or rfl rfl) ?_
  refine l_v (zmB rfl) (l_g1 rfl rfl (fun hG => v_fieldAddr (off := 3) (ft := 3) zk rfl) ?_)
  refine l_g1 rfl rfl (fun hG => v_load zk (gd hG rfl) (by first | exact HB7.pv 3 _ rfl | exact HB6.pv 3 _ rfl | exact HP2 3 _ rfl | exact pv_1 HP2 | exact HP1 3 _ rfl | exact pv_1 HP1 | exact HB102.pv 3 _ rfl | exact HB101.pv 3 _ rfl | assumption)) ?_
  refine l_g1 rfl rfl (fun hG => v_fieldAddr (off := 3) (ft := 3) zk rfl) ?_
  refine l_g1 rfl rfl (fun hG => v_load zk (gd hG rfl) (by first | exact HB7.pv 3 _ rfl | exact HB6.pv 3 _ rfl | exact HP2 3 _ rfl | exact pv_1 HP2 | exact HP1 3 _ rfl | exact pv_1 HP1 | exact HB102.pv 3 _ rfl | exact HB101.pv 3 _ rfl | assumption)) ?_
  refine l_g1 rfl rfl (fun hG => v_neq (gd hG rfl) (gd hG rfl)) ?_
  refine l_v (v_or rfl rfl) ?_
  replace E := (((E.step k105 dj3).step k106 dj3).trans e107.keep).trans e108.keep
  replace EL1 := (((EL1.step k105 dj3).step k106 dj3).trans e107.keep).trans e108.keep
  replace HSr := (HSr.ext e107).ext e108
  replace HSm := (HSm.ext e107).ext e108
  replace HSs := (HSs.ext e107).ext e108
  replace HSn := (HSn.ext e107).ext e108
  replace HSa := (HSa.ext e107).ext e108
  replace HSc := (HSc.ext e107).ext e108
  replace HSb := HSb.ext e108
  replace HSd := HSd.ext e108
  refine l_nil (n_then (c_cond rfl rfl (fun h90 => ?_) (fun h90 => ?_)))
  ·
   refine c_seq (wp_reg zd (l_v (v_assign rfl) (l_nil (n_then (c_ret (r_blk (r_then (r_then (r_blk ?_)))))))))
   refine r_then (ret1v rfl zq (zvB rfl) ?_)
   refine ⟨?_, E⟩
   rw [decide_eq_false]
   rintro h; cases h
   rw [hx] at hy; cases hy
   simp at h90
  refine c_skip (n_blk (n_then (wp_reg zd (l_v (zmI rfl) (l_v (v_add rfl rfl (by first | exact wr_i64 zo zo | rfl)) ?_)))))
  refine l_v (zaI rfl) (l_nil (n_then (⟨i + 1, _, rfl, by (repeat (first | exact Off.of_over _ _ _ | refine Off.upd ?_ zq _ | refine Off.overs ?_ zq _)), ⟨by first | rfl | exact congrArg (Value.int _) zo | (simp; done), trivial⟩, ⟨E, EL1, ?_⟩, ?_⟩)))
  ·
   refine ⟨by omega, ?_⟩
   have hs : r = s := by obtain ⟨r1, r2, r3, r4⟩ := r; obtain ⟨s1, s2, s3, s4⟩ := s; simpa [and_assoc] using h90
   rw [List.take_add_one, List.take_add_one, h2, hx, hy, hs]
  (dsimp only; omega)
 have hrs : rs = ss := by
  have h := dfalse hlt
  rw [← List.take_of_length_le (l := rs) (i := i) zo, h2, List.take_of_length_le zo]
 subst hrs
 refine c_exit (x_then (x_then (x_hit (n_then (c_seq (c_seq (wp_reg zd (l_v (v_assign rfl) (l_nil ?_)))))))))
 refine n_then (c_block (c_loop (τ := Nat) [4, 8, 91, 92, 93, 94, 95, 96, 97, 98, 99, 100, 101, 102, 103, 104, 105, 106, 107, 108, 109, 110, 111, 112, 113, 114, 115, 116, 117, 118, 119, 120, 121, 122, 123, 124, 125, 126] (fun i => [(8, .int .i64 i)]) (fun i W => Ext w W ∧ Keep (NoK) w103 W ∧ i ≤ ms.length ∧ ms.take i = ns.take i) (fun i => ms.length - i) 0 (by exact ⟨rfl, trivial⟩) (by exact ⟨E, Keep.refl _, Nat.zero_le _, rfl⟩) ?_))
 rintro i w109 j ⟨E, EL2, h3, h4⟩
 have := EL2.size
 replace HB101 := HB101.ext EL2
 replace HB102 := HB102.ext EL2
 refine c_seq (c_seq (wp_reg zd (l_v (zmI rfl) (l_v (v_fieldAddr (off := 3) (ft := 25) zk rfl) (l_v (v_load zk rfl (by first | exact HB102.pv 3 _ rfl | exact HB101.pv 3 _ rfl | assumption)) ?_)))))
 refine l_v (v_len (et := 54) zk rfl) ?_
 refine l_v (v_lss rfl rfl) ?_
 replace HSr := HSr.ext EL2
 replace HSm := HSm.ext EL2
 replace HSs := HSs.ext EL2
 replace HSn := HSn.ext EL2
 refine l_nil (n_then (c_cond rfl rfl (fun hlt2 => ?_) (fun hlt2 => ?_)))
 ·
  have hlt2 := dtrue hlt2
  obtain ⟨r, hx, hdr⟩ := getE (l := ms) (i := i) zo
  obtain ⟨s, hy, hds⟩ := getE (l := ns) (i := i) zo
  obtain ⟨q1, cs1, rfl, hq1, _, HP1, hr1⟩ := HSm.el hx
  obtain ⟨q2, cs2, rfl, hq2, _, HP2, hr2⟩ := HSn.el hy
  have HG5 : AgV tMa _ _ _ r := ⟨cs1, rfl, hr1⟩
  have HG6 : AgV tMa _ _ _ s := ⟨cs2, rfl, hr2⟩
  obtain ⟨b1, d1, b2, d2, rfl, _⟩ := tMa_cells hr1
  obtain ⟨b3, d3, b4, d4, rfl, _⟩ := tMa_cells hr2
  have HG7 := AgV.maMv HG5
  have HG8 := AgV.maMv HG6
  refine c_skip (n_then (c_seq (c_block (c_seq (wp_regd (NoK) zk zd zd ?_)))))
  refine rt_v (fun vals w hR hd => v_fieldAddr (off := 3) (ft := 25) zk rfl) ?_
  refine rt_v (fun vals w hR hd => v_load zk (hd 0 rfl) (by first | exact (HP2.ext hR) 3 _ rfl | exact pv_1 (HP2.ext hR) | exact (HP1.ext hR) 3 _ rfl | exact pv_1 (HP1.ext hR) | exact (HB102.ext hR).pv 3 _ rfl | exact (HB101.ext hR).pv 3 _ rfl | assumption)) ?_
  refine rt_v (fun vals w hR hd => zmI rfl) ?_
  refine rt_v (fun vals w hR hd => v_indexAddr (et := 54) (sz := 7) (k := i) zk zk (hd 1 rfl) (hd 2 rfl) (by first | rfl | omega) zo) ?_
  refine rt_v (fun vals w hR hd => v_fieldAddr (off := 6) (ft := 4) zk (hd 3 rfl)) ?_
  refine rt_v (fun vals w hR hd => v_load zk (hd 4 rfl) (by first | exact (HP2.ext hR) 6 _ rfl | exact pv_1 (HP2.ext hR) | exact (HP1.ext hR) 6 _ rfl | exact pv_1 (HP1.ext hR) | exact (HB102.ext hR).pv 6 _ rfl | exact (HB101.ext hR).pv 6 _ rfl | assumption)) ?_
  refine rt_v (fun vals w hR hd => v_fieldAddr (off := 3) (ft := 25) zk rfl) ?_
  refine rt_v (fun vals w hR hd => v_load zk (hd 6 rfl) (by first | exact (HP2.ext hR) 3 _ rfl | exact pv_1 (HP2.ext hR) | exact (HP1.ext hR) 3 _ rfl | exact pv_1 (HP1.ext hR) | exact (HB102.ext hR).pv 3 _ rfl | exact (HB101.ext hR).pv 3 _ rfl | assumption)) ?_
  refine rt_v (fun vals w hR hd => zmI rfl) ?_
  refine rt_v (fun vals w hR hd => v_indexAddr (et := 54) (sz := 7) (k := i) zk zk (hd 7 rfl) (hd 8 rfl) (by first | rfl | omega) zo) ?_
  refine rt_v (fun vals w hR hd => v_fieldAddr (off := 6) (ft := 4) zk (hd 9 rfl)) ?_
  refine rt_v (fun vals w hR hd => v_load zk (hd 10 rfl) (by first | exact (HP2.ext hR) 6 _ rfl | exact pv_1 (HP2.ext hR) | exact (HP1.ext hR) 6 _ rfl | exact pv_1 (HP1.ext hR) | exact (HB102.ext hR).pv 6 _ rfl | exact (HB101.ext hR).pv 6 _ rfl | assumption)) ?_
  refine rt_v (fun vals w hR hd => v_bneq zk (hd 5 rfl) (hd 11 rfl)) ?_
  refine rt_v (fun vals w hR hd => v_move (t := .bool _) (hd 12 rfl)) ?_
  refine rt_g1 rfl (fun vals w hd => hd 13 rfl) (fun vals w hR hd hG => v_fieldAddr (off := 3) (ft := 25) zk rfl) ?_
  refine rt_g1 rfl (fun vals w hd => hd 13 rfl) (fun vals w hR hd hG => v_load zk (gd hG (hd 14 rfl)) (by first | exact (HP2.ext hR) 3 _ rfl | exact pv_1 (HP2.ext hR) | exact (HP1.ext hR) 3 _ rfl | exact pv_1 (HP1.ext hR) | exact (HB102.ext hR).pv 3 _ rfl | exact (HB101.ext hR).pv 3 _ rfl | assumption)) ?_
  refine rt_g1 rfl (fun vals w hd => hd 13 rfl) (fun vals w hR hd hG => zmI rfl) ?_
  refine rt_g1 rfl (fun vals w hd => hd 13 rfl) (fun vals w hR hd hG => v_indexAddr (et := 54) (sz := 7) (k := i) zk zk (gd hG (hd 15 rfl)) (gd hG (hd 16 rfl)) (by first | rfl | omega) zo) ?_
  refine rt_g1 rfl (fun vals w hd => hd 13 rfl) (fun vals w hR hd hG => v_fieldAddr (off := 0) (ft := 39) zk (gd hG (hd 17 rfl))) ?_
  refine rt_g1 rfl (fun vals w hd => hd 13 rfl) (fun vals w hR hd hG => v_loadA zk (gd hG (hd 18 rfl)) (by first | exact (show Pv _ _ [_, _, _, _, _, _] from pv_sub 0 6 (HP2.ext hR)) | exact (show Pv _ _ [_, _, _, _, _, _] from pv_sub 0 6 (HP1.ext hR)) | exact (show Pv _ _ [_, _, _, _, _, _] from pv_sub 0 6 (HB102.ext hR).pv) | exact (show Pv _ _ [_, _, _, _, _, _] from pv_sub 0 6 (HB101.ext hR).pv) | exact pv_at 0 (HP2.ext hR) | exact pv_at 0 (HP1.ext hR) | exact pv_at 0 (HB102.ext hR).pv | exact pv_at 0 (HB101.ext hR).pv | exact (HP2.ext hR) | exact (HP1.ext hR) | assumption) rfl) ?_
  refine rt_g1 rfl (fun vals w hd => hd 13 rfl) (fun vals w hR hd hG => v_fieldAddr (off := 3) (ft := 25) zk rfl) ?_
  refine rt_g1 rfl (fun vals w hd => hd 13 rfl) (fun vals w hR hd hG => v_load zk (gd hG (hd 20 rfl)) (by first | exact (HP2.ext hR) 3 _ rfl | exact pv_1 (HP2.ext hR) | exact (HP1.ext hR) 3 _ rfl | exact pv_1 (HP1.ext hR) | exact (HB102.ext hR).pv 3 _ rfl | exact (HB101.ext hR).pv 3 _ rfl | assumption)) ?_
  refine rt_g1 rfl (fun vals w hd => hd 13 rfl) (fun vals w hR hd hG => zmI rfl) ?_
  refine rt_g1 rfl (fun vals w hd => hd 13 rfl) (fun vals w hR hd hG => v_indexAddr (et := 54) (sz := 7) (k := i) zk zk (gd hG (hd 21 rfl)) (gd hG (hd 22 rfl)) (by first | rfl | omega) zo) ?_
  refine rt_g1 rfl (fun vals w hd => hd 13 rfl) (fun vals w hR hd hG => v_fieldAddr (off := 0) (ft := 39) zk (gd hG (hd 23 rfl))) ?_
  refine rt_g1 rfl (fun vals w hd => hd 13 rfl) (fun vals w hR hd hG => v_loadA zk (gd hG (hd 24 rfl)) (by first | exact (show Pv _ _ [_, _, _, _, _, _] from pv_sub 0 6 (HP2.ext hR)) | exact (show Pv _ _ [_, _, _, _, _, _] from pv_sub 0 6 (HP1.ext hR)) | exact (show Pv _ _ [_, _, _, _, _, _] from pv_sub 0 6 (HB102.ext hR).pv) | exact (show Pv _ _ [_, _, _, _, _, _] from pv_sub 0 6 (HB101.ext hR).pv) | exact pv_at 0 (HP2.ext hR) | exact pv_at 0 (HP1.ext hR) | exact pv_at 0 (HB102.ext hR).pv | exact pv_at 0 (HB101.ext hR).pv | exact (HP2.ext hR) | exact (HP1.ext hR) | assumption) rfl) ?_
  refine rt_g1f rfl (fun vals w hd => hd 13 rfl) (fun vals w hR hd hG => to_f2 zk (gd hG (hd 19 rfl)) (gd hG (hd 25 rfl)) (rSameMove_c (HG7.ext hR) (HG8.ext hR))) ?_
  refine rt_g1 rfl (fun vals w hd => hd 13 rfl) (fun vals w hR hd hG => v_not (gd hG (hd 26 rfl))) ?_
  refine rt_v (fun vals w hR hd => v_or (hd 13 rfl) (hd 27 rfl)) ?_
  refine rt_nil (fun w110 e110 => ?_)
  rintro _ rfl _ rfl _ rfl _ rfl _ rfl _ rfl _ rfl _ rfl _ rfl _ rfl _ rfl _ rfl _ rfl _ rfl _ rfl _ rfl _ rfl _ rfl _ rfl _ rfl _ rfl _ rfl _ rfl _ rfl _ rfl _ rfl _ rfl _ rfl _ rfl
  have := e110.size
  replace E := E.trans e110.keep
  replace HSr := HSr.ext e110
  replace HSm := HSm.ext e110
  replace HSs := HSs.ext e110
  replace HSn := HSn.ext e110
  replace HB101 := HB101.ext e110
  replace HB102 := HB102.ext e110
  replace EL2 := EL2.trans e110.keep
  replace HP1 := HP1.ext e110
  replace HP2 := HP2.ext e110
  replace HG7 := HG7.ext e110
  replace HG8 := HG8.ext e110
  refine fin_nil (n_then (c_cond rfl rfl (fun h126 => ?_) (fun h126 => ?_)))
  ·
   refine c_seq (wp_reg zd (l_v (v_assign rfl) (l_nil (n_then (c_ret (r_blk (r_then (r_then (r_blk ?_)))))))))
   refine r_then (ret1v rfl zq (zvB rfl) ?_)
   refine ⟨?_, E⟩
   rw [decide_eq_false]
   rintro h; cases h
   rw [hx] at hy; cases hy
   simp at h126
  refine c_skip (n_blk (n_then (wp_reg zd (l_v (zmI rfl) (l_v (v_add rfl rfl (by first | exact wr_i64 zo zo | rfl)) ?_)))))
  refine l_v (zaI rfl) (l_nil (n_then (⟨i + 1, _, rfl, by (repeat (first | exact Off.of_over _ _ _ | refine Off.upd ?_ zq _ | refine Off.overs ?_ zq _)), ⟨by first | rfl | exact congrArg (Value.int _) zo | (simp; done), trivial⟩, ⟨E, EL2, ?_⟩, ?_⟩)))
  ·
   refine ⟨by omega, ?_⟩
   have hs : r = s := by obtain ⟨r1, r2⟩ := r; obtain ⟨s1, s2⟩ := s; have h5 : r2 = s2 ∧ r1 = s1 := (by simpa using h126); rw [h5.1, h5.2]
   rw [List.take_add_one, List.take_add_one, h4, hx, hy, hs]
  (dsimp only; omega)
 refine c_exit (x_then (x_then (x_hit (n_then (c_seq (wp_reg zd (l_v (v_assign rfl) (l_nil (n_then ?_)))))))))
 refine c_ret (ret1v rfl zq (zvB rfl) ?_)
 refine ⟨?_, E⟩
 have h := dfalse hlt2
 have : ms = ns := by rw [← List.take_of_length_le (l := ms) (i := i) zo, h4, List.take_of_length_le zo]
 subst this; simp
def szB (s : MtV) : Bool := decide (s.1.2.length ≤ 40) && decide (s.2.2.length ≤ 40)
theorem sized_c {w : World} {F : Nat → Prop} {v : Value} {s : MtV} (HG1 : AgV tMt w F v s) : CallsR Try.prog 7 #[v] w (fun o w' => o = .bool (szB s) ∧ Ext w w') := by
  obtain ⟨a, c, a2, c2, rfl, HSr, HSm, ie, im⟩ := HG1.mt
  refine enter 14 Try.func7 rfl rfl (by simp) ?_
  refine c_seq ?_
  have E := Keep.refl (K := NoK) w
  replace HSr := HSr.all
  replace HSm := HSm.all
  refine wp_reg zd (l_to (to_box (zvA rfl) ?_))
  rintro b101 w101 zb101 HB101 e101 z101
  have := e101.size
  try simp only [Value.cells] at HB101
  refine l_v (v_assign rfl) (l_nil (n_then (c_seq (wp_reg zd (l_v (v_fieldAddr (off := 0) (ft := 24) zk rfl) (l_v (v_fieldAddr (off := 1) (ft := 22) zk rfl) (l_v (v_load zk rfl (by first | exact HB101.pv 1 _ rfl | assumption)) ?_)))))))
  refine l_v (v_len (et := 63) zk rfl) ?_
  refine l_v (v_leq rfl rfl) ?_
  refine l_v (zmB rfl) (l_g1 rfl rfl (fun hG => v_fieldAddr (off := 3) (ft := 25) zk rfl) ?_)
  refine l_g1 rfl rfl (fun hG => v_load zk (gd hG rfl) (by first | exact HB101.pv 3 _ rfl | assumption)) ?_
  refine l_g1 rfl rfl (fun hG => v_len (et := 54) zk (gd hG rfl)) ?_
  refine l_g1 rfl rfl (fun hG => v_leq (gd hG rfl) rfl) ?_
  refine l_v (v_and rfl rfl) ?_
  refine l_v (zaB rfl) (l_nil (n_then (c_ret (ret1v rfl zq (zvB rfl) ?_))))
  replace E := E.trans e101.keep
  refine ⟨?_, E⟩
  congr 1; rw [szB]
  have e1 : decide ((s.1.2.length : Int) ≤ 40) = decide (s.1.2.length ≤ 40) := decide_eq_decide.2 zo
  have e2 : decide ((s.2.2.length : Int) ≤ 40) = decide (s.2.2.length ≤ 40) := decide_eq_decide.2 zo
  rw [e1, e2]
end Go.Proofs.Yteehplloacefmaa
