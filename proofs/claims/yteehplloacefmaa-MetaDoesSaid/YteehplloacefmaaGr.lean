/- A part of the proof: steps and lemmas for the walks through the given program. -/
import Derived.Test.YteehplloacefmaaGe
import Derived.Test.YteehplloacefmaaProg
namespace Go.Proofs.Yteehplloacefmaa
open Go.Vc
set_option linter.unusedVariables false
set_option linter.unusedSimpArgs false
set_option maxRecDepth 100000

theorem Compare_c {w : World} {F G : Nat → Prop} {v u : Value} {x y : List UInt8} (HS1 : Bv w F v x) (HS2 : Bv w G u y) : CallsR Try.prog 77 #[v, u] w (fun r w' => r = .int .i64 (cmpB x y) ∧ Ext w w') := by
  obtain ⟨a1, c1, rfl⟩ := HS1.shape
  obtain ⟨a2, c2, rfl⟩ := HS2.shape
  refine enter 8 Try.func77 rfl rfl (by simp) ?_
  refine c_seq ?_
  have E := Keep.refl (K := NoK) w
  replace HS1 := HS1.all
  replace HS2 := HS2.all
  refine wp_reg zd (l_v (v_assign rfl) (l_nil (n_then (c_seq (wp_reg zd (l_v (zmS rfl) (l_v (zmS rfl) (l_v (to_cmp ⟨_, rfl, zk, zk, zk, zk⟩ rfl rfl (by first | exact HS2 | exact HS1 | assumption) (by first | exact HS2 | exact HS1 | assumption)) ?_))))))))
  refine l_v (zaI rfl) (l_nil (n_then (c_ret (ret1v rfl zq (zvI rfl) ?_))))
  exact ⟨rfl, E⟩
theorem Equal_c {w : World} {F G : Nat → Prop} {v u : Value} {x y : List UInt8} (HS1 : Bv w F v x) (HS2 : Bv w G u y) : CallsR Try.prog 49 #[v, u] w (fun r w' => r = .bool (decide (x = y)) ∧ Ext w w') := by
  obtain ⟨a1, c1, rfl⟩ := HS1.shape
  obtain ⟨a2, c2, rfl⟩ := HS2.shape
  refine enter 10 Try.func49 rfl rfl (by simp) ?_
  refine c_seq ?_
  have E := Keep.refl (K := NoK) w
  replace HS1 := HS1.all
  replace HS2 := HS2.all
  refine wp_reg zd (l_v (v_assign rfl) (l_nil (n_then (c_seq (wp_reg zd (l_v (zmS rfl) (l_v (v_b2s (et := 5) zk zk zk rfl HS1) ?_)))))))
  refine l_v (zmS rfl) (l_v (v_b2s (et := 5) zk zk zk rfl HS2) ?_)
  refine l_v (v_seq rfl rfl) ?_
  refine l_v (zaB rfl) (l_nil (n_then (c_ret (ret1v rfl zq (zvB rfl) ?_))))
  exact ⟨rfl, E⟩
/-- bytes in new memory; none where there were none -/
theorem Clone_c {w : World} {F : Nat → Prop} {v : Value} {x : List UInt8} (HS1 : Bv w F v x) (hl : x.length ≤ 140737488355328) : CallsR Try.prog 52 #[v] w (fun r w' => OwV tU8 5 w' w.heap.size NoK r x ∧ Ext w w') := by
  obtain ⟨a1, c1, rfl⟩ := HS1.shape
  have hmx := HS1.max
  simp only [maxLen] at hmx
  refine enter 8 Try.func52 rfl rfl (by simp) ?_
  refine c_seq ?_
  have E := Keep.refl (K := NoK) w
  replace HS1 := HS1.all
  refine wp_reg zd (l_v (v_assign rfl) (l_nil (n_then (c_seq (c_seq (wp_reg zd (l_v (zmS rfl) (l_v (v_sleneq (et := 5) zk rfl rfl) ?_))))))))
  refine l_nil (n_then (c_cond rfl rfl (fun hc => ?_) (fun hc => ?_)))
  · skip
    refine c_seq (wp_reg zd (l_v (v_assign rfl) (l_nil (n_then (c_ret (r_then (ret1v rfl zq (zvS rfl) ?_)))))))
    have hn : a1 = none := by simpa using hc
    subst hn
    obtain ⟨a, c, hv, _, _, h3, _⟩ := HS1
    cases hv
    have : x = [] := List.eq_nil_of_length_eq_zero (by have := h3 rfl; omega)
    subst this
    exact ⟨OwV.nil _ _ _ _ _, E⟩
  · skip
    refine c_skip (n_then (c_seq (wp_reg zd (l_to (to_slice0 (t := tU8) (et := 5) (bytes := 1) zk ?_)))))
    rintro b2 w2 zb2 HO2 e2 z2
    have zs_e2 := e2.size
    replace E := E.trans (Ext.keep e2)
    replace HS1 := HS1.ext e2
    have zo_HO2 := fun (b : Nat) h => HO2.own_lt (b := b) h
    refine l_v (zmS rfl) (l_to (to_append (et := 5) (bytes := 1) zk (zvS rfl) HO2 (zvS rfl) HS1 (flat_u8.to) (by first | omega | (simp; done) | (simp; omega)) (by simp only [maxLen]; first | omega | (simp; done) | (simp; omega)) zo ?_))
    rintro a3 n3 c3 w3 HO3 hn3 k3 h3 i3
    have zs_k3 := k3.size
    replace E := E.step k3 (by intro i hi he; have he0 := he; (try dsimp only [NoK] at hi he ⊢); (try simp only [Value.ownBlock, Option.some.injEq] at he); first | exact he.elim | omega | exact he | (have := (HO2).own_lt he0; omega) | (have := zo_HO2 _ he0; omega) | (have := (HO2).own_lt he0; rcases hi with hi | hi <;> omega))
    replace HS1 := HS1.keep k3 (by intro i _ hi he; have he0 := he; (try dsimp only [NoK, AllB] at hi he); (try simp only [Value.ownBlock, Option.some.injEq] at he); first | exact hi.elim | exact he.elim | omega | (rcases hi with hi | hi <;> omega) | (rcases he with he | he <;> omega) | (have := (HO2).own_lt he0; omega) | (have := zo_HO2 _ he0; omega) | (have := (HO2).own_lt he0; rcases hi with hi | hi <;> omega))
    have zo_HO3 := fun (b : Nat) h => HO3.own_lt (b := b) h
    refine l_v (zaS rfl) (l_nil (n_then (c_ret (ret1v rfl zq (zvS rfl) ?_))))
    subst hn3
    exact ⟨HO3.base zo, E⟩
theorem Has_c {w : World} {F G : Nat → Prop} {v u : Value} {r : RgV} {k : List UInt8} (HG1 : AgV tRg w F v r) (HS2 : Bv w G u k) : CallsR Try.prog 55 #[v, u] w (fun o w' => o = .bool (hasR r k) ∧ Ext w w') := by
  obtain ⟨a1, c1, a2, c2, rfl, HSf, HSt, hg⟩ := HG1.rg
  obtain ⟨a3, c3, rfl⟩ := HS2.shape
  refine enter 22 Try.func55 rfl rfl (by simp) ?_
  refine c_seq ?_
  have E := Keep.refl (K := NoK) w
  replace HSf := HSf.all
  replace HSt := HSt.all
  replace HS2 := HS2.all
  refine wp_reg zd (l_to (to_box (zvA rfl) ?_))
  rintro b101 w101 zb101 HB101 e101 z101
  have zs_e101 := e101.size
  replace E := E.trans (Ext.keep e101)
  replace HSf := HSf.ext e101
  replace HSt := HSt.ext e101
  replace HS2 := HS2.ext e101
  try simp only [Value.cells] at HB101
  refine l_v (v_assign rfl) (l_nil (n_then (c_seq (wp_reg zd (l_v (zmS rfl) (l_v (v_fieldAddr (off := 0) (ft := 33) zk rfl) (l_v (v_load zk rfl (by first | exact HB101.pv 0 _ rfl | assumption)) ?_)))))))
  refine l_to (to_f2 zk (zvS rfl) (zvS rfl) (CallsR.mono (Compare_c HS2 HSf) ?_))
  rintro _ w5 ⟨rfl, e5⟩
  have zs_e5 := e5.size
  replace E := E.trans (Ext.keep e5)
  replace HSf := HSf.ext e5
  replace HSt := HSt.ext e5
  replace HS2 := HS2.ext e5
  replace HB101 := HB101.ext e5
  refine l_v (v_geq rfl rfl) ?_
  refine l_v (zmB rfl) (l_g1 rfl rfl (fun hG => v_fieldAddr (off := 2) (ft := 4) zk rfl) ?_)
  refine l_g1 rfl rfl (fun hG => v_load zk (gd hG rfl) (by first | exact HB101.pv 2 _ rfl | assumption)) ?_
  refine l_g1 rfl rfl (fun hG => v_not (gd hG rfl)) ?_
  refine l_g1 rfl rfl (fun hG => v_move (t := .bool _) (gd hG rfl)) ?_
  refine l_g2 rfl rfl (fun hG => zmS rfl) ?_
  refine l_g2 rfl rfl (fun hG => v_fieldAddr (off := 1) (ft := 33) zk rfl) ?_
  refine l_g2 rfl rfl (fun hG => v_load zk (gd hG rfl) (by first | exact HB101.pv 1 _ rfl | assumption)) ?_
  refine l_g2f rfl rfl (fun hG => to_f2 zk (gd hG rfl) (gd hG rfl) (Compare_c HS2 HSt)) ?_
  rintro w6 e6
  have zs_e6 := e6.size
  replace E := E.trans (Ext.keep e6)
  replace HSf := HSf.ext e6
  replace HSt := HSt.ext e6
  replace HS2 := HS2.ext e6
  replace HB101 := HB101.ext e6
  refine l_g2 rfl rfl (fun hG => v_lss (gd hG rfl) rfl) ?_
  refine l_g1 rfl rfl (fun hG => v_or (gd hG rfl) (gda hG rfl)) ?_
  refine l_v (v_and rfl rfl) ?_
  refine l_v (zaB rfl) (l_nil (n_then (c_ret (ret1v rfl zq (zvB rfl) ?_))))
  refine ⟨?_, E⟩
  rw [hasR, ← d_cmp_ge, ← d_cmp_lt]
  all_goals (cases decide (0 ≤ cmpB k r.1) <;> cases r.2.2.1 <;> rfl)
theorem group_c {w : World} {n : Int} : CallsR Try.prog 76 #[.int .i64 n] w (fun o w' => o = .bool (grpB n) ∧ Ext w w') := by
  refine enter 9 Try.func76 rfl rfl (by simp) ?_
  refine c_seq (wp_reg zd (l_v (v_assign rfl) (l_nil (n_then (c_seq (wp_reg zd (l_v (zmI rfl) (l_v (v_geq rfl rfl) ?_))))))))
  refine l_v (zmB rfl) (l_g1 rfl rfl (fun hG => zmI rfl) (l_g1 rfl rfl (fun hG => v_lss (gd hG rfl) rfl) ?_))
  refine l_v (v_and rfl rfl) ?_
  refine l_v (zaB rfl) (l_nil (n_then (c_ret (ret1 rfl zq ?_))))
  refine ⟨?_, Keep.refl _⟩
  rw [grpB]
  all_goals (cases decide (1 ≤ n) <;> rfl)
theorem key_c {w : World} {F : Nat → Prop} {v : Value} {k : List UInt8} (HS1 : Bv w F v k) : CallsR Try.prog 59 #[v] w (fun o w' => o = .bool (decide (1 ≤ k.length) && decide (k.length ≤ 24)) ∧ Ext w w') := by
  obtain ⟨a3, c3, rfl⟩ := HS1.shape
  refine enter 11 Try.func59 rfl rfl (by simp) ?_
  refine c_seq ?_
  have E := Keep.refl (K := NoK) w
  replace HS1 := HS1.all
  refine wp_reg zd (l_v (v_assign rfl) (l_nil (n_then (c_seq (wp_reg zd (l_v (zmS rfl) (l_v (v_len (et := 5) zk rfl) ?_)))))))
  refine l_v (v_geq rfl rfl) ?_
  refine l_v (zmB rfl) (l_g1 rfl rfl (fun hG => zmS rfl) (l_g1 rfl rfl (fun hG => v_len (et := 5) zk (gd hG rfl)) ?_))
  refine l_g1 rfl rfl (fun hG => v_leq (gd hG rfl) rfl) ?_
  refine l_v (v_and rfl rfl) ?_
  refine l_v (zaB rfl) (l_nil (n_then (c_ret (ret1v rfl zq (zvB rfl) ?_))))
  refine ⟨?_, E⟩
  have e1 : decide ((1 : Int) ≤ (k.length : Int)) = decide (1 ≤ k.length) := decide_eq_decide.2 zo
  have e2 : decide ((k.length : Int) ≤ 24) = decide (k.length ≤ 24) := decide_eq_decide.2 zo
  rw [← e1, ← e2]
  all_goals (cases decide ((1 : Int) ≤ (k.length : Int)) <;> rfl)
/-- a range in new memory -/
theorem clone_c {w : World} {F : Nat → Prop} {v : Value} {r : RgV} (HG1 : AgV tRg w F v r) (hl1 : r.1.length ≤ 140737488355328) (hl2 : r.2.1.length ≤ 140737488355328) : CallsR Try.prog 56 #[v] w (fun o w' => AgV tRg w' (fun b => w.heap.size ≤ b) o r ∧ Ext w w') := by
  obtain ⟨a1, c1, a2, c2, rfl, HSf, HSt, hg⟩ := HG1.rg
  replace HSf := HSf.all
  replace HSt := HSt.all
  refine enter 12 Try.func56 rfl rfl (by simp) ?_
  refine c_seq ?_
  have E := Keep.refl (K := NoK) w
  replace HSf := HSf.all
  replace HSt := HSt.all
  refine wp_reg zd (l_to (to_box (zvA rfl) ?_))
  rintro b1 w1 zb1 HB1 e1 z1
  have zs_e1 := e1.size
  replace E := E.trans (Ext.keep e1)
  replace HSf := HSf.ext e1
  replace HSt := HSt.ext e1
  try simp only [Value.cells] at HB1
  refine l_to (to_alloc (z := (.agg #[.slice none 0 0, .slice none 0 0, .bool false, .int .i64 0])) (by unfold kZero; kernel_rfl) ?_)
  rintro b2 w2 zb2 HB2 e2 z2
  have zs_e2 := e2.size
  replace E := E.trans (Ext.keep e2)
  replace HSf := HSf.ext e2
  replace HSt := HSt.ext e2
  replace HB1 := HB1.ext e2
  try simp only [Value.cells] at HB2
  refine l_nil (n_then (c_seq (wp_regJ (fun k => k = b1) (StJ b1 _ _ [(7, 0, some 2, (undef : Value)), (9, 1, some 5, (undef : Value))]) zk zd zd (fun vals done hd => StJ.start (HB1.ext (Keep.drawn _ _)) (fun a ha => hd a.1 (st_lt (n := 10) rfl a ha))) ?_)))
  refine rj_vJ (fun done vals w hR hcl hdk hJ hdn hd => v_fieldAddr (off := 0) (ft := 33) zk rfl) (fun done vals w hdk hJ => hJ.src (Keep.refl _) hdk rfl) ?_
  refine rj_vJ (fun done vals w hR hcl hdk hJ hdn hd => v_load zk (hd 0 rfl) (by first | exact (HB2.keep hR dj4).pv 0 _ rfl | exact (hJ.at0 hcl hdk ⟨_, _, rfl, rfl, by decide⟩).pv 0 _ rfl | assumption)) (fun done vals w hdk hJ => hJ.src (Keep.refl _) hdk rfl) ?_
  refine rj_to (fun v W => Bv W (fun b => b2 < b) v r.1) (fun v w w' h k => h.keep k dj2) (fun done vals w hR hcl hdk hJ hdn hd => OpTo.mono (K := fun v w1 => Ext w w1 ∧ (fun v W => Bv W (fun b => b2 < b) v r.1) v w1) (to_f1 zk (hd 1 rfl) (CallsR.mono (Clone_c (HSf.keep hR dj2) hl1) fun v w1 ⟨h, e⟩ => ⟨e, (h.fresh (Nat.le_refl _)).mono fun b _ hb => by have := hR.size; omega⟩)) fun v w1 h => ⟨Ext.keep h.1, h.2, hJ.src h.1 hdk rfl⟩) ?_
  refine rj_vJ (fun done vals w hR hcl hdk hJ hdn hd => v_fieldAddr (off := 1) (ft := 33) zk rfl) (fun done vals w hdk hJ => hJ.src (Keep.refl _) hdk rfl) ?_
  refine rj_vJ (fun done vals w hR hcl hdk hJ hdn hd => v_load zk (hd 3 rfl) (by first | exact (HB2.keep hR dj4).pv 1 _ rfl | exact (hJ.at0 hcl hdk ⟨_, _, rfl, rfl, by decide⟩).pv 1 _ rfl | assumption)) (fun done vals w hdk hJ => hJ.src (Keep.refl _) hdk rfl) ?_
  refine rj_to (fun v W => Bv W (fun b => b2 < b) v r.2.1) (fun v w w' h k => h.keep k dj2) (fun done vals w hR hcl hdk hJ hdn hd => OpTo.mono (K := fun v w1 => Ext w w1 ∧ (fun v W => Bv W (fun b => b2 < b) v r.2.1) v w1) (to_f1 zk (hd 4 rfl) (CallsR.mono (Clone_c (HSt.keep hR dj2) hl2) fun v w1 ⟨h, e⟩ => ⟨e, (h.fresh (Nat.le_refl _)).mono fun b _ hb => by have := hR.size; omega⟩)) fun v w1 h => ⟨Ext.keep h.1, h.2, hJ.src h.1 hdk rfl⟩) ?_
  refine rj_vJ (fun done vals w hR hcl hdk hJ hdn hd => v_fieldAddr (off := 0) (ft := 33) zk rfl) (fun done vals w hdk hJ => hJ.src (Keep.refl _) hdk rfl) ?_
  refine rj_d (fun done vals w hR hcl hdk hJ hdn hd => to_store (hd 6 rfl) rfl rfl (by first | exact SlV.one (hd 2 rfl) | exact SlV.one (hd 2 rfl).1 | exact OwV.one (hd 2 rfl) | exact OwV.one (hd 2 rfl).1 | (have h := hd 2 rfl; dsimp only [setS] at h; rw [h]; rfl) | exact (hd 2 rfl).1 | (obtain ⟨_, h⟩ := hd 2 rfl; rw [h]; rfl) | exact (congrArg Value.oneCell' (hd 2 rfl)).trans rfl) zk (hJ.at (n := 0) rfl hdk (fun m h => by cases h)) (by rw [conts_len]; first | exact of_decide_eq_true rfl | (rw [hlen]; exact of_decide_eq_true rfl)) (fun w1 hB k z => ⟨k, hJ.step (n := 0) rfl hdk (fun m h => by cases h) (fun k h => by cases h; exact hdn 2 rfl) (once_st rfl) rfl hB⟩)) ?_
  refine rj_vJ (fun done vals w hR hcl hdk hJ hdn hd => v_fieldAddr (off := 1) (ft := 33) zk rfl) (fun done vals w hdk hJ => hJ.src (Keep.refl _) hdk rfl) ?_
  refine rj_d (fun done vals w hR hcl hdk hJ hdn hd => to_store (hd 8 rfl) rfl rfl (by first | exact SlV.one (hd 5 rfl) | exact SlV.one (hd 5 rfl).1 | exact OwV.one (hd 5 rfl) | exact OwV.one (hd 5 rfl).1 | (have h := hd 5 rfl; dsimp only [setS] at h; rw [h]; rfl) | exact (hd 5 rfl).1 | (obtain ⟨_, h⟩ := hd 5 rfl; rw [h]; rfl) | exact (congrArg Value.oneCell' (hd 5 rfl)).trans rfl) zk (hJ.at (n := 1) rfl hdk (fun m h => ⟨_, by cases h; rfl, hdn 7 rfl⟩)) (by rw [conts_len]; first | exact of_decide_eq_true rfl | (rw [hlen]; exact of_decide_eq_true rfl)) (fun w1 hB k z => ⟨k, hJ.step (n := 1) rfl hdk (fun m h => ⟨_, by cases h; rfl, hdn 7 rfl⟩) (fun k h => by cases h; exact hdn 5 rfl) (once_st rfl) rfl hB⟩)) ?_
  refine rj_nil (fun vals w101 k101 J101 => ?_)
  rintro _ - rfl _ - rfl v5 qs2 HS5 _ - rfl _ - rfl v8 qs5 HS8 _ - rfl _ - - _ - rfl _ - -
  have zs_k101 := k101.size
  have HX101 := J101.fin
  obtain ⟨a5, c5, rfl⟩ := HS5.shape
  obtain ⟨a8, c8, rfl⟩ := HS8.shape
  simp only [conts, sv, ← qs2, ← qs5] at HX101
  replace E := E.step k101 dj3
  replace HSf := HSf.keep k101 dj1
  replace HSt := HSt.keep k101 dj1
  replace HB2 := HB2.keep k101 dj4
  replace HB1 := HX101
  clear HX101
  try simp only [zS, Nat.zero_add, Nat.reduceAdd, List.drop_nil] at HB1
  refine fin_nilJ (n_then (c_seq (wp_reg zd (l_v (v_loadA zk rfl (by first | exact HB2.pv | exact HB1.pv | assumption) rfl) ?_))))
  refine l_to (to_storeA (n := 4) rfl rfl (zvA rfl) zk rfl dj6 HB2 dj5 ?_)
  rintro w102 HX102 k102 z102
  have zs_k102 := k102.size
  replace E := E.step k102 dj3
  replace HSf := HSf.keep k102 dj1
  replace HSt := HSt.keep k102 dj1
  replace HB1 := HB1.keep k102 dj4
  replace HS5 := HS5.keep k102 dj1
  replace HS8 := HS8.keep k102 dj1
  replace HB2 := HX102
  clear HX102
  try simp only [zS, Nat.zero_add, Nat.reduceAdd, List.drop_nil] at HB2
  refine l_nil (n_then (c_ret (ret1c (n := 4) rfl zq rfl zk HB2.pv rfl ?_)))
  exact ⟨AgV.mkRg (HS5.mono fun b _ h => by omega) (HS8.mono fun b _ h => by omega) hg, E⟩
end Go.Proofs.Yteehplloacefmaa

namespace Go.Proofs.Yteehplloacefmaa
open Go.Vc
set_option linter.unusedVariables false
set_option linter.unusedSimpArgs false
set_option maxRecDepth 100000

theorem mayM_head {e : Int} {r0 : RgV} {l : List RgV} (h : ((((decide (e < 1) || decide (2147483647 < e)) || decide (((r0 :: l).length : Int) < 1)) || decide (16 < ((r0 :: l).length : Int))) || decide (0 < (r0.1.length : Int))) = true) : mayM (e, r0 :: l) = false := by
  simp only [Bool.or_eq_true, decide_eq_true_eq] at h
  have : ¬ (1 ≤ e ∧ e ≤ 2147483647 ∧ 1 ≤ (r0 :: l).length ∧ (r0 :: l).length ≤ 16 ∧ r0.1 = []) := by
    rintro ⟨h1, h2, h3, h4, h5⟩
    rw [h5] at h
    simp only [List.length_nil] at h
    omega
  rw [← Bool.not_eq_true]
  intro hh
  simp only [mayM, Bool.and_eq_true, decide_eq_true_eq, List.headD_cons] at hh
  exact this ⟨hh.1.1.1.1.1, hh.1.1.1.1.2, hh.1.1.1.2, hh.1.1.2, List.isEmpty_iff.1 hh.1.2⟩
theorem mayM_head2 {e : Int} {r0 : RgV} {l : List RgV} (h : ((((decide (e < 1) || decide (2147483647 < e)) || decide (((r0 :: l).length : Int) < 1)) || decide (16 < ((r0 :: l).length : Int))) || decide (0 < (r0.1.length : Int))) = false) : mayM (e, r0 :: l) = mayL (r0 :: l) ∧ (r0 :: l).length ≤ 16 := by
  simp only [Bool.or_eq_false_iff, decide_eq_false_iff_not] at h
  have h5 : r0.1 = [] := List.eq_nil_of_length_eq_zero zo
  have h1 : decide (1 ≤ e) = true := decide_eq_true zo
  have h2 : decide (e ≤ 2147483647) = true := decide_eq_true zo
  have h3 : decide (1 ≤ (r0 :: l).length) = true := decide_eq_true zo
  have h4 : decide ((r0 :: l).length ≤ 16) = true := decide_eq_true zo
  refine ⟨?_, by omega⟩
  unfold mayM
  simp only [List.headD_cons]
  rw [h1, h2, h3, h4, h5]; rfl
theorem mayM_nil {e : Int} : mayM (e, []) = false := by simp [mayM]

theorem May_c {w : World} {F : Nat → Prop} {v : Value} {e : Int} {rs : List RgV} (HG1 : AgV tMp w F v (e, rs)) : CallsR Try.prog 50 #[v] w (fun o w' => o = .bool (mayM (e, rs)) ∧ Ext w w') := by
  obtain ⟨a, c, rfl, HSr, he⟩ := HG1.mp
  simp only at HSr he
  have hmx := HSr.len_max
  rcases rs with _ | ⟨r0, l⟩
  · skip
    refine enter 93 Try.func50 rfl rfl (by simp) ?_
    refine c_seq ?_
    have E := Keep.refl (K := NoK) w
    replace HSr := HSr.all
    refine wp_reg zd (l_to (to_box (zvA rfl) ?_))
    rintro b101 w101 zb101 HB101 e101 z101
    have zs_e101 := e101.size
    replace E := E.trans (Ext.keep e101)
    replace HSr := HSr.ext e101
    try simp only [Value.cells] at HB101
    refine l_v (v_assign rfl) (l_nil (n_then (c_seq (c_seq (wp_reg zd (l_v (v_fieldAddr (off := 0) (ft := 2) zk rfl) (l_v (v_load zk rfl (by first | exact HB101.pv 0 _ rfl | assumption)) ?_)))))))
    refine l_v (v_lss rfl rfl) ?_
    refine l_v (zmB rfl) (l_g1 rfl rfl (fun hG => v_fieldAddr (off := 0) (ft := 2) zk rfl) ?_)
    refine l_g1 rfl rfl (fun hG => v_load zk (gd hG rfl) (by first | exact HB101.pv 0 _ rfl | assumption)) ?_
    refine l_g1 rfl rfl (fun hG => v_gtr (gd hG rfl) rfl) ?_
    refine l_v (v_or rfl rfl) ?_
    refine l_v (zmB rfl) (l_g1 rfl rfl (fun hG => v_fieldAddr (off := 1) (ft := 22) zk rfl) ?_)
    refine l_g1 rfl rfl (fun hG => v_load zk (gd hG rfl) (by first | exact HB101.pv 1 _ rfl | assumption)) ?_
    refine l_g1 rfl rfl (fun hG => v_len (et := 63) zk (gd hG rfl)) ?_
    refine l_g1 rfl rfl (fun hG => v_lss (gd hG rfl) rfl) ?_
    refine l_v (v_or rfl rfl) ?_
    refine l_v (zmB rfl) (l_g1 rfl rfl (fun hG => v_fieldAddr (off := 1) (ft := 22) zk rfl) ?_)
    refine l_g1 rfl rfl (fun hG => v_load zk (gd hG rfl) (by first | exact HB101.pv 1 _ rfl | assumption)) ?_
    refine l_g1 rfl rfl (fun hG => v_len (et := 63) zk (gd hG rfl)) ?_
    refine l_g1 rfl rfl (fun hG => v_gtr (gd hG rfl) rfl) ?_
    refine l_v (v_or rfl rfl) ?_
    refine l_v (zmB rfl) (l_g1 rfl rfl (fun hG => v_fieldAddr (off := 1) (ft := 22) zk rfl) ?_)
    refine l_g1 rfl rfl (fun hG => v_load zk (gd hG rfl) (by first | exact HB101.pv 1 _ rfl | assumption)) ?_
    refine l_g1 rfl rfl (fun hG => show OpVat _ _ _ _ (undef) from False.elim ((by simp at hG))) ?_
    refine l_g1 rfl rfl (fun hG => show OpVat _ _ _ _ (undef) from False.elim ((by simp at hG))) ?_
    refine l_g1 rfl rfl (fun hG => show OpVat _ _ _ _ (undef) from False.elim ((by simp at hG))) ?_
    refine l_g1 rfl rfl (fun hG => show OpVat _ _ _ _ (undef) from False.elim ((by simp at hG))) ?_
    refine l_g1 rfl rfl (fun hG => show OpVat _ _ _ _ (.bool true) from False.elim ((by simp at hG))) ?_
    refine l_v (v_or rfl rfl) ?_
    refine l_nil (n_then (c_cond rfl rfl (fun hc => ?_) (fun hc => ?_)))
    · skip
      refine c_seq (wp_reg zd (l_v (v_assign rfl) (l_nil (n_then (c_ret (r_then (ret1v rfl zq (zvB rfl) ?_)))))))
      exact ⟨by rw [mayM_nil], E⟩
    · skip
      simp at hc
  · replace HSr := HSr.all
    obtain ⟨q0, cs0, rfl, hq0, _, HP0, hr0⟩ := HSr.el (k := 0) rfl
    obtain ⟨b1, d1, b2, d2, rfl, HSf0, HSt0, hg0⟩ := tRg_cells hr0
    obtain ⟨rs, hrs⟩ : ∃ x, x = r0 :: l := ⟨_, rfl⟩
    refine enter 93 Try.func50 rfl rfl (by simp) ?_
    refine c_seq ?_
    have E := Keep.refl (K := NoK) w
    replace HSr := HSr.all
    refine wp_reg zd (l_to (to_box (zvA rfl) ?_))
    rintro b101 w101 zb101 HB101 e101 z101
    have zs_e101 := e101.size
    replace E := E.trans (Ext.keep e101)
    replace HSr := HSr.ext e101
    replace HP0 := HP0.ext e101
    try simp only [Value.cells] at HB101
    refine l_v (v_assign rfl) (l_nil (n_then (c_seq (c_seq (wp_reg zd (l_v (v_fieldAddr (off := 0) (ft := 2) zk rfl) (l_v (v_load zk rfl (by first | exact HB101.pv 0 _ rfl | exact HP0 0 _ rfl | assumption)) ?_)))))))
    refine l_v (v_lss rfl rfl) ?_
    refine l_v (zmB rfl) (l_g1 rfl rfl (fun hG => v_fieldAddr (off := 0) (ft := 2) zk rfl) ?_)
    refine l_g1 rfl rfl (fun hG => v_load zk (gd hG rfl) (by first | exact HB101.pv 0 _ rfl | exact HP0 0 _ rfl | assumption)) ?_
    refine l_g1 rfl rfl (fun hG => v_gtr (gd hG rfl) rfl) ?_
    refine l_v (v_or rfl rfl) ?_
    refine l_v (zmB rfl) (l_g1 rfl rfl (fun hG => v_fieldAddr (off := 1) (ft := 22) zk rfl) ?_)
    refine l_g1 rfl rfl (fun hG => v_load zk (gd hG rfl) (by first | exact HB101.pv 1 _ rfl | exact HP0 1 _ rfl | exact pv_1 HP0 | assumption)) ?_
    refine l_g1 rfl rfl (fun hG => v_len (et := 63) zk (gd hG rfl)) ?_
    refine l_g1 rfl rfl (fun hG => v_lss (gd hG rfl) rfl) ?_
    refine l_v (v_or rfl rfl) ?_
    refine l_v (zmB rfl) (l_g1 rfl rfl (fun hG => v_fieldAddr (off := 1) (ft := 22) zk rfl) ?_)
    refine l_g1 rfl rfl (fun hG => v_load zk (gd hG rfl) (by first | exact HB101.pv 1 _ rfl | exact HP0 1 _ rfl | exact pv_1 HP0 | assumption)) ?_
    refine l_g1 rfl rfl (fun hG => v_len (et := 63) zk (gd hG rfl)) ?_
    refine l_g1 rfl rfl (fun hG => v_gtr (gd hG rfl) rfl) ?_
    refine l_v (v_or rfl rfl) ?_
    refine l_v (zmB rfl) (l_g1 rfl rfl (fun hG => v_fieldAddr (off := 1) (ft := 22) zk rfl) ?_)
    refine l_g1 rfl rfl (fun hG => v_load zk (gd hG rfl) (by first | exact HB101.pv 1 _ rfl | exact HP0 1 _ rfl | exact pv_1 HP0 | assumption)) ?_
    refine l_g1 rfl rfl (fun hG => v_indexAddr (et := 63) (sz := 4) (k := 0) zk zk (gd hG rfl) rfl (by first | rfl | omega) (by simp)) ?_
    refine l_g1 rfl rfl (fun hG => v_fieldAddr (off := 0) (ft := 33) zk (gd hG rfl)) ?_
    refine l_g1 rfl rfl (fun hG => v_load zk (gd hG rfl) (by first | exact HB101.pv 0 _ rfl | exact HP0 0 _ rfl | assumption)) ?_
    refine l_g1 rfl rfl (fun hG => v_len (et := 5) zk (gd hG rfl)) ?_
    refine l_g1 rfl rfl (fun hG => v_gtr (gd hG rfl) rfl) ?_
    refine l_v (v_or rfl rfl) ?_
    refine l_nil (n_then (c_cond rfl rfl (fun hc => ?_) (fun hc => ?_)))
    · skip
      refine c_seq (wp_reg zd (l_v (v_assign rfl) (l_nil (n_then (c_ret (r_then (ret1v rfl zq (zvB rfl) ?_)))))))
      exact ⟨by rw [mayM_head hc], E⟩
    · skip
      obtain ⟨hm, h16⟩ := mayM_head2 hc
      rw [← hrs] at *
      refine c_skip (n_then (c_seq (c_seq (wp_reg zd (l_v (v_fieldAddr (off := 1) (ft := 22) zk rfl) (l_v (v_load zk rfl (by first | exact HB101.pv 1 _ rfl | assumption)) ?_))))))
      refine l_v (v_len (et := 63) zk rfl) ?_
      refine l_v (v_move rfl) (l_nil (n_then (c_block (c_loop (τ := Nat) [2, 3, 4, 5, 38, 39, 40, 41, 42, 43, 44, 45, 46, 47, 48, 49, 50, 51, 52, 53, 54, 55, 56, 57, 58, 59, 60, 61, 62, 63, 64, 65, 66, 67, 68, 69, 70, 71, 72, 73, 74, 75, 76, 77, 78, 79, 80, 81, 82, 83, 84, 85, 86, 87, 88, 89, 90, 91, 92] (fun i => [(38, .int .i64 i)]) (fun i W => Ext w W ∧ Keep (NoK) w101 W ∧ i ≤ rs.length ∧ mayL rs = mayL (rs.drop i)) (fun i => rs.length - i) 0 (by exact ⟨rfl, trivial⟩) (by exact ⟨E, Keep.refl _, Nat.zero_le _, by rw [List.drop_zero]⟩) ?_))))
      rintro i w102 j ⟨E, EL1, h1, h2⟩
      have zs_EL1 := EL1.size
      replace HSr := HSr.ext EL1
      replace HB101 := HB101.ext EL1
      refine c_seq (wp_reg zd (l_v (v_lss rfl rfl) ?_))
      refine l_nil (n_then (c_seq (c_cond rfl rfl (fun hlt => ?_) (fun hlt => ?_))))
      · skip
        have hlt := dtrue hlt
        obtain ⟨r, hx, hdr⟩ := getE (l := rs) (i := i) zo
        rw [hdr] at h2
        refine c_skip (n_then (c_seq (c_block (c_seq (wp_reg zd (l_v (zmI rfl) (l_to (to_index (et := 63) zk zk (zvS rfl) HSr (zvI rfl) rfl hx ?_))))))))
        rintro q cs hF HPq hr
        obtain ⟨a1, c1, a2, c2, rfl, HSf, HSt, hg⟩ := tRg_cells hr
        refine l_v (v_loadA zk rfl (by first | exact HPq | exact HB101.pv | assumption) rfl) ?_
        refine l_to (to_alloc (z := .agg #[.slice none 0 0, .slice none 0 0, .bool false, .int .i64 0]) (by unfold kZero; kernel_rfl) ?_)
        rintro b103 w103 zb103 HB103 e103 z103
        have zs_e103 := e103.size
        replace E := E.trans (Ext.keep e103)
        replace HSr := HSr.ext e103
        replace HB101 := HB101.ext e103
        replace EL1 := EL1.trans (Ext.keep e103)
        replace HPq := HPq.ext e103
        replace HSf := HSf.ext e103
        replace HSt := HSt.ext e103
        try simp only [Value.cells] at HB103
        refine l_v (zaI rfl) (l_to (to_storeA (n := 4) rfl rfl (zvA rfl) zk rfl dj6 HB103 dj5 ?_))
        rintro w104 HX104 k104 z104
        have zs_k104 := k104.size
        replace E := E.step k104 dj3
        replace HSr := HSr.keep k104 dj1
        replace HB101 := HB101.keep k104 dj4
        replace EL1 := EL1.step k104 dj3
        replace HPq := HPq.keep k104 (by intro h; (try dsimp only at h); (try simp only [add_block] at h); first | omega)
        replace HSf := HSf.keep k104 dj1
        replace HSt := HSt.keep k104 dj1
        replace HB103 := HX104
        clear HX104
        try simp only [zS, Nat.zero_add, Nat.reduceAdd, List.drop_nil] at HB103
        refine l_nil (n_then (c_seq (wp_reg zd (l_v (zmI rfl) (l_v (v_fieldAddr (off := 1) (ft := 22) zk rfl) (l_v (v_load zk rfl (by first | exact HB103.pv 1 _ rfl | exact HPq 1 _ rfl | exact pv_1 HPq | exact HB101.pv 1 _ rfl | assumption)) ?_))))))
        refine l_v (v_len (et := 63) zk rfl) ?_
        refine l_v (v_sub rfl rfl (by first | exact wr_i64 zo zo | rfl)) ?_
        refine l_v (v_eql rfl rfl) ?_
        refine l_v (zaB rfl) (l_nil (n_then (c_block (c_seq (wp_reg zd (l_v (v_fieldAddr (off := 3) (ft := 3) zk rfl) (l_v (v_load zk rfl (by first | exact HB103.pv 3 _ rfl | exact HPq 3 _ rfl | exact pv_1 HPq | exact HB101.pv 3 _ rfl | assumption)) ?_)))))))
        refine l_to (to_f1 zk (zvI rfl) (CallsR.mono (group_c) ?_))
        rintro _ w105 ⟨rfl, e105⟩
        have zs_e105 := e105.size
        replace E := E.trans (Ext.keep e105)
        replace HSr := HSr.ext e105
        replace HB101 := HB101.ext e105
        replace EL1 := EL1.trans (Ext.keep e105)
        replace HPq := HPq.ext e105
        replace HSf := HSf.ext e105
        replace HSt := HSt.ext e105
        replace HB103 := HB103.ext e105
        have hlast : decide ((i : Int) = (rs.length : Int) - 1) = decide (rs.drop (i + 1) = []) := decide_eq_decide.2 (by rw [List.drop_eq_nil_iff]; omega)
        rw [hlast]
        refine l_v (v_not rfl) ?_
        refine l_v (zmB rfl) (l_g1 rfl rfl (fun hG => v_fieldAddr (off := 2) (ft := 4) zk rfl) ?_)
        refine l_g1 rfl rfl (fun hG => v_load zk (gd hG rfl) (by first | exact HB103.pv 2 _ rfl | exact HPq 2 _ rfl | exact pv_1 HPq | exact HB101.pv 2 _ rfl | assumption)) ?_
        refine l_g1 rfl rfl (fun hG => zmB rfl) (l_g1 rfl rfl (fun hG => v_beql zk (gd hG rfl) (gd hG rfl)) ?_)
        refine l_v (v_or rfl rfl) ?_
        refine l_v (zaB rfl) (l_nil (n_then (c_cond rfl rfl (fun h49 => ?_) (fun h49 => ?_))))
        · skip
          refine c_seq (wp_reg zd (l_v (v_assign rfl) (l_nil (n_then (c_ret (r_blk (r_blk (r_then (r_then ?_)))))))))
          refine r_blk (r_then (ret1v rfl zq (zvB rfl) ?_))
          refine ⟨?_, E⟩
          rw [hm, h2]
          cases hd : rs.drop (i + 1) with
          | nil => rw [hd] at h49; revert h49; simp only [mayL]; cases grpB r.2.2.2 <;> cases r.2.2.1 <;> simp
          | cons s l2 => rw [hd] at h49; revert h49; simp only [mayL]; cases grpB r.2.2.2 <;> cases r.2.2.1 <;> simp
        · skip
          refine c_seq (wp_reg zd (l_v (zmB rfl) (l_v (zaB rfl) (l_nil (n_then (c_cond rfl rfl (fun hl => ?_) (fun hl => ?_)))))))
          · skip
            refine c_seq (wp_reg zd (l_v (v_fieldAddr (off := 1) (ft := 33) zk rfl) (l_v (v_load zk rfl (by first | exact HB103.pv 1 _ rfl | exact HPq 1 _ rfl | exact pv_1 HPq | exact HB101.pv 1 _ rfl | assumption)) ?_)))
            refine l_v (v_len (et := 5) zk rfl) ?_
            refine l_v (v_eql rfl rfl) ?_
            refine l_v (zaB rfl) (l_nil (n_then (c_ret (r_blk (r_blk (r_then (r_then (r_blk (r_then ?_)))))))))
            refine ret1v rfl zq (zvB rfl) ?_
            refine ⟨?_, E⟩
            have hd := dtrue hl
            rw [hd] at h49 h2
            rw [hm, h2]
            rw [isE_len]
            revert h49
            simp only [mayL]
            cases grpB r.2.2.2 <;> cases r.2.2.1 <;> simp
          · skip
            have hnl := dfalse hl
            have hlt2 : i + 1 < rs.length := by rw [List.drop_eq_nil_iff] at hnl; omega
            obtain ⟨s, hx2, hds⟩ := getE (l := rs) (i := i + 1) hlt2
            obtain ⟨q1, cs1, hq1, hF1, _, HPs, hrs1⟩ := HSr.el hx2
            cases hq1
            obtain ⟨a3, c3, a4, c4, rfl, HSsf, HSst, hgs⟩ := tRg_cells hrs1
            replace HSsf := HSsf.all
            refine c_seq (wp_regd (NoK) zk zd zd ?_)
            refine rt_v (fun vals w hR hd => v_fieldAddr (off := 1) (ft := 33) zk rfl) ?_
            refine rt_v (fun vals w hR hd => v_load zk (hd 0 rfl) (by first | exact (HPs.ext hR) 1 _ rfl | exact pv_1 (HPs.ext hR) | exact (HB103.ext hR).pv 1 _ rfl | exact (HPq.ext hR) 1 _ rfl | exact pv_1 (HPq.ext hR) | exact (HB101.ext hR).pv 1 _ rfl | assumption)) ?_
            refine rt_v (fun vals w hR hd => v_len (et := 5) zk (hd 1 rfl)) ?_
            refine rt_v (fun vals w hR hd => v_gtr (hd 2 rfl) rfl) ?_
            refine rt_v (fun vals w hR hd => v_move (t := .bool _) (hd 3 rfl)) ?_
            refine rt_g1 rfl (fun vals w hd => hd 4 rfl) (fun vals w hR hd hG => v_fieldAddr (off := 0) (ft := 33) zk rfl) ?_
            refine rt_g1 rfl (fun vals w hd => hd 4 rfl) (fun vals w hR hd hG => v_load zk (gd hG (hd 5 rfl)) (by first | exact (HPs.ext hR) 0 _ rfl | exact (HB103.ext hR).pv 0 _ rfl | exact (HPq.ext hR) 0 _ rfl | exact (HB101.ext hR).pv 0 _ rfl | assumption)) ?_
            refine rt_g1 rfl (fun vals w hd => hd 4 rfl) (fun vals w hR hd hG => v_fieldAddr (off := 1) (ft := 33) zk rfl) ?_
            refine rt_g1 rfl (fun vals w hd => hd 4 rfl) (fun vals w hR hd hG => v_load zk (gd hG (hd 7 rfl)) (by first | exact (HPs.ext hR) 1 _ rfl | exact pv_1 (HPs.ext hR) | exact (HB103.ext hR).pv 1 _ rfl | exact (HPq.ext hR) 1 _ rfl | exact pv_1 (HPq.ext hR) | exact (HB101.ext hR).pv 1 _ rfl | assumption)) ?_
            refine rt_g1f rfl (fun vals w hd => hd 4 rfl) (fun vals w hR hd hG => to_f2 zk (gd hG (hd 6 rfl)) (gd hG (hd 8 rfl)) (Compare_c (HSf.ext hR) (HSt.ext hR))) ?_
            refine rt_g1 rfl (fun vals w hd => hd 4 rfl) (fun vals w hR hd hG => v_geq (gd hG (hd 9 rfl)) rfl) ?_
            refine rt_v (fun vals w hR hd => v_or (hd 4 rfl) (hd 10 rfl)) ?_
            refine rt_v (fun vals w hR hd => v_move (t := .bool _) (hd 11 rfl)) ?_
            refine rt_g1 rfl (fun vals w hd => hd 12 rfl) (fun vals w hR hd hG => v_fieldAddr (off := 1) (ft := 33) zk rfl) ?_
            refine rt_g1 rfl (fun vals w hd => hd 12 rfl) (fun vals w hR hd hG => v_load zk (gd hG (hd 13 rfl)) (by first | exact (HPs.ext hR) 1 _ rfl | exact pv_1 (HPs.ext hR) | exact (HB103.ext hR).pv 1 _ rfl | exact (HPq.ext hR) 1 _ rfl | exact pv_1 (HPq.ext hR) | exact (HB101.ext hR).pv 1 _ rfl | assumption)) ?_
            refine rt_g1 rfl (fun vals w hd => hd 12 rfl) (fun vals w hR hd hG => v_fieldAddr (off := 1) (ft := 22) zk rfl) ?_
            refine rt_g1 rfl (fun vals w hd => hd 12 rfl) (fun vals w hR hd hG => v_load zk (gd hG (hd 15 rfl)) (by first | exact (HPs.ext hR) 1 _ rfl | exact pv_1 (HPs.ext hR) | exact (HB103.ext hR).pv 1 _ rfl | exact (HPq.ext hR) 1 _ rfl | exact pv_1 (HPq.ext hR) | exact (HB101.ext hR).pv 1 _ rfl | assumption)) ?_
            refine rt_g1 rfl (fun vals w hd => hd 12 rfl) (fun vals w hR hd hG => zmI rfl) ?_
            refine rt_g1 rfl (fun vals w hd => hd 12 rfl) (fun vals w hR hd hG => v_add (gd hG (hd 17 rfl)) rfl (by first | exact wr_i64 zo zo | rfl)) ?_
            refine rt_g1 rfl (fun vals w hd => hd 12 rfl) (fun vals w hR hd hG => v_indexAddr (et := 63) (sz := 4) (k := i + 1) zk zk (gd hG (hd 16 rfl)) (gd hG (hd 18 rfl)) (by first | rfl | omega) (hlt2)) ?_
            refine rt_g1 rfl (fun vals w hd => hd 12 rfl) (fun vals w hR hd hG => v_fieldAddr (off := 0) (ft := 33) zk (gd hG (hd 19 rfl))) ?_
            refine rt_g1 rfl (fun vals w hd => hd 12 rfl) (fun vals w hR hd hG => v_load zk (gd hG (hd 20 rfl)) (by first | exact (HPs.ext hR) 0 _ rfl | exact (HB103.ext hR).pv 0 _ rfl | exact (HPq.ext hR) 0 _ rfl | exact (HB101.ext hR).pv 0 _ rfl | assumption)) ?_
            refine rt_g1f rfl (fun vals w hd => hd 12 rfl) (fun vals w hR hd hG => to_f2 zk (gd hG (hd 14 rfl)) (gd hG (hd 21 rfl)) (Equal_c (HSt.ext hR) (HSsf.ext hR))) ?_
            refine rt_g1 rfl (fun vals w hd => hd 12 rfl) (fun vals w hR hd hG => v_not (gd hG (hd 22 rfl))) ?_
            refine rt_v (fun vals w hR hd => v_or (hd 12 rfl) (hd 23 rfl)) ?_
            refine rt_v (fun vals w hR hd => v_assign (t := .bool _) (hd 24 rfl)) ?_
            refine rt_nil (fun w106 e106 => ?_)
            rintro _ rfl _ rfl _ rfl _ rfl _ rfl _ rfl _ rfl _ rfl _ rfl _ rfl _ rfl _ rfl _ rfl _ rfl _ rfl _ rfl _ rfl _ rfl _ rfl _ rfl _ rfl _ rfl _ rfl _ rfl _ rfl _ rfl
            have zs_e106 := e106.size
            replace E := E.trans (Ext.keep e106)
            replace HSr := HSr.ext e106
            replace HB101 := HB101.ext e106
            replace EL1 := EL1.trans (Ext.keep e106)
            replace HPq := HPq.ext e106
            replace HSf := HSf.ext e106
            replace HSt := HSt.ext e106
            replace HB103 := HB103.ext e106
            replace HPs := HPs.ext e106
            replace HSsf := HSsf.ext e106
            refine fin_nil (n_then (c_cond rfl rfl (fun h66 => ?_) (fun h66 => ?_)))
            · skip
              refine c_seq (wp_reg zd (l_v (v_assign rfl) (l_nil (n_then (c_ret (r_blk (r_blk (r_then (r_then ?_)))))))))
              refine r_blk (r_then (ret1v rfl zq (zvB rfl) ?_))
              refine ⟨?_, E⟩
              rw [hds] at h49 h2
              rw [hm, h2]
              have e1 : decide (24 < (r.2.1.length : Int)) = !decide (r.2.1.length ≤ 24) := by rw [← decide_not]; exact decide_eq_decide.2 zo
              rw [e1, d_cmp_ge] at h66
              revert h49 h66
              simp only [mayL]
              cases grpB r.2.2.2 <;> cases r.2.2.1 <;> cases decide (r.2.1.length ≤ 24) <;> cases decide (r.1 < r.2.1) <;> cases decide (r.2.1 = s.1) <;> simp
            · skip
              refine c_skip (n_blk (n_blk (n_then (wp_reg zd (l_v (v_add rfl rfl (by first | exact wr_i64 zo zo | rfl)) ?_)))))
              refine l_v (zmI rfl) (l_nil (n_then (⟨i + 1, _, rfl, by (repeat (first | exact Off.of_over _ _ _ | refine Off.upd ?_ zq _ | refine Off.overs ?_ zq _)), ⟨by first | rfl | exact congrArg (Value.int _) zo | (simp; done), trivial⟩, ⟨E, EL1, ?_⟩, ?_⟩)))
              · skip
                refine ⟨by omega, ?_⟩
                rw [hds] at h49 h2 ⊢
                have e1 : decide (24 < (r.2.1.length : Int)) = !decide (r.2.1.length ≤ 24) := by rw [← decide_not]; exact decide_eq_decide.2 zo
                rw [e1, d_cmp_ge] at h66
                rw [h2]
                revert h49 h66
                simp only [mayL]
                cases grpB r.2.2.2 <;> cases r.2.2.1 <;> cases decide (r.2.1.length ≤ 24) <;> cases decide (r.1 < r.2.1) <;> cases decide (r.2.1 = s.1) <;> simp
              · (dsimp only; omega)
      · skip
        refine c_exit (x_then (x_then (x_hit (n_then (c_seq (wp_reg zd (l_v (v_assign rfl) (l_nil (n_then ?_)))))))))
        refine c_ret (ret1v rfl zq (zvB rfl) ?_)
        refine ⟨?_, E⟩
        have h := dfalse hlt
        rw [hm, h2, List.drop_eq_nil_of_le zo]; rfl
end Go.Proofs.Yteehplloacefmaa

namespace Go.Proofs.Yteehplloacefmaa
open Go.Vc
set_option linter.unusedVariables false
set_option linter.unusedSimpArgs false
set_option maxRecDepth 100000

theorem New_c {w : World} {g : Int} (hg : -9223372036854775808 ≤ g ∧ g ≤ 9223372036854775807) : CallsR Try.prog 45 #[.int .i64 g] w (fun o w' => (∃ v, o = .tuple #[v, .int .i64 (if grpB g then 0 else 2)] ∧ AgV tMp w' (fun b => w.heap.size ≤ b) v (if grpB g then (1, [([], [], false, g)]) else (0, []))) ∧ Ext w w') := by
  refine enter 12 Try.func45 rfl rfl (by simp) ?_
  refine c_seq ?_
  have E := Keep.refl (K := NoK) w
  refine wp_reg zd (l_to (to_alloc (z := .agg #[.int .i64 0, .slice none 0 0]) (by unfold kZero; kernel_rfl) ?_))
  rintro b101 w101 zb101 HB101 e101 z101
  have zs_e101 := e101.size
  replace E := E.trans (Ext.keep e101)
  try simp only [Value.cells] at HB101
  refine l_v (v_assign rfl) (l_nil (n_then (c_seq (c_seq (wp_reg zd (l_v (zmI rfl) (l_to (to_f1 zk (zvI rfl) (CallsR.mono (group_c) ?_)))))))))
  rintro _ w102 ⟨rfl, e102⟩
  have zs_e102 := e102.size
  replace E := E.trans (Ext.keep e102)
  replace HB101 := HB101.ext e102
  refine l_v (v_not rfl) ?_
  refine l_nil (n_then (c_cond rfl rfl (fun hc => ?_) (fun hc => ?_)))
  · skip
    refine c_seq (wp_reg zd (l_v (v_build (pl := [(0, 1), (1, 1)]) (z := .agg #[.int .i64 0, .slice none 0 0]) (zl := [.int .i64 0, .slice none 0 0]) zk (by unfold kZero; kernel_rfl) rfl rfl (cells := [_, _]) rfl) ?_))
    refine l_to (to_storeA (n := 2) rfl rfl (zvA rfl) zk rfl dj6 HB101 dj5 ?_)
    rintro w103 HX103 k103 z103
    have zs_k103 := k103.size
    replace E := E.step k103 dj3
    replace HB101 := HX103
    clear HX103
    try simp only [zS, Nat.zero_add, Nat.reduceAdd, List.drop_nil] at HB101
    refine l_v (v_assign rfl) (l_nil (n_then (c_ret (r_then (ret2cv (n := 2) rfl zq zq rfl zk HB101.pv rfl (zvI rfl) ?_)))))
    have h : grpB g = false := by simpa using hc
    rw [h]
    exact ⟨⟨_, rfl, AgV.mkMp (SlV.nil _ _ _) zo⟩, E⟩
  · skip
    have h : grpB g = true := by simpa using hc
    refine c_skip (n_then (c_seq (wp_reg zd (l_v (zmI rfl) (l_v (v_build (pl := [(0, 1), (1, 1), (2, 1), (3, 1)]) (z := .agg #[.slice none 0 0, .slice none 0 0, .bool false, .int .i64 0]) (zl := [.slice none 0 0, .slice none 0 0, .bool false, .int .i64 0]) zk (by unfold kZero; kernel_rfl) rfl rfl (cells := [_, _, _, _]) rfl) ?_)))))
    refine l_to (to_slice1 (t := tRg) (et := 63) (bytes := 64) zk zq (zvA rfl) (tRg_mk (SlV.nil tU8 _ NoK) (SlV.nil tU8 _ NoK) hg) ?_)
    rintro b5 w5 zb5 HO5 e5 z5
    have zs_e5 := e5.size
    replace E := E.trans (Ext.keep e5)
    replace HB101 := HB101.ext e5
    have zo_HO5 := fun (b : Nat) h => HO5.own_lt (b := b) h
    refine l_v (v_build (pl := [(0, 1), (1, 1)]) (z := .agg #[.int .i64 0, .slice none 0 0]) (zl := [.int .i64 0, .slice none 0 0]) zk (by unfold kZero; kernel_rfl) rfl rfl (cells := [_, _]) rfl) ?_
    refine l_to (to_storeA (n := 2) rfl rfl (zvA rfl) zk rfl dj6 HB101 dj5 ?_)
    rintro w104 HX104 k104 z104
    have zs_k104 := k104.size
    replace E := E.step k104 dj3
    replace HO5 := HO5.keep k104 (by intro i ho he; have he0 := he; have ho0 := ho; (try dsimp only [NoK] at he); (try simp only [Value.ownBlock, Option.some.injEq, reduceCtorEq] at ho); (try simp only [Value.ownBlock, Option.some.injEq, reduceCtorEq] at he); first | exact he.elim | exact ho.elim | omega | (have := zo_HO5 _ ho0; omega)) (by intro i _ hi _ he; have he0 := he; have hi := hi; have he := he; (try dsimp only [NoK, AllB] at hi he); (try simp only [Value.ownBlock, Option.some.injEq, reduceCtorEq] at he); all_goals first | exact hi.elim | exact hi.1.elim | exact he.elim | omega | (rcases hi with hi | hi <;> omega) | (rcases he with he | he <;> omega))
    replace HB101 := HX104
    clear HX104
    try simp only [zS, Nat.zero_add, Nat.reduceAdd, List.drop_nil] at HB101
    refine l_v (v_assign rfl) (l_nil (n_then (c_ret (ret2cv (n := 2) rfl zq zq rfl zk HB101.pv rfl (zvI rfl) ?_))))
    rw [h]
    exact ⟨⟨_, rfl, AgV.mkMp (HO5.view.mono fun b _ h => by rcases h with h | h; omega; exact h.1.elim) zo⟩, E⟩
end Go.Proofs.Yteehplloacefmaa
