/- A part of the proof: steps and lemmas for the walks through the given program. -/
import Derived.Test.YtkaangdfpjkjpaaRTy
import Derived.Test.YtkaangdfpjkjpaaProg
namespace Go.Proofs.Ytkaangdfpjkjpaa
open Go.Vc
set_option linter.unusedVariables false
set_option linter.unusedSimpArgs false
set_option maxRecDepth 100000

theorem Compare_c {w : World} {F G : Nat → Prop} {v u : Value} {x y : List UInt8} (HS1 : Bv w F v x) (HS2 : Bv w G u y) : CallsR Try.prog 51 #[v, u] w (fun r w' => r = .int .i64 (cmpB x y) ∧ Ext w w') := by
  obtain ⟨a1, c1, rfl⟩ := HS1.shape
  obtain ⟨a2, c2, rfl⟩ := HS2.shape
  refine enter 8 Try.func51 rfl rfl (by simp) ?_
  refine c_seq ?_
  have E := Keep.refl (K := NoK) w
  replace HS1 := HS1.all
  replace HS2 := HS2.all
  refine wp_reg (by decide +kernel) ?_
  refine l_v (v_assign rfl) ?_
  refine l_nil ?_
  refine n_then ?_
  refine c_seq ?_
  refine wp_reg (by decide +kernel) ?_
  refine l_v (v_move (t := .slice _ _ _) rfl) ?_
  refine l_v (v_move (t := .slice _ _ _) rfl) ?_
  refine l_v (to_cmp ⟨_, rfl, (by kernel_rfl), (by kernel_rfl), (by kernel_rfl), (by kernel_rfl)⟩ rfl rfl (by first | exact HS2 | exact HS1 | assumption) (by first | exact HS2 | exact HS1 | assumption)) ?_
  refine l_v (v_assign (t := .int _ _) rfl) ?_
  refine l_nil ?_
  refine n_then ?_
  refine c_ret ?_
  refine ret1v rfl (by decide) (show _ = (Value.int _ _) from rfl) ?_
  exact ⟨rfl, E⟩
theorem Equal_c {w : World} {F G : Nat → Prop} {v u : Value} {x y : List UInt8} (HS1 : Bv w F v x) (HS2 : Bv w G u y) : CallsR Try.prog 52 #[v, u] w (fun r w' => r = .bool (decide (x = y)) ∧ Ext w w') := by
  obtain ⟨a1, c1, rfl⟩ := HS1.shape
  obtain ⟨a2, c2, rfl⟩ := HS2.shape
  refine enter 10 Try.func52 rfl rfl (by simp) ?_
  refine c_seq ?_
  have E := Keep.refl (K := NoK) w
  replace HS1 := HS1.all
  replace HS2 := HS2.all
  refine wp_reg (by decide +kernel) ?_
  refine l_v (v_assign rfl) ?_
  refine l_nil ?_
  refine n_then ?_
  refine c_seq ?_
  refine wp_reg (by decide +kernel) ?_
  refine l_v (v_move (t := .slice _ _ _) rfl) ?_
  refine l_v (v_b2s (et := 5) (by kernel_rfl) (by kernel_rfl) (by kernel_rfl) rfl HS1) ?_
  refine l_v (v_move (t := .slice _ _ _) rfl) ?_
  refine l_v (v_b2s (et := 5) (by kernel_rfl) (by kernel_rfl) (by kernel_rfl) rfl HS2) ?_
  refine l_v (v_seq rfl rfl) ?_
  refine l_v (v_assign (t := .bool _) rfl) ?_
  refine l_nil ?_
  refine n_then ?_
  refine c_ret ?_
  refine ret1v rfl (by decide) (show _ = (Value.bool _) from rfl) ?_
  exact ⟨rfl, E⟩
/-- bytes in new memory; none where there were none -/
theorem Clone_c {w : World} {F : Nat → Prop} {v : Value} {x : List UInt8} (HS1 : Bv w F v x) (hl : x.length ≤ 140737488355328) : CallsR Try.prog 63 #[v] w (fun r w' => OwV tU8 5 w' w.heap.size NoK r x ∧ Ext w w') := by
  obtain ⟨a1, c1, rfl⟩ := HS1.shape
  have hmx := HS1.max
  simp only [maxLen] at hmx
  refine enter 8 Try.func63 rfl rfl (by simp) ?_
  refine c_seq ?_
  have E := Keep.refl (K := NoK) w
  replace HS1 := HS1.all
  refine wp_reg (by decide +kernel) ?_
  refine l_v (v_assign rfl) ?_
  refine l_nil ?_
  refine n_then ?_
  refine c_seq ?_
  refine c_seq ?_
  refine wp_reg (by decide +kernel) ?_
  refine l_v (v_move (t := .slice _ _ _) rfl) ?_
  refine l_v (v_sleneq (et := 5) (by kernel_rfl) rfl rfl) ?_
  refine l_nil ?_
  refine n_then ?_
  refine c_cond rfl rfl (fun hc => ?_) (fun hc => ?_)
  · skip
    refine c_seq ?_
    refine wp_reg (by decide +kernel) ?_
    refine l_v (v_assign rfl) ?_
    refine l_nil ?_
    refine n_then ?_
    refine c_ret ?_
    refine r_then ?_
    refine ret1v rfl (by decide) (show _ = (Value.slice _ _ _) from rfl) ?_
    have hn : a1 = none := by simpa using hc
    subst hn
    obtain ⟨a, c, hv, _, _, h3, _⟩ := HS1
    cases hv
    have : x = [] := List.eq_nil_of_length_eq_zero (by have := h3 rfl; omega)
    subst this
    exact ⟨OwV.nil _ _ _ _ _, E⟩
  · skip
    refine c_skip ?_
    refine n_then ?_
    refine c_seq ?_
    refine wp_reg (by decide +kernel) ?_
    refine l_to (to_slice0 (t := tU8) (et := 5) (bytes := 1) (by kernel_rfl) ?_)
    rintro b2 w2 zb2 HO2 e2 z2
    have zs_e2 := e2.size
    replace E := E.trans (Ext.keep e2)
    replace HS1 := HS1.ext e2
    have zo_HO2 := fun (b : Nat) h => HO2.own_lt (b := b) h
    refine l_v (v_move (t := .slice _ _ _) rfl) ?_
    refine l_to (to_append (et := 5) (bytes := 1) (by kernel_rfl) (show _ = (Value.slice _ _ _) from rfl) HO2 (show _ = (Value.slice _ _ _) from rfl) HS1 (flat_u8.to) (by first | omega | (simp; done) | (simp; omega)) (by simp only [maxLen]; first | omega | (simp; done) | (simp; omega)) (by omega) ?_)
    rintro a3 n3 c3 w3 HO3 hn3 k3 h3 i3
    have zs_k3 := k3.size
    replace E := E.step k3 (by intro i hi he; have he0 := he; have hi := hi; have he := he; (try dsimp only [NoK] at hi he ⊢); (try simp only [Value.ownBlock, Option.some.injEq] at he); first | exact he.elim | omega | exact he | (have := (HO2).own_lt he0; omega) | (have := zo_HO2 _ he0; omega) | (have := (HO2).own_lt he0; rcases hi with hi | hi <;> omega))
    replace HS1 := HS1.keep k3 (by first | exact fun h => h | (intro h; have he0 := h; have h := h; (try dsimp only at h); (try simp only [Value.ownBlock, Option.some.injEq] at h); (try simp only [add_block] at h); (try simp only [add_block] at he0); first | omega | (have := (HO2).own_lt he0; omega) | (have := zo_HO2 _ he0; omega)) | (intro i _ hi he; have he0 := he; have hi := hi; have he := he; (try dsimp only [NoK, AllB] at hi he); (try simp only [Value.ownBlock, Option.some.injEq] at he); first | exact hi.elim | exact he.elim | omega | (rcases hi with hi | hi <;> omega) | (rcases he with he | he <;> omega) | (have := (HO2).own_lt he0; omega) | (have := zo_HO2 _ he0; omega) | (have := (HO2).own_lt he0; rcases hi with hi | hi <;> omega)))
    have zo_HO3 := fun (b : Nat) h => HO3.own_lt (b := b) h
    refine l_v (v_assign (t := .slice _ _ _) rfl) ?_
    refine l_nil ?_
    refine n_then ?_
    refine c_ret ?_
    refine ret1v rfl (by decide) (show _ = (Value.slice _ _ _) from rfl) ?_
    subst hn3
    exact ⟨HO3.base (by omega), E⟩
theorem Has_c {w : World} {F G : Nat → Prop} {v u : Value} {r : RgV} {k : List UInt8} (HG1 : AgV tRg w F v r) (HS2 : Bv w G u k) : CallsR Try.prog 27 #[v, u] w (fun o w' => o = .bool (hasR r k) ∧ Ext w w') := by
  obtain ⟨a1, c1, a2, c2, rfl, HSf, HSt, hg⟩ := HG1.rg
  obtain ⟨a3, c3, rfl⟩ := HS2.shape
  refine enter 22 Try.func27 rfl rfl (by simp) ?_
  refine c_seq ?_
  have E := Keep.refl (K := NoK) w
  replace HSf := HSf.all
  replace HSt := HSt.all
  replace HS2 := HS2.all
  refine wp_reg (by decide +kernel) ?_
  refine l_to (to_box (show _ = (Value.agg _) from rfl) ?_)
  rintro b101 w101 zb101 HB101 e101 z101
  have zs_e101 := e101.size
  replace E := E.trans (Ext.keep e101)
  replace HSf := HSf.ext e101
  replace HSt := HSt.ext e101
  replace HS2 := HS2.ext e101
  try simp only [Value.cells] at HB101
  refine l_v (v_assign rfl) ?_
  refine l_nil ?_
  refine n_then ?_
  refine c_seq ?_
  refine wp_reg (by decide +kernel) ?_
  refine l_v (v_move (t := .slice _ _ _) rfl) ?_
  refine l_v (v_fieldAddr (off := 0) (ft := 35) (by kernel_rfl) rfl) ?_
  refine l_v (v_load (by kernel_rfl) rfl (by first | exact HB101.pv 0 _ rfl | assumption)) ?_
  refine l_to (to_f2 (by kernel_rfl) (show _ = (Value.slice _ _ _) from rfl) (show _ = (Value.slice _ _ _) from rfl) (CallsR.mono (Compare_c HS2 HSf) ?_))
  rintro _ w5 ⟨rfl, e5⟩
  have zs_e5 := e5.size
  replace E := E.trans (Ext.keep e5)
  replace HSf := HSf.ext e5
  replace HSt := HSt.ext e5
  replace HS2 := HS2.ext e5
  replace HB101 := HB101.ext e5
  refine l_v (v_geq rfl rfl) ?_
  refine l_v (v_move (t := .bool _) rfl) ?_
  refine l_g1 rfl rfl (fun hG => v_fieldAddr (off := 2) (ft := 4) (by kernel_rfl) rfl) ?_
  refine l_g1 rfl rfl (fun hG => v_load (by kernel_rfl) (gd hG rfl) (by first | exact HB101.pv 2 _ rfl | assumption)) ?_
  refine l_g1 rfl rfl (fun hG => v_not (gd hG rfl)) ?_
  refine l_g1 rfl rfl (fun hG => v_move (t := .bool _) (gd hG rfl)) ?_
  refine l_g2 rfl rfl (fun hG => v_move (t := .slice _ _ _) rfl) ?_
  refine l_g2 rfl rfl (fun hG => v_fieldAddr (off := 1) (ft := 35) (by kernel_rfl) rfl) ?_
  refine l_g2 rfl rfl (fun hG => v_load (by kernel_rfl) (gd hG rfl) (by first | exact HB101.pv 1 _ rfl | assumption)) ?_
  refine l_g2f rfl rfl (fun hG => to_f2 (by kernel_rfl) (gd hG rfl) (gd hG rfl) (Compare_c HS2 HSt)) ?_
  rintro w6 e6
  have zs_e6 := e6.size
  replace E := E.trans (Ext.keep e6)
  replace HSf := HSf.ext e6
  replace HSt := HSt.ext e6
  replace HS2 := HS2.ext e6
  replace HB101 := HB101.ext e6
  refine l_g2 rfl rfl (fun hG => v_lss (gd hG rfl) rfl) ?_
  refine l_g1 rfl rfl (fun hG => v_or (gd hG rfl) (gda hG rfl)) ?_
  refine l_v (v_and rfl rfl) ?_
  refine l_v (v_assign (t := .bool _) rfl) ?_
  refine l_nil ?_
  refine n_then ?_
  refine c_ret ?_
  refine ret1v rfl (by decide) (show _ = (Value.bool _) from rfl) ?_
  refine ⟨?_, E⟩
  rw [hasR, ← d_cmp_ge, ← d_cmp_lt]
  all_goals (cases decide (0 ≤ cmpB k r.1) <;> cases r.2.2.1 <;> rfl)
theorem refHas_c {w : World} {F G : Nat → Prop} {v u : Value} {r : RgV} {k : List UInt8} (HG1 : AgV tRg w F v r) (HS2 : Bv w G u k) : CallsR Try.prog 28 #[v, u] w (fun o w' => o = .bool (hasR r k) ∧ Ext w w') := by
  obtain ⟨a1, c1, a2, c2, rfl, HSf, HSt, hg⟩ := HG1.rg
  obtain ⟨a3, c3, rfl⟩ := HS2.shape
  refine enter 24 Try.func28 rfl rfl (by simp) ?_
  refine c_seq ?_
  have E := Keep.refl (K := NoK) w
  replace HSf := HSf.all
  replace HSt := HSt.all
  replace HS2 := HS2.all
  refine wp_reg (by decide +kernel) ?_
  refine l_to (to_box (show _ = (Value.agg _) from rfl) ?_)
  rintro b101 w101 zb101 HB101 e101 z101
  have zs_e101 := e101.size
  replace E := E.trans (Ext.keep e101)
  replace HSf := HSf.ext e101
  replace HSt := HSt.ext e101
  replace HS2 := HS2.ext e101
  try simp only [Value.cells] at HB101
  refine l_v (v_assign rfl) ?_
  refine l_nil ?_
  refine n_then ?_
  refine c_seq ?_
  refine wp_reg (by decide +kernel) ?_
  refine l_v (v_move (t := .slice _ _ _) rfl) ?_
  refine l_v (v_b2s (et := 5) (by kernel_rfl) (by kernel_rfl) (by kernel_rfl) rfl HS2) ?_
  refine l_v (v_fieldAddr (off := 0) (ft := 35) (by kernel_rfl) rfl) ?_
  refine l_v (v_load (by kernel_rfl) rfl (by first | exact HB101.pv 0 _ rfl | assumption)) ?_
  refine l_v (v_b2s (et := 5) (by kernel_rfl) (by kernel_rfl) (by kernel_rfl) rfl HSf) ?_
  refine l_v (v_sge rfl rfl) ?_
  refine l_v (v_move (t := .bool _) rfl) ?_
  refine l_g1 rfl rfl (fun hG => v_fieldAddr (off := 2) (ft := 4) (by kernel_rfl) rfl) ?_
  refine l_g1 rfl rfl (fun hG => v_load (by kernel_rfl) (gd hG rfl) (by first | exact HB101.pv 2 _ rfl | assumption)) ?_
  refine l_g1 rfl rfl (fun hG => v_not (gd hG rfl)) ?_
  refine l_g1 rfl rfl (fun hG => v_move (t := .bool _) (gd hG rfl)) ?_
  refine l_g2 rfl rfl (fun hG => v_move (t := .slice _ _ _) rfl) ?_
  refine l_g2 rfl rfl (fun hG => v_b2s (et := 5) (by kernel_rfl) (by kernel_rfl) (by kernel_rfl) (gd hG rfl) HS2) ?_
  refine l_g2 rfl rfl (fun hG => v_fieldAddr (off := 1) (ft := 35) (by kernel_rfl) rfl) ?_
  refine l_g2 rfl rfl (fun hG => v_load (by kernel_rfl) (gd hG rfl) (by first | exact HB101.pv 1 _ rfl | assumption)) ?_
  refine l_g2 rfl rfl (fun hG => v_b2s (et := 5) (by kernel_rfl) (by kernel_rfl) (by kernel_rfl) (gd hG rfl) HSt) ?_
  refine l_g2 rfl rfl (fun hG => v_slt (gd hG rfl) (gd hG rfl)) ?_
  refine l_g1 rfl rfl (fun hG => v_or (gd hG rfl) (gda hG rfl)) ?_
  refine l_v (v_and rfl rfl) ?_
  refine l_v (v_assign (t := .bool _) rfl) ?_
  refine l_nil ?_
  refine n_then ?_
  refine c_ret ?_
  refine ret1v rfl (by decide) (show _ = (Value.bool _) from rfl) ?_
  refine ⟨?_, E⟩
  rw [hasR]
  all_goals (cases decide (k < r.1) <;> cases r.2.2.1 <;> rfl)
theorem group_c {w : World} {n : Int} : CallsR Try.prog 49 #[.int .i64 n] w (fun o w' => o = .bool (grpB n) ∧ Ext w w') := by
  refine enter 9 Try.func49 rfl rfl (by simp) ?_
  refine c_seq ?_
  refine wp_reg (by decide +kernel) ?_
  refine l_v (v_assign rfl) ?_
  refine l_nil ?_
  refine n_then ?_
  refine c_seq ?_
  refine wp_reg (by decide +kernel) ?_
  refine l_v (v_move (t := .int _ _) rfl) ?_
  refine l_v (v_geq rfl rfl) ?_
  refine l_v (v_move (t := .bool _) rfl) ?_
  refine l_g1 rfl rfl (fun hG => v_move (t := .int _ _) rfl) ?_
  refine l_g1 rfl rfl (fun hG => v_lss (gd hG rfl) rfl) ?_
  refine l_v (v_and rfl rfl) ?_
  refine l_v (v_assign (t := .bool _) rfl) ?_
  refine l_nil ?_
  refine n_then ?_
  refine c_ret ?_
  refine ret1 rfl (by decide) ?_
  refine ⟨?_, Keep.refl _⟩
  rw [grpB]
  all_goals (cases decide (1 ≤ n) <;> rfl)
theorem key_c {w : World} {F : Nat → Prop} {v : Value} {k : List UInt8} (HS1 : Bv w F v k) : CallsR Try.prog 56 #[v] w (fun o w' => o = .bool (decide (1 ≤ k.length) && decide (k.length ≤ 24)) ∧ Ext w w') := by
  obtain ⟨a3, c3, rfl⟩ := HS1.shape
  refine enter 11 Try.func56 rfl rfl (by simp) ?_
  refine c_seq ?_
  have E := Keep.refl (K := NoK) w
  replace HS1 := HS1.all
  refine wp_reg (by decide +kernel) ?_
  refine l_v (v_assign rfl) ?_
  refine l_nil ?_
  refine n_then ?_
  refine c_seq ?_
  refine wp_reg (by decide +kernel) ?_
  refine l_v (v_move (t := .slice _ _ _) rfl) ?_
  refine l_v (v_len (et := 5) (by kernel_rfl) rfl) ?_
  refine l_v (v_geq rfl rfl) ?_
  refine l_v (v_move (t := .bool _) rfl) ?_
  refine l_g1 rfl rfl (fun hG => v_move (t := .slice _ _ _) rfl) ?_
  refine l_g1 rfl rfl (fun hG => v_len (et := 5) (by kernel_rfl) (gd hG rfl)) ?_
  refine l_g1 rfl rfl (fun hG => v_leq (gd hG rfl) rfl) ?_
  refine l_v (v_and rfl rfl) ?_
  refine l_v (v_assign (t := .bool _) rfl) ?_
  refine l_nil ?_
  refine n_then ?_
  refine c_ret ?_
  refine ret1v rfl (by decide) (show _ = (Value.bool _) from rfl) ?_
  refine ⟨?_, E⟩
  have e1 : decide ((1 : Int) ≤ (k.length : Int)) = decide (1 ≤ k.length) := decide_eq_decide.2 (by omega)
  have e2 : decide ((k.length : Int) ≤ 24) = decide (k.length ≤ 24) := decide_eq_decide.2 (by omega)
  rw [← e1, ← e2]
  all_goals (cases decide ((1 : Int) ≤ (k.length : Int)) <;> rfl)
theorem num_c {w : World} {n : Int} : CallsR Try.prog 19 #[.int .i64 n] w (fun o w' => o = .int .i64 n ∧ Ext w w') := by
  refine enter 4 Try.func19 rfl rfl (by simp) ?_
  refine c_seq ?_
  refine wp_reg (by decide +kernel) ?_
  refine l_v (v_assign rfl) ?_
  refine l_nil ?_
  refine n_then ?_
  refine c_seq ?_
  refine wp_reg (by decide +kernel) ?_
  refine l_v (v_move (t := .int _ _) rfl) ?_
  refine l_v (v_assign (t := .int _ _) rfl) ?_
  refine l_nil ?_
  refine n_then ?_
  refine c_ret ?_
  refine ret1 rfl (by decide) ?_
  exact ⟨rfl, Keep.refl _⟩
/-- a range in new memory -/
theorem clone_c {w : World} {F : Nat → Prop} {v : Value} {r : RgV} (HG1 : AgV tRg w F v r) (hl1 : r.1.length ≤ 140737488355328) (hl2 : r.2.1.length ≤ 140737488355328) : CallsR Try.prog 55 #[v] w (fun o w' => AgV tRg w' (fun b => w.heap.size ≤ b) o r ∧ Ext w w') := by
  obtain ⟨a1, c1, a2, c2, rfl, HSf, HSt, hg⟩ := HG1.rg
  replace HSf := HSf.all
  replace HSt := HSt.all
  refine enter 12 Try.func55 rfl rfl (by simp) ?_
  refine c_seq ?_
  have E := Keep.refl (K := NoK) w
  replace HSf := HSf.all
  replace HSt := HSt.all
  refine wp_reg (by decide +kernel) ?_
  refine l_to (to_box (show _ = (Value.agg _) from rfl) ?_)
  rintro b1 w1 zb1 HB1 e1 z1
  have zs_e1 := e1.size
  replace E := E.trans (Ext.keep e1)
  replace HSf := HSf.ext e1
  replace HSt := HSt.ext e1
  try simp only [Value.cells] at HB1
  refine l_to (to_alloc (z := (.agg #[.slice none 0 0, .slice none 0 0, .bool false, .int .i64 0])) (by unfold kZero; kernel_rfl) ?_)
  rintro b2 w2 zb2 HB2 e2 z2
  have zs_e2 := e2.size
  replace E := E.trans (Ext.keep e2)
  replace HSf := HSf.ext e2
  replace HSt := HSt.ext e2
  replace HB1 := HB1.ext e2
  try simp only [Value.cells] at HB2
  refine l_nil ?_
  refine n_then ?_
  refine c_seq ?_
  refine wp_regJ (fun k => k = b1) (StJ b1 _ _ [(7, 0, some 2, (undef : Value)), (9, 1, some 5, (undef : Value))]) (by kernel_rfl) (by decide +kernel) (by decide +kernel) (fun vals done hd => StJ.start (HB1.ext (Keep.drawn _ _)) (fun a ha => hd a.1 (st_lt (n := 10) rfl a ha))) ?_
  refine rj_vJ (fun done vals w hR hcl hdk hJ hdn hd => v_fieldAddr (off := 0) (ft := 35) (by kernel_rfl) rfl) (fun done vals w hdk hJ => hJ.src (Keep.refl _) hdk rfl) ?_
  refine rj_vJ (fun done vals w hR hcl hdk hJ hdn hd => v_load (by kernel_rfl) (hd 0 rfl) (by first | exact (HB2.keep hR (by first | exact fun h => h | (intro h; have he0 := h; have h := h; (try dsimp only at h); (try simp only [Value.ownBlock, Option.some.injEq] at h); (try simp only [add_block] at h); (try simp only [add_block] at he0); first | omega) | (intro i _ hi he; have he0 := he; have hi := hi; have he := he; (try dsimp only [NoK, AllB] at hi he); (try simp only [Value.ownBlock, Option.some.injEq] at he); first | exact hi.elim | exact he.elim | omega | (rcases hi with hi | hi <;> omega) | (rcases he with he | he <;> omega)))).pv 0 _ rfl | exact (hJ.at0 hcl hdk ⟨_, _, rfl, rfl, by decide⟩).pv 0 _ rfl | assumption)) (fun done vals w hdk hJ => hJ.src (Keep.refl _) hdk rfl) ?_
  refine rj_to (fun v W => Bv W (fun b => b2 < b) v r.1) (fun v w w' h k => h.keep k (by first | exact fun h => h | (intro h; have he0 := h; have h := h; (try dsimp only at h); (try simp only [Value.ownBlock, Option.some.injEq] at h); (try simp only [add_block] at h); (try simp only [add_block] at he0); first | omega) | (intro i _ hi he; have he0 := he; have hi := hi; have he := he; (try dsimp only [NoK, AllB] at hi he); (try simp only [Value.ownBlock, Option.some.injEq] at he); first | exact hi.elim | exact he.elim | omega | (rcases hi with hi | hi <;> omega) | (rcases he with he | he <;> omega)))) (fun done vals w hR hcl hdk hJ hdn hd => OpTo.mono (K := fun v w1 => Ext w w1 ∧ (fun v W => Bv W (fun b => b2 < b) v r.1) v w1) (to_f1 (by kernel_rfl) (hd 1 rfl) (CallsR.mono (Clone_c (HSf.keep hR (by first | exact fun h => h | (intro h; have he0 := h; have h := h; (try dsimp only at h); (try simp only [Value.ownBlock, Option.some.injEq] at h); (try simp only [add_block] at h); (try simp only [add_block] at he0); first | omega) | (intro i _ hi he; have he0 := he; have hi := hi; have he := he; (try dsimp only [NoK, AllB] at hi he); (try simp only [Value.ownBlock, Option.some.injEq] at he); first | exact hi.elim | exact he.elim | omega | (rcases hi with hi | hi <;> omega) | (rcases he with he | he <;> omega)))) hl1) fun v w1 ⟨h, e⟩ => ⟨e, (h.fresh (Nat.le_refl _)).mono fun b _ hb => by have := hR.size; omega⟩)) fun v w1 h => ⟨Ext.keep h.1, h.2, hJ.src h.1 hdk rfl⟩) ?_
  refine rj_vJ (fun done vals w hR hcl hdk hJ hdn hd => v_fieldAddr (off := 1) (ft := 35) (by kernel_rfl) rfl) (fun done vals w hdk hJ => hJ.src (Keep.refl _) hdk rfl) ?_
  refine rj_vJ (fun done vals w hR hcl hdk hJ hdn hd => v_load (by kernel_rfl) (hd 3 rfl) (by first | exact (HB2.keep hR (by first | exact fun h => h | (intro h; have he0 := h; have h := h; (try dsimp only at h); (try simp only [Value.ownBlock, Option.some.injEq] at h); (try simp only [add_block] at h); (try simp only [add_block] at he0); first | omega) | (intro i _ hi he; have he0 := he; have hi := hi; have he := he; (try dsimp only [NoK, AllB] at hi he); (try simp only [Value.ownBlock, Option.some.injEq] at he); first | exact hi.elim | exact he.elim | omega | (rcases hi with hi | hi <;> omega) | (rcases he with he | he <;> omega)))).pv 1 _ rfl | exact (hJ.at0 hcl hdk ⟨_, _, rfl, rfl, by decide⟩).pv 1 _ rfl | assumption)) (fun done vals w hdk hJ => hJ.src (Keep.refl _) hdk rfl) ?_
  refine rj_to (fun v W => Bv W (fun b => b2 < b) v r.2.1) (fun v w w' h k => h.keep k (by first | exact fun h => h | (intro h; have he0 := h; have h := h; (try dsimp only at h); (try simp only [Value.ownBlock, Option.some.injEq] at h); (try simp only [add_block] at h); (try simp only [add_block] at he0); first | omega) | (intro i _ hi he; have he0 := he; have hi := hi; have he := he; (try dsimp only [NoK, AllB] at hi he); (try simp only [Value.ownBlock, Option.some.injEq] at he); first | exact hi.elim | exact he.elim | omega | (rcases hi with hi | hi <;> omega) | (rcases he with he | he <;> omega)))) (fun done vals w hR hcl hdk hJ hdn hd => OpTo.mono (K := fun v w1 => Ext w w1 ∧ (fun v W => Bv W (fun b => b2 < b) v r.2.1) v w1) (to_f1 (by kernel_rfl) (hd 4 rfl) (CallsR.mono (Clone_c (HSt.keep hR (by first | exact fun h => h | (intro h; have he0 := h; have h := h; (try dsimp only at h); (try simp only [Value.ownBlock, Option.some.injEq] at h); (try simp only [add_block] at h); (try simp only [add_block] at he0); first | omega) | (intro i _ hi he; have he0 := he; have hi := hi; have he := he; (try dsimp only [NoK, AllB] at hi he); (try simp only [Value.ownBlock, Option.some.injEq] at he); first | exact hi.elim | exact he.elim | omega | (rcases hi with hi | hi <;> omega) | (rcases he with he | he <;> omega)))) hl2) fun v w1 ⟨h, e⟩ => ⟨e, (h.fresh (Nat.le_refl _)).mono fun b _ hb => by have := hR.size; omega⟩)) fun v w1 h => ⟨Ext.keep h.1, h.2, hJ.src h.1 hdk rfl⟩) ?_
  refine rj_vJ (fun done vals w hR hcl hdk hJ hdn hd => v_fieldAddr (off := 0) (ft := 35) (by kernel_rfl) rfl) (fun done vals w hdk hJ => hJ.src (Keep.refl _) hdk rfl) ?_
  refine rj_d (fun done vals w hR hcl hdk hJ hdn hd => to_store (hd 6 rfl) rfl rfl (by first | exact SlV.one (hd 2 rfl) | exact SlV.one (hd 2 rfl).1 | exact OwV.one (hd 2 rfl) | exact OwV.one (hd 2 rfl).1 | (have h := hd 2 rfl; dsimp only [setS] at h; rw [h]; rfl) | exact (hd 2 rfl).1 | (obtain ⟨_, h⟩ := hd 2 rfl; rw [h]; rfl) | exact (congrArg Value.oneCell' (hd 2 rfl)).trans rfl) (by kernel_rfl) (hJ.at (n := 0) rfl hdk (fun m h => by cases h)) (by rw [conts_len]; exact of_decide_eq_true rfl) (fun w1 hB k z => ⟨k, hJ.step (n := 0) rfl hdk (fun m h => by cases h) (fun k h => by cases h; exact hdn 2 rfl) (once_st rfl) rfl hB⟩)) ?_
  refine rj_vJ (fun done vals w hR hcl hdk hJ hdn hd => v_fieldAddr (off := 1) (ft := 35) (by kernel_rfl) rfl) (fun done vals w hdk hJ => hJ.src (Keep.refl _) hdk rfl) ?_
  refine rj_d (fun done vals w hR hcl hdk hJ hdn hd => to_store (hd 8 rfl) rfl rfl (by first | exact SlV.one (hd 5 rfl) | exact SlV.one (hd 5 rfl).1 | exact OwV.one (hd 5 rfl) | exact OwV.one (hd 5 rfl).1 | (have h := hd 5 rfl; dsimp only [setS] at h; rw [h]; rfl) | exact (hd 5 rfl).1 | (obtain ⟨_, h⟩ := hd 5 rfl; rw [h]; rfl) | exact (congrArg Value.oneCell' (hd 5 rfl)).trans rfl) (by kernel_rfl) (hJ.at (n := 1) rfl hdk (fun m h => ⟨_, by cases h; rfl, hdn 7 rfl⟩)) (by rw [conts_len]; exact of_decide_eq_true rfl) (fun w1 hB k z => ⟨k, hJ.step (n := 1) rfl hdk (fun m h => ⟨_, by cases h; rfl, hdn 7 rfl⟩) (fun k h => by cases h; exact hdn 5 rfl) (once_st rfl) rfl hB⟩)) ?_
  refine rj_nil (fun vals w101 k101 J101 => ?_)
  rintro _ - rfl _ - rfl v5 qs2 HS5 _ - rfl _ - rfl v8 qs5 HS8 _ - rfl _ - - _ - rfl _ - -
  have zs_k101 := k101.size
  have HX101 := J101.fin
  obtain ⟨a5, c5, rfl⟩ := HS5.shape
  obtain ⟨a8, c8, rfl⟩ := HS8.shape
  simp only [conts, sv, ← qs2, ← qs5] at HX101
  replace E := E.step k101 (by intro i hi he; have he0 := he; have hi := hi; have he := he; (try dsimp only [NoK] at hi he ⊢); (try simp only [Value.ownBlock, Option.some.injEq] at he); first | exact he.elim | omega | exact he)
  replace HSf := HSf.keep k101 (by first | exact fun h => h | (intro h; have he0 := h; have h := h; (try dsimp only at h); (try simp only [Value.ownBlock, Option.some.injEq] at h); (try simp only [add_block] at h); (try simp only [add_block] at he0); first | omega) | (intro i _ hi he; have he0 := he; have hi := hi; have he := he; (try dsimp only [NoK, AllB] at hi he); (try simp only [Value.ownBlock, Option.some.injEq] at he); first | exact hi.elim | exact he.elim | omega | (rcases hi with hi | hi <;> omega) | (rcases he with he | he <;> omega)))
  replace HSt := HSt.keep k101 (by first | exact fun h => h | (intro h; have he0 := h; have h := h; (try dsimp only at h); (try simp only [Value.ownBlock, Option.some.injEq] at h); (try simp only [add_block] at h); (try simp only [add_block] at he0); first | omega) | (intro i _ hi he; have he0 := he; have hi := hi; have he := he; (try dsimp only [NoK, AllB] at hi he); (try simp only [Value.ownBlock, Option.some.injEq] at he); first | exact hi.elim | exact he.elim | omega | (rcases hi with hi | hi <;> omega) | (rcases he with he | he <;> omega)))
  replace HB2 := HB2.keep k101 (by first | exact fun h => h | (intro h; have he0 := h; have h := h; (try dsimp only at h); (try simp only [Value.ownBlock, Option.some.injEq] at h); (try simp only [add_block] at h); (try simp only [add_block] at he0); first | omega) | (intro i _ hi he; have he0 := he; have hi := hi; have he := he; (try dsimp only [NoK, AllB] at hi he); (try simp only [Value.ownBlock, Option.some.injEq] at he); first | exact hi.elim | exact he.elim | omega | (rcases hi with hi | hi <;> omega) | (rcases he with he | he <;> omega)))
  replace HB1 := HX101
  clear HX101
  try simp only [List.set_cons_zero, List.set_cons_succ, setAt, List.take_zero, List.take_succ_cons, List.drop_zero, List.drop_succ_cons, List.nil_append, List.cons_append, List.append_nil, List.length_cons, List.length_nil, Nat.zero_add, Nat.reduceAdd, List.drop_nil] at HB1
  refine fin_nilJ ?_
  refine n_then ?_
  refine c_seq ?_
  refine wp_reg (by decide +kernel) ?_
  refine l_v (v_loadA (by kernel_rfl) rfl (by first | exact HB2.pv | exact HB1.pv | assumption) rfl) ?_
  refine l_to (to_storeA (n := 4) rfl rfl (show _ = (Value.agg _) from rfl) (by kernel_rfl) rfl (by first | (simp [slice_one]; done) | (simp only [List.forall_mem_cons, List.cons_append, List.nil_append]; repeat' (first | exact rfl | apply And.intro | (intro u hu; cases hu; done)))) HB2 (by first | exact of_decide_eq_true rfl | (simp; done) | decide) ?_)
  rintro w102 HX102 k102 z102
  have zs_k102 := k102.size
  replace E := E.step k102 (by intro i hi he; have he0 := he; have hi := hi; have he := he; (try dsimp only [NoK] at hi he ⊢); (try simp only [Value.ownBlock, Option.some.injEq] at he); first | exact he.elim | omega | exact he)
  replace HSf := HSf.keep k102 (by first | exact fun h => h | (intro h; have he0 := h; have h := h; (try dsimp only at h); (try simp only [Value.ownBlock, Option.some.injEq] at h); (try simp only [add_block] at h); (try simp only [add_block] at he0); first | omega) | (intro i _ hi he; have he0 := he; have hi := hi; have he := he; (try dsimp only [NoK, AllB] at hi he); (try simp only [Value.ownBlock, Option.some.injEq] at he); first | exact hi.elim | exact he.elim | omega | (rcases hi with hi | hi <;> omega) | (rcases he with he | he <;> omega)))
  replace HSt := HSt.keep k102 (by first | exact fun h => h | (intro h; have he0 := h; have h := h; (try dsimp only at h); (try simp only [Value.ownBlock, Option.some.injEq] at h); (try simp only [add_block] at h); (try simp only [add_block] at he0); first | omega) | (intro i _ hi he; have he0 := he; have hi := hi; have he := he; (try dsimp only [NoK, AllB] at hi he); (try simp only [Value.ownBlock, Option.some.injEq] at he); first | exact hi.elim | exact he.elim | omega | (rcases hi with hi | hi <;> omega) | (rcases he with he | he <;> omega)))
  replace HB1 := HB1.keep k102 (by first | exact fun h => h | (intro h; have he0 := h; have h := h; (try dsimp only at h); (try simp only [Value.ownBlock, Option.some.injEq] at h); (try simp only [add_block] at h); (try simp only [add_block] at he0); first | omega) | (intro i _ hi he; have he0 := he; have hi := hi; have he := he; (try dsimp only [NoK, AllB] at hi he); (try simp only [Value.ownBlock, Option.some.injEq] at he); first | exact hi.elim | exact he.elim | omega | (rcases hi with hi | hi <;> omega) | (rcases he with he | he <;> omega)))
  replace HS5 := HS5.keep k102 (by first | exact fun h => h | (intro h; have he0 := h; have h := h; (try dsimp only at h); (try simp only [Value.ownBlock, Option.some.injEq] at h); (try simp only [add_block] at h); (try simp only [add_block] at he0); first | omega) | (intro i _ hi he; have he0 := he; have hi := hi; have he := he; (try dsimp only [NoK, AllB] at hi he); (try simp only [Value.ownBlock, Option.some.injEq] at he); first | exact hi.elim | exact he.elim | omega | (rcases hi with hi | hi <;> omega) | (rcases he with he | he <;> omega)))
  replace HS8 := HS8.keep k102 (by first | exact fun h => h | (intro h; have he0 := h; have h := h; (try dsimp only at h); (try simp only [Value.ownBlock, Option.some.injEq] at h); (try simp only [add_block] at h); (try simp only [add_block] at he0); first | omega) | (intro i _ hi he; have he0 := he; have hi := hi; have he := he; (try dsimp only [NoK, AllB] at hi he); (try simp only [Value.ownBlock, Option.some.injEq] at he); first | exact hi.elim | exact he.elim | omega | (rcases hi with hi | hi <;> omega) | (rcases he with he | he <;> omega)))
  replace HB2 := HX102
  clear HX102
  try simp only [List.set_cons_zero, List.set_cons_succ, setAt, List.take_zero, List.take_succ_cons, List.drop_zero, List.drop_succ_cons, List.nil_append, List.cons_append, List.append_nil, List.length_cons, List.length_nil, Nat.zero_add, Nat.reduceAdd, List.drop_nil] at HB2
  refine l_nil ?_
  refine n_then ?_
  refine c_ret ?_
  refine ret1c (n := 4) rfl (by decide) rfl (by kernel_rfl) HB2.pv rfl ?_
  exact ⟨AgV.mkRg (HS5.mono fun b _ h => by omega) (HS8.mono fun b _ h => by omega) hg, E⟩
end Go.Proofs.Ytkaangdfpjkjpaa
