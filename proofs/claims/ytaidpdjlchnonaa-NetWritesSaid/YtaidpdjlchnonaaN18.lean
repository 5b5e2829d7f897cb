/- A part of the proof: steps and lemmas for the walks through the given program. -/
import Derived.Test.YtaidpdjlchnonaaN17
import Derived.Test.YtaidpdjlchnonaaN14
namespace Go.Proofs.Ytaidpdjlchnonaa
open Go.Vc
set_option linter.unusedVariables false
set_option linter.unusedSimpArgs false
set_option maxRecDepth 100000

theorem msW1 {m : Ms} (h : m.kind = 1) : hdW m ++ (wNum m.idx.toNat ++ wNum m.lt.toNat) = msW m := by simp [msW, h, kNm, kRows, optW]
theorem msW2 {m : Ms} (h : m.kind = 2) : hdW m ++ wFlag m.ok = msW m := by simp [msW, h, kNm, kRows, optW]
theorem msW3 {m : Ms} (h : m.kind = 3) : hdW m ++ (wNum m.idx.toNat ++ wNum m.lt.toNat) ++ wNum m.com.toNat ++ wList spE m.ents = msW m := by simp [msW, h, kNm, kRows, optW]
theorem msW4 {m : Ms} (h : m.kind = 4) : hdW m ++ wNum m.idx.toNat ++ wFlag m.ok = msW m := by simp [msW, h, kNm, kRows, optW]
theorem msW5 {m : Ms} (h : m.kind = 5) : hdW m ++ (wNum m.idx.toNat ++ wNum m.lt.toNat) ++ wNum m.com.toNat ++ wBytes m.snap = msW m := by simp [msW, h, kNm, kRows, optW]
theorem msW6 {m : Ms} (h1 : 1 ≤ m.kind ∧ m.kind ≤ 7) (g1 : ¬ m.kind = 1) (g2 : ¬ m.kind = 2) (g3 : ¬ m.kind = 3) (g4 : ¬ m.kind = 4) (g5 : ¬ m.kind = 5) : hdW m ++ wList spE m.ents = msW m := by
  have h : m.kind = 6 ∨ m.kind = 7 := by omega
  rcases h with h | h <;> simp [msW, h, kNm, kRows, optW]
set_option maxHeartbeats 4000000 in
theorem refMBytes_c {w : World} {F : Nat → Prop} {v : Value} {m : Ms} (HG1 : AgV tMs w F v m) (hm : mayN m = true) : CallsR Try.prog 18 #[v] w (fun r w' => OwV tU8 nU8 w' w.heap.size NoK r (msW m) ∧ Ext w w') := by
  obtain ⟨a1, c1, a2, c2, rfl, HSe, HSs, hw⟩ := HG1.ms
  obtain ⟨⟨hk, hfr, hto, _, hgr, hte⟩, ⟨hix, hlt, hco, _, _, _⟩, _⟩ := mayN_iff.1 hm
  obtain ⟨hl1, hl2, hl3⟩ := mayN_lens hm
  have k0 := wNum_len10 (n := m.kind.toNat) (by omega)
  have k1 := wNum_len10 (n := m.fr.toNat) (by omega)
  have k2 := wNum_len10 (n := m.to.toNat) (by omega)
  have k3 := wNum_len10 (n := m.grp.toNat) (by omega)
  have k4 := wNum_len10 (n := m.term.toNat) (by omega)
  have l1 := wNum_len10 (n := m.idx.toNat) (by omega)
  have l2 := wNum_len10 (n := m.lt.toNat) (by omega)
  have l3 := wNum_len10 (n := m.com.toNat) (by omega)
  have l4 := ents_le hm
  have l5 : (wFlag m.ok).length ≤ 1 := by cases m.ok <;> decide
  have l6 := wBytes_le (l := m.snap) (by omega)
  have hes : ∀ e ∈ m.ents, e.2.length ≤ 2000000 ∧ 0 ≤ e.1 := fun e he => by have := hl3 e he; omega
  refine enter 88 Try.func18 rfl rfl (by simp) ?_
  refine c_seq ?_
  have E := Keep.refl (K := NoK) w
  replace HSe := HSe.all
  replace HSs := HSs.all
  refine wp_reg (by decide +kernel) ?_
  refine l_to (to_box (show _ = (Value.agg _) from rfl) ?_)
  rintro b1 w1 zb1 HB1 e1 z1
  have zs_e1 := e1.size
  replace E := E.trans (Ext.keep e1)
  replace HSe := HSe.ext e1
  replace HSs := HSs.ext e1
  try simp only [Value.cells] at HB1
  refine l_v (v_assign rfl) ?_
  refine l_nil ?_
  refine n_then ?_
  refine c_seq ?_
  refine wp_any (by kernel_rfl) ?_
  have e101 : Ext w1 { w1 with drawn := w1.drawn + 1 } := Keep.drawn _ _
  generalize hw101 : ({ w1 with drawn := w1.drawn + 1 } : World) = w101 at e101 ⊢
  clear hw101
  have zs_e101 := e101.size
  replace E := E.trans (Ext.keep e101)
  replace HSe := HSe.ext e101
  replace HSs := HSs.ext e101
  replace HB1 := HB1.ext e101
  refine r_cut 9 rfl (by decide +kernel) (by decide +kernel) (by decide +kernel) ?_
  refine wp_regJW (fun k => w101.heap.size ≤ k) (EqJ [] (ChainJ (tU8) (nU8) w101.heap.size (w101.heap.size) (NoK) (AllB) (.slice none 0 0 : Value) ([]) [2, 6] [none, some 5] [wNum m.kind.toNat, wNum m.fr.toNat])) (by decide +kernel) (by decide +kernel) (fun vals done hd => EqJ.start (ChainJ.start (OwV.nil _ _ _ _ _) (Nat.le_refl _) (Nat.le_refl _) (fun i hi => hd i (dOf_lt (by decide) hi))) (fun k j hq => hd k (dQ_lt (by decide) k j hq))) ?_
  refine rj_v (EqJ.on ChainJ.on) (by decide) (fun done vals w hR hJ hdn hd => v_fieldAddr (off := 0) (ft := 22) (by kernel_rfl) rfl) ?_
  refine rj_v (EqJ.on ChainJ.on) (by decide) (fun done vals w hR hJ hdn hd => v_load (by kernel_rfl) (hd 0 rfl) (by first | exact (HB1.keep hR (by intro h; (try dsimp only at h); first | omega)).pv 0 _ rfl | assumption)) ?_
  refine rj_d (fun done vals w hR hcl hdk hJ hdn hd => by
      have zs_R := hR.size
      exact to_f1 (by kernel_rfl) (hd 1 rfl) (CallsR.mono (refput_c (by omega) (by omega)) fun v w1 h => ⟨Keep.mono (h.2.2) (fun b _ h => h.elim), hJ.step hdk (by decide) (hJ.1.app (n := 0) rfl hdk (fun m h => by cases h) rfl (once_as (by decide)) (ps_ne (by decide)) (by simpa using (h.1).base (by omega)) (Keep.mono (h.2.2) (fun b _ h => h.elim)) (fun b hb => .inr ((h.1).own_lt hb).1))⟩)) ?_
  refine rj_v (EqJ.on ChainJ.on) (by decide) (fun done vals w hR hJ hdn hd => v_fieldAddr (off := 1) (ft := 3) (by kernel_rfl) rfl) ?_
  refine rj_v (EqJ.on ChainJ.on) (by decide) (fun done vals w hR hJ hdn hd => v_load (by kernel_rfl) (hd 3 rfl) (by first | exact (HB1.keep hR (by intro h; (try dsimp only at h); first | omega)).pv 1 _ rfl | assumption)) ?_
  refine rj_d (fun done vals w hR hcl hdk hJ hdn hd => by
      have zs_R := hR.size
      exact to_f1 (by kernel_rfl) (hd 4 rfl) (CallsR.mono (refput_c (by omega) (by omega)) fun v w1 h => ⟨Keep.mono (h.2.2) (fun b _ h => h.elim), hJ.step hdk (by decide) (hJ.1.prod (n := 1) (h.2.2) rfl rfl (once_ps (by decide)) (by decide) (h.1.view.mono (fun b _ h => ⟨trivial, h.resolve_right (fun x => x)⟩)))⟩)) ?_
  refine rj_d (fun done vals w hR hcl hdk hJ hdn hd => by
      have zs_R := hR.size
      obtain ⟨hacc, hown, hsrc⟩ := hJ.1.at (n := 1) rfl hdk (fun m h => ⟨2, by cases h; rfl, hdn 2 rfl⟩)
      exact to_append (et := 5) (bytes := 1) (by kernel_rfl) rfl hacc rfl (hsrc _ _ rfl rfl (hdn 5 rfl)) flat_u8.to (by simp; omega) (by simp only [maxLen]; simp; omega) (by omega) (fun a n cc w1 o hn kk ho _ => ⟨kk.mono (fun b _ h => (hown b h).resolve_left (fun h => by cases h)), hJ.step hdk (by decide) (hJ.1.app (n := 1) rfl hdk (fun m h => ⟨2, by cases h; rfl, hdn 2 rfl⟩) rfl (once_as (by decide)) (ps_ne (by decide)) o kk ho)⟩)) ?_
  refine rj_v (EqJ.on ChainJ.on) (by decide) (fun done vals w hR hJ hdn hd => v_fieldAddr (off := 2) (ft := 3) (by kernel_rfl) rfl) ?_
  refine rj_v (EqJ.on ChainJ.on) (by decide) (fun done vals w hR hJ hdn hd => v_load (by kernel_rfl) (hd 7 rfl) (by first | exact (HB1.keep hR (by intro h; (try dsimp only at h); first | omega)).pv 2 _ rfl | assumption)) ?_
  refine rj_nil (fun vals w102 k102 J102 => ?_)
  rintro _ _ rfl _ _ rfl _ rfl - _ _ rfl _ _ rfl _ rfl - v11 hv11 - _ _ rfl _ _ rfl
  have zs_k102 := k102.size
  have HO11 : OwV (tU8) (nU8) w102 (w101.heap.size) (NoK) v11 (wNum m.kind.toNat ++ wNum m.fr.toNat) := by
    have h := J102.1.fin (by exact Nat.le_refl _)
    have h2 : [] ++ ([wNum m.kind.toNat, wNum m.fr.toNat]).flatten = wNum m.kind.toNat ++ wNum m.fr.toNat := by simp
    rw [h2] at h; rw [hv11]; exact h
  clear hv11
  obtain ⟨a11, c11, rfl⟩ := HO11.shape
  have zo_HO11 := fun (b : Nat) h => HO11.own_lt (b := b) h
  replace E := E.step k102 (by intro i hi he; (try dsimp only [NoK] at hi he ⊢); first | exact he.elim | omega | exact he)
  replace HSe := HSe.keep k102 (by intro i _ hi he; (try dsimp only [NoK, AllB] at hi he); first | exact hi.elim | exact he.elim | omega | (rcases hi with hi | hi <;> omega) | (rcases he with he | he <;> omega))
  replace HSs := HSs.keep k102 (by intro i _ hi he; (try dsimp only [NoK, AllB] at hi he); first | exact hi.elim | exact he.elim | omega | (rcases hi with hi | hi <;> omega) | (rcases he with he | he <;> omega))
  replace HB1 := HB1.keep k102 (by intro h; (try dsimp only at h); first | omega)
  refine fin_nilJ ?_
  refine n_then ?_
  refine r_cut 1 rfl (by decide +kernel) (by decide +kernel) (by decide +kernel) ?_
  refine r_one (by decide +kernel) rfl ?_
  refine l_to (to_f1 (by kernel_rfl) (show _ = (Value.int _ _) from rfl) (CallsR.mono (refput_c (by omega) (by omega)) ?_))
  rintro _ w14 ⟨HO14, ⟨q14, c14, rfl⟩, e14⟩
  have zs_e14 := e14.size
  replace E := E.trans (Ext.keep e14)
  replace HSe := HSe.ext e14
  replace HSs := HSs.ext e14
  replace HB1 := HB1.ext e14
  replace HO11 := HO11.ext e14
  have zo_HO14 := fun (b : Nat) h => HO14.own_lt (b := b) h
  refine l_nil ?_
  refine n_then ?_
  refine r_cut 1 rfl (by decide +kernel) (by decide +kernel) (by decide +kernel) ?_
  refine r_one (by decide +kernel) rfl ?_
  refine l_to (to_append (et := 5) (bytes := 1) (by kernel_rfl) (show _ = (Value.slice _ _ _) from rfl) HO11 (show _ = (Value.slice _ _ _) from rfl) HO14.view (flat_u8.to) (by first | omega | (simp; done) | (simp; omega)) (by simp only [maxLen]; first | omega | (simp; done) | (simp; omega)) (by omega) ?_)
  rintro a15 n15 c15 w15 HO15 hn15 k15 h15 i15
  have zs_k15 := k15.size
  subst hn15
  replace HO15 := HO15.base (B' := b1 + 1) (by omega)
  replace E := E.step k15 (by intro i hi he; have he0 := he; (try dsimp only [NoK] at hi he ⊢); (try simp only [Value.ownBlock, Option.some.injEq] at he); first | exact he.elim | omega | exact he | (have := (HO11).own_lt he0; omega) | (have := zo_HO11 _ he0; omega) | (have := (HO11).own_lt he0; rcases hi with hi | hi <;> omega))
  replace HSe := HSe.keep k15 (by intro i _ hi he; have he0 := he; (try dsimp only [NoK, AllB] at hi he); (try simp only [Value.ownBlock, Option.some.injEq] at he); first | exact hi.elim | exact he.elim | omega | (rcases hi with hi | hi <;> omega) | (rcases he with he | he <;> omega) | (have := (HO11).own_lt he0; omega) | (have := zo_HO11 _ he0; omega) | (have := (HO11).own_lt he0; rcases hi with hi | hi <;> omega))
  replace HSs := HSs.keep k15 (by intro i _ hi he; have he0 := he; (try dsimp only [NoK, AllB] at hi he); (try simp only [Value.ownBlock, Option.some.injEq] at he); first | exact hi.elim | exact he.elim | omega | (rcases hi with hi | hi <;> omega) | (rcases he with he | he <;> omega) | (have := (HO11).own_lt he0; omega) | (have := zo_HO11 _ he0; omega) | (have := (HO11).own_lt he0; rcases hi with hi | hi <;> omega))
  replace HB1 := HB1.keep k15 (by intro h; have he0 := h; (try dsimp only at h); (try simp only [Value.ownBlock, Option.some.injEq] at h); first | omega | (have := (HO11).own_lt he0; omega) | (have := zo_HO11 _ he0; omega))
  have zo_HO15 := fun (b : Nat) h => HO15.own_lt (b := b) h
  refine l_nil ?_
  refine n_then ?_
  refine r_one (by decide +kernel) rfl ?_
  refine l_v (v_assign (t := .slice _ _ _) rfl) ?_
  refine l_nil ?_
  refine n_then ?_
  refine c_seq ?_
  refine wp_any (by kernel_rfl) ?_
  have e103 : Ext w15 { w15 with drawn := w15.drawn + 1 } := Keep.drawn _ _
  generalize hw103 : ({ w15 with drawn := w15.drawn + 1 } : World) = w103 at e103 ⊢
  clear hw103
  have zs_e103 := e103.size
  replace E := E.trans (Ext.keep e103)
  replace HSe := HSe.ext e103
  replace HSs := HSs.ext e103
  replace HB1 := HB1.ext e103
  replace HO15 := HO15.ext e103
  refine r_cut 7 rfl (by decide +kernel) (by decide +kernel) (by decide +kernel) ?_
  refine wp_regJW (fun k => (.slice a15 (wNum m.kind.toNat ++ wNum m.fr.toNat ++ wNum m.to.toNat).length c15 : Value).ownBlock = some k ∨ w103.heap.size ≤ k) (EqJ [] (ChainJ (tU8) (nU8) w103.heap.size (b1 + 1) (NoK) (AllB) (.slice a15 (wNum m.kind.toNat ++ wNum m.fr.toNat ++ wNum m.to.toNat).length c15 : Value) (wNum m.kind.toNat ++ wNum m.fr.toNat ++ wNum m.to.toNat) [4] [some 3] [wNum m.grp.toNat])) (by decide +kernel) (by decide +kernel) (fun vals done hd => EqJ.start (ChainJ.start (HO15) ((by omega)) (Nat.le_refl _) (fun i hi => hd i (dOf_lt (by decide) hi))) (fun k j hq => hd k (dQ_lt (by decide) k j hq))) ?_
  refine rj_v (EqJ.on ChainJ.on) (by decide) (fun done vals w hR hJ hdn hd => v_move (t := .slice _ _ _) rfl) ?_
  refine rj_v (EqJ.on ChainJ.on) (by decide) (fun done vals w hR hJ hdn hd => v_fieldAddr (off := 3) (ft := 3) (by kernel_rfl) rfl) ?_
  refine rj_v (EqJ.on ChainJ.on) (by decide) (fun done vals w hR hJ hdn hd => v_load (by kernel_rfl) (hd 1 rfl) (by first | exact (HB1.keep hR (by intro h; have he0 := h; (try dsimp only at h); (try simp only [Value.ownBlock, Option.some.injEq] at h); first | omega | (have := (HO15).own_lt he0; omega) | (have := zo_HO15 _ he0; omega) | (rcases he0 with he0 | he0; (have := (HO15).own_lt he0; omega); omega))).pv 3 _ rfl | assumption)) ?_
  refine rj_d (fun done vals w hR hcl hdk hJ hdn hd => by
      have zs_R := hR.size
      exact to_f1 (by kernel_rfl) (hd 2 rfl) (CallsR.mono (refput_c (by omega) (by omega)) fun v w1 h => ⟨Keep.mono (h.2.2) (fun b _ h => h.elim), hJ.step hdk (by decide) (hJ.1.prod (n := 0) (h.2.2) rfl rfl (once_ps (by decide)) (by decide) (h.1.view.mono (fun b _ h => ⟨trivial, h.resolve_right (fun x => x)⟩)))⟩)) ?_
  refine rj_d (fun done vals w hR hcl hdk hJ hdn hd => by
      have zs_R := hR.size
      obtain ⟨hacc, hown, hsrc⟩ := hJ.1.at (n := 0) rfl hdk (fun m h => by cases h)
      exact to_append (et := 5) (bytes := 1) (by kernel_rfl) (hd 0 rfl) hacc rfl (hsrc _ _ rfl rfl (hdn 3 rfl)) flat_u8.to (by simp; omega) (by simp only [maxLen]; simp; omega) (by omega) (fun a n cc w1 o hn kk ho _ => ⟨kk.mono (fun b _ h => hown b h), hJ.step hdk (by decide) (hJ.1.app (n := 0) rfl hdk (fun m h => by cases h) rfl (once_as (by decide)) (ps_ne (by decide)) o kk ho)⟩)) ?_
  refine rj_v (EqJ.on ChainJ.on) (by decide) (fun done vals w hR hJ hdn hd => v_fieldAddr (off := 4) (ft := 2) (by kernel_rfl) rfl) ?_
  refine rj_v (EqJ.on ChainJ.on) (by decide) (fun done vals w hR hJ hdn hd => v_load (by kernel_rfl) (hd 5 rfl) (by first | exact (HB1.keep hR (by intro h; have he0 := h; (try dsimp only at h); (try simp only [Value.ownBlock, Option.some.injEq] at h); first | omega | (have := (HO15).own_lt he0; omega) | (have := zo_HO15 _ he0; omega) | (rcases he0 with he0 | he0; (have := (HO15).own_lt he0; omega); omega))).pv 4 _ rfl | assumption)) ?_
  refine rj_nil (fun vals w104 k104 J104 => ?_)
  rintro _ _ rfl _ _ rfl _ _ rfl _ rfl - v20 hv20 - _ _ rfl _ _ rfl
  have zs_k104 := k104.size
  have HO20 : OwV (tU8) (nU8) w104 (b1 + 1) (NoK) v20 (wNum m.kind.toNat ++ wNum m.fr.toNat ++ wNum m.to.toNat ++ wNum m.grp.toNat) := by
    have h := J104.1.fin (by exact Nat.le_refl _)
    have h2 : wNum m.kind.toNat ++ wNum m.fr.toNat ++ wNum m.to.toNat ++ ([wNum m.grp.toNat]).flatten = wNum m.kind.toNat ++ wNum m.fr.toNat ++ wNum m.to.toNat ++ wNum m.grp.toNat := by simp
    rw [h2] at h; rw [hv20]; exact h
  clear hv20
  obtain ⟨a20, c20, rfl⟩ := HO20.shape
  have zo_HO20 := fun (b : Nat) h => HO20.own_lt (b := b) h
  replace E := E.step k104 (by intro i hi he; have he0 := he; (try dsimp only [NoK] at hi he ⊢); (try simp only [Value.ownBlock, Option.some.injEq] at he); first | exact he.elim | omega | exact he | (have := (HO15).own_lt he0; omega) | (have := zo_HO15 _ he0; omega) | (have := (HO15).own_lt he0; rcases hi with hi | hi <;> omega) | (rcases he0 with he0 | he0; (have := (HO15).own_lt he0; omega); omega))
  replace HSe := HSe.keep k104 (by intro i _ hi he; have he0 := he; (try dsimp only [NoK, AllB] at hi he); (try simp only [Value.ownBlock, Option.some.injEq] at he); first | exact hi.elim | exact he.elim | omega | (rcases hi with hi | hi <;> omega) | (rcases he with he | he <;> omega) | (have := (HO15).own_lt he0; omega) | (have := zo_HO15 _ he0; omega) | (have := (HO15).own_lt he0; rcases hi with hi | hi <;> omega) | (rcases he0 with he0 | he0; (have := (HO15).own_lt he0; omega); omega))
  replace HSs := HSs.keep k104 (by intro i _ hi he; have he0 := he; (try dsimp only [NoK, AllB] at hi he); (try simp only [Value.ownBlock, Option.some.injEq] at he); first | exact hi.elim | exact he.elim | omega | (rcases hi with hi | hi <;> omega) | (rcases he with he | he <;> omega) | (have := (HO15).own_lt he0; omega) | (have := zo_HO15 _ he0; omega) | (have := (HO15).own_lt he0; rcases hi with hi | hi <;> omega) | (rcases he0 with he0 | he0; (have := (HO15).own_lt he0; omega); omega))
  replace HB1 := HB1.keep k104 (by intro h; have he0 := h; (try dsimp only at h); (try simp only [Value.ownBlock, Option.some.injEq] at h); first | omega | (have := (HO15).own_lt he0; omega) | (have := zo_HO15 _ he0; omega) | (rcases he0 with he0 | he0; (have := (HO15).own_lt he0; omega); omega))
  refine fin_nilJ ?_
  refine n_then ?_
  refine r_cut 1 rfl (by decide +kernel) (by decide +kernel) (by decide +kernel) ?_
  refine r_one (by decide +kernel) rfl ?_
  refine l_to (to_f1 (by kernel_rfl) (show _ = (Value.int _ _) from rfl) (CallsR.mono (refput_c (by omega) (by omega)) ?_))
  rintro _ w23 ⟨HO23, ⟨q23, c23, rfl⟩, e23⟩
  have zs_e23 := e23.size
  replace E := E.trans (Ext.keep e23)
  replace HSe := HSe.ext e23
  replace HSs := HSs.ext e23
  replace HB1 := HB1.ext e23
  replace HO20 := HO20.ext e23
  have zo_HO23 := fun (b : Nat) h => HO23.own_lt (b := b) h
  refine l_nil ?_
  refine n_then ?_
  refine r_cut 1 rfl (by decide +kernel) (by decide +kernel) (by decide +kernel) ?_
  refine r_one (by decide +kernel) rfl ?_
  refine l_to (to_append (et := 5) (bytes := 1) (by kernel_rfl) (show _ = (Value.slice _ _ _) from rfl) HO20 (show _ = (Value.slice _ _ _) from rfl) HO23.view (flat_u8.to) (by first | omega | (simp; done) | (simp; omega)) (by simp only [maxLen]; first | omega | (simp; done) | (simp; omega)) (by omega) ?_)
  rintro a24 n24 c24 w24 HO24 hn24 k24 h24 i24
  have zs_k24 := k24.size
  subst hn24
  replace HO24 : OwV tU8 nU8 _ (b1 + 1) NoK (.slice a24 (hdW m).length c24) (hdW m) := HO24
  rw [show (wNum m.kind.toNat ++ wNum m.fr.toNat ++ wNum m.to.toNat ++ wNum m.grp.toNat ++ wNum m.term.toNat) = hdW m from rfl]
  have hh := hdW_le hm
  replace E := E.step k24 (by intro i hi he; have he0 := he; (try dsimp only [NoK] at hi he ⊢); (try simp only [Value.ownBlock, Option.some.injEq] at he); first | exact he.elim | omega | exact he | (have := (HO20).own_lt he0; omega) | (have := zo_HO20 _ he0; omega) | (have := (HO20).own_lt he0; rcases hi with hi | hi <;> omega))
  replace HSe := HSe.keep k24 (by intro i _ hi he; have he0 := he; (try dsimp only [NoK, AllB] at hi he); (try simp only [Value.ownBlock, Option.some.injEq] at he); first | exact hi.elim | exact he.elim | omega | (rcases hi with hi | hi <;> omega) | (rcases he with he | he <;> omega) | (have := (HO20).own_lt he0; omega) | (have := zo_HO20 _ he0; omega) | (have := (HO20).own_lt he0; rcases hi with hi | hi <;> omega))
  replace HSs := HSs.keep k24 (by intro i _ hi he; have he0 := he; (try dsimp only [NoK, AllB] at hi he); (try simp only [Value.ownBlock, Option.some.injEq] at he); first | exact hi.elim | exact he.elim | omega | (rcases hi with hi | hi <;> omega) | (rcases he with he | he <;> omega) | (have := (HO20).own_lt he0; omega) | (have := zo_HO20 _ he0; omega) | (have := (HO20).own_lt he0; rcases hi with hi | hi <;> omega))
  replace HB1 := HB1.keep k24 (by intro h; have he0 := h; (try dsimp only at h); (try simp only [Value.ownBlock, Option.some.injEq] at h); first | omega | (have := (HO20).own_lt he0; omega) | (have := zo_HO20 _ he0; omega))
  have zo_HO24 := fun (b : Nat) h => HO24.own_lt (b := b) h
  refine l_nil ?_
  refine n_then ?_
  refine r_one (by decide +kernel) rfl ?_
  refine l_v (v_assign (t := .slice _ _ _) rfl) ?_
  refine l_nil ?_
  refine n_then ?_
  refine c_seq ?_
  refine wp_any (by kernel_rfl) ?_
  have e105 : Ext w24 { w24 with drawn := w24.drawn + 1 } := Keep.drawn _ _
  generalize hw105 : ({ w24 with drawn := w24.drawn + 1 } : World) = w105 at e105 ⊢
  clear hw105
  have zs_e105 := e105.size
  replace E := E.trans (Ext.keep e105)
  replace HSe := HSe.ext e105
  replace HSs := HSs.ext e105
  replace HB1 := HB1.ext e105
  replace HO24 := HO24.ext e105
  refine r_cut 5 rfl (by decide +kernel) (by decide +kernel) (by decide +kernel) ?_
  obtain ⟨n3, hn3⟩ : ∃ n, n = w105.heap.size := ⟨_, rfl⟩
  refine wp_regdW (NoK) (by decide +kernel) (by decide +kernel) ?_
  refine rt_v (fun vals w hR hd => v_fieldAddr (off := 5) (ft := 2) (by kernel_rfl) rfl) ?_
  refine rt_v (fun vals w hR hd => v_load (by kernel_rfl) (hd 0 rfl) (by first | exact (HB1.ext hR).pv 5 _ rfl | assumption)) ?_
  refine rt_to (fun v W => OwV tU8 nU8 W n3 NoK v (wNum m.idx.toNat)) (fun v w w' h k => h.ext k) (fun vals w hR hd => to_f1 (by kernel_rfl) (hd 1 rfl) (CallsR.mono (refput_c (by omega) (by omega)) fun v w1 ⟨h, _, e⟩ => ⟨e, h.base (by have := hR.size; omega)⟩)) ?_
  refine rt_v (fun vals w hR hd => v_fieldAddr (off := 6) (ft := 2) (by kernel_rfl) rfl) ?_
  refine rt_v (fun vals w hR hd => v_load (by kernel_rfl) (hd 3 rfl) (by first | exact (HB1.ext hR).pv 6 _ rfl | assumption)) ?_
  refine rt_nil (fun w106 e106 => ?_)
  rintro _ rfl _ rfl v27 HO27 _ rfl _ rfl
  have zs_e106 := e106.size
  have HO27 : OwV tU8 nU8 _ n3 NoK v27 (wNum m.idx.toNat) := HO27
  obtain ⟨a27, c27, rfl⟩ := HO27.shape
  have zo_HO27 := fun (b : Nat) h => HO27.own_lt (b := b) h
  replace E := E.trans (Ext.keep e106)
  replace HSe := HSe.ext e106
  replace HSs := HSs.ext e106
  replace HB1 := HB1.ext e106
  replace HO24 := HO24.ext e106
  refine fin_nil ?_
  refine n_then ?_
  refine r_cut 1 rfl (by decide +kernel) (by decide +kernel) (by decide +kernel) ?_
  refine r_one (by decide +kernel) rfl ?_
  refine l_to (to_f1 (by kernel_rfl) (show _ = (Value.int _ _) from rfl) (CallsR.mono (refput_c (by omega) (by omega)) ?_))
  rintro _ w30 ⟨HO30, ⟨q30, c30, rfl⟩, e30⟩
  have zs_e30 := e30.size
  replace E := E.trans (Ext.keep e30)
  replace HSe := HSe.ext e30
  replace HSs := HSs.ext e30
  replace HB1 := HB1.ext e30
  replace HO24 := HO24.ext e30
  replace HO27 := HO27.ext e30
  have zo_HO30 := fun (b : Nat) h => HO30.own_lt (b := b) h
  refine l_nil ?_
  refine n_then ?_
  refine r_cut 1 rfl (by decide +kernel) (by decide +kernel) (by decide +kernel) ?_
  refine r_one (by decide +kernel) rfl ?_
  refine l_to (to_append (et := 5) (bytes := 1) (by kernel_rfl) (show _ = (Value.slice _ _ _) from rfl) HO27 (show _ = (Value.slice _ _ _) from rfl) HO30.view (flat_u8.to) (by first | omega | (simp; done) | (simp; omega)) (by simp only [maxLen]; first | omega | (simp; done) | (simp; omega)) (by omega) ?_)
  rintro a31 n31 c31 w31 HO31 hn31 k31 h31 i31
  have zs_k31 := k31.size
  subst hn31
  have HS31 := HO31.view.mono (F' := fun i => n3 ≤ i) (fun i _ h => h.resolve_right (fun x => x))
  replace E := E.step k31 (by intro i hi he; have he0 := he; (try dsimp only [NoK] at hi he ⊢); (try simp only [Value.ownBlock, Option.some.injEq] at he); first | exact he.elim | omega | exact he | (have := (HO27).own_lt he0; omega) | (have := zo_HO27 _ he0; omega) | (have := (HO27).own_lt he0; rcases hi with hi | hi <;> omega))
  replace HSe := HSe.keep k31 (by intro i _ hi he; have he0 := he; (try dsimp only [NoK, AllB] at hi he); (try simp only [Value.ownBlock, Option.some.injEq] at he); first | exact hi.elim | exact he.elim | omega | (rcases hi with hi | hi <;> omega) | (rcases he with he | he <;> omega) | (have := (HO27).own_lt he0; omega) | (have := zo_HO27 _ he0; omega) | (have := (HO27).own_lt he0; rcases hi with hi | hi <;> omega))
  replace HSs := HSs.keep k31 (by intro i _ hi he; have he0 := he; (try dsimp only [NoK, AllB] at hi he); (try simp only [Value.ownBlock, Option.some.injEq] at he); first | exact hi.elim | exact he.elim | omega | (rcases hi with hi | hi <;> omega) | (rcases he with he | he <;> omega) | (have := (HO27).own_lt he0; omega) | (have := zo_HO27 _ he0; omega) | (have := (HO27).own_lt he0; rcases hi with hi | hi <;> omega))
  replace HB1 := HB1.keep k31 (by intro h; have he0 := h; (try dsimp only at h); (try simp only [Value.ownBlock, Option.some.injEq] at h); first | omega | (have := (HO27).own_lt he0; omega) | (have := zo_HO27 _ he0; omega))
  replace HO24 := HO24.keep k31 (by intro i ho he; have he0 := he; have ho0 := ho; (try dsimp only [NoK] at he); (try simp only [Value.ownBlock, Option.some.injEq, reduceCtorEq] at ho); (try simp only [Value.ownBlock, Option.some.injEq, reduceCtorEq] at he); first | exact he.elim | exact ho.elim | omega | (have := zo_HO24 _ ho0; omega) | (have := (HO27).own_lt he0; omega) | (have := zo_HO27 _ he0; omega) | (have := zo_HO24 _ ho0; have := (HO27).own_lt he0; omega)) (by intro i _ hi _ he; have he0 := he; have hi := hi; have he := he; (try dsimp only [NoK, AllB] at hi he); (try simp only [Value.ownBlock, Option.some.injEq, reduceCtorEq] at he); all_goals first | exact hi.elim | exact hi.1.elim | exact he.elim | omega | (rcases hi with hi | hi <;> omega) | (rcases he with he | he <;> omega) | (have := (HO27).own_lt he0; omega) | (have := zo_HO27 _ he0; omega) | (have := (HO27).own_lt he0; rcases hi with hi | hi <;> omega))
  have zo_HO31 := fun (b : Nat) h => HO31.own_lt (b := b) h
  refine l_nil ?_
  refine n_then ?_
  refine r_one (by decide +kernel) rfl ?_
  refine l_v (v_assign (t := .slice _ _ _) rfl) ?_
  refine l_nil ?_
  refine n_then ?_
  refine c_seq ?_
  refine c_seq ?_
  refine wp_reg (by decide +kernel) ?_
  refine l_v (v_fieldAddr (off := 0) (ft := 22) (by kernel_rfl) rfl) ?_
  refine l_v (v_load (by kernel_rfl) rfl (by first | exact HB1.pv 0 _ rfl | assumption)) ?_
  refine l_nil ?_
  refine n_then ?_
  refine c_block ?_
  refine c_seq ?_
  refine wp_reg (by decide +kernel) ?_
  refine l_v (v_eql rfl rfl) ?_
  refine l_v (v_assign (t := .bool _) rfl) ?_
  refine l_nil ?_
  refine n_then ?_
  refine c_cond rfl rfl (fun h1 => ?_) (fun h1 => ?_)
  · skip
    refine c_seq ?_
    refine wp_reg (by decide +kernel) ?_
    refine l_v (v_move (t := .slice _ _ _) rfl) ?_
    refine l_v (v_move (t := .slice _ _ _) rfl) ?_
    refine l_to (to_append (et := 5) (bytes := 1) (by kernel_rfl) (show _ = (Value.slice _ _ _) from rfl) HO24 (show _ = (Value.slice _ _ _) from rfl) HS31 (flat_u8.to) (by first | omega | (simp; done) | (simp; omega)) (by simp only [maxLen]; first | omega | (simp; done) | (simp; omega)) (by omega) ?_)
    rintro a38 n38 c38 w38 HO38 hn38 k38 h38 i38
    have zs_k38 := k38.size
    subst hn38
    replace E := E.step k38 (by intro i hi he; have he0 := he; (try dsimp only [NoK] at hi he ⊢); (try simp only [Value.ownBlock, Option.some.injEq] at he); first | exact he.elim | omega | exact he | (have := (HO24).own_lt he0; omega) | (have := zo_HO24 _ he0; omega) | (have := (HO24).own_lt he0; rcases hi with hi | hi <;> omega))
    replace HSe := HSe.keep k38 (by intro i _ hi he; have he0 := he; (try dsimp only [NoK, AllB] at hi he); (try simp only [Value.ownBlock, Option.some.injEq] at he); first | exact hi.elim | exact he.elim | omega | (rcases hi with hi | hi <;> omega) | (rcases he with he | he <;> omega) | (have := (HO24).own_lt he0; omega) | (have := zo_HO24 _ he0; omega) | (have := (HO24).own_lt he0; rcases hi with hi | hi <;> omega))
    replace HSs := HSs.keep k38 (by intro i _ hi he; have he0 := he; (try dsimp only [NoK, AllB] at hi he); (try simp only [Value.ownBlock, Option.some.injEq] at he); first | exact hi.elim | exact he.elim | omega | (rcases hi with hi | hi <;> omega) | (rcases he with he | he <;> omega) | (have := (HO24).own_lt he0; omega) | (have := zo_HO24 _ he0; omega) | (have := (HO24).own_lt he0; rcases hi with hi | hi <;> omega))
    replace HB1 := HB1.keep k38 (by intro h; have he0 := h; (try dsimp only at h); (try simp only [Value.ownBlock, Option.some.injEq] at h); first | omega | (have := (HO24).own_lt he0; omega) | (have := zo_HO24 _ he0; omega))
    replace HS31 := HS31.keep k38 (by intro i _ hi he; have he0 := he; (try dsimp only [NoK, AllB] at hi he); (try simp only [Value.ownBlock, Option.some.injEq] at he); first | exact hi.elim | exact he.elim | omega | (rcases hi with hi | hi <;> omega) | (rcases he with he | he <;> omega) | (have := (HO24).own_lt he0; omega) | (have := zo_HO24 _ he0; omega) | (have := (HO24).own_lt he0; rcases hi with hi | hi <;> omega))
    have zo_HO38 := fun (b : Nat) h => HO38.own_lt (b := b) h
    refine l_v (v_assign (t := .slice _ _ _) rfl) ?_
    refine l_nil ?_
    refine n_then ?_
    refine c_ret ?_
    refine r_blk ?_
    refine r_then ?_
    refine ret1v rfl (by decide) (show _ = (Value.slice _ _ _) from rfl) ?_
    rw [msW1 (dtrue h1)] at HO38 ⊢
    exact ⟨HO38.base (by omega), E⟩
  · skip
    refine c_seq ?_
    refine wp_reg (by decide +kernel) ?_
    refine l_v (v_eql rfl rfl) ?_
    refine l_v (v_assign (t := .bool _) rfl) ?_
    refine l_nil ?_
    refine n_then ?_
    refine c_cond rfl rfl (fun h2 => ?_) (fun h2 => ?_)
    · skip
      refine c_seq ?_
      refine wp_reg (by decide +kernel) ?_
      refine l_v (v_move (t := .slice _ _ _) rfl) ?_
      refine l_v (v_fieldAddr (off := 9) (ft := 4) (by kernel_rfl) rfl) ?_
      refine l_v (v_load (by kernel_rfl) rfl (by first | exact HB1.pv 9 _ rfl | assumption)) ?_
      refine l_to (to_f1 (by kernel_rfl) (show _ = (Value.bool _) from rfl) (CallsR.mono (refflag_c) ?_))
      rintro _ w44 ⟨HO44, ⟨q44, c44, rfl⟩, e44⟩
      have zs_e44 := e44.size
      replace E := E.trans (Ext.keep e44)
      replace HSe := HSe.ext e44
      replace HSs := HSs.ext e44
      replace HB1 := HB1.ext e44
      replace HO24 := HO24.ext e44
      have zo_HO44 := fun (b : Nat) h => HO44.own_lt (b := b) h
      refine l_to (to_append (et := 5) (bytes := 1) (by kernel_rfl) (show _ = (Value.slice _ _ _) from rfl) HO24 (show _ = (Value.slice _ _ _) from rfl) HO44.view (flat_u8.to) (by first | omega | (simp; done) | (simp; omega)) (by simp only [maxLen]; first | omega | (simp; done) | (simp; omega)) (by omega) ?_)
      rintro a45 n45 c45 w45 HO45 hn45 k45 h45 i45
      have zs_k45 := k45.size
      subst hn45
      replace E := E.step k45 (by intro i hi he; have he0 := he; (try dsimp only [NoK] at hi he ⊢); (try simp only [Value.ownBlock, Option.some.injEq] at he); first | exact he.elim | omega | exact he | (have := (HO24).own_lt he0; omega) | (have := zo_HO24 _ he0; omega) | (have := (HO24).own_lt he0; rcases hi with hi | hi <;> omega))
      replace HSe := HSe.keep k45 (by intro i _ hi he; have he0 := he; (try dsimp only [NoK, AllB] at hi he); (try simp only [Value.ownBlock, Option.some.injEq] at he); first | exact hi.elim | exact he.elim | omega | (rcases hi with hi | hi <;> omega) | (rcases he with he | he <;> omega) | (have := (HO24).own_lt he0; omega) | (have := zo_HO24 _ he0; omega) | (have := (HO24).own_lt he0; rcases hi with hi | hi <;> omega))
      replace HSs := HSs.keep k45 (by intro i _ hi he; have he0 := he; (try dsimp only [NoK, AllB] at hi he); (try simp only [Value.ownBlock, Option.some.injEq] at he); first | exact hi.elim | exact he.elim | omega | (rcases hi with hi | hi <;> omega) | (rcases he with he | he <;> omega) | (have := (HO24).own_lt he0; omega) | (have := zo_HO24 _ he0; omega) | (have := (HO24).own_lt he0; rcases hi with hi | hi <;> omega))
      replace HB1 := HB1.keep k45 (by intro h; have he0 := h; (try dsimp only at h); (try simp only [Value.ownBlock, Option.some.injEq] at h); first | omega | (have := (HO24).own_lt he0; omega) | (have := zo_HO24 _ he0; omega))
      have zo_HO45 := fun (b : Nat) h => HO45.own_lt (b := b) h
      refine l_v (v_assign (t := .slice _ _ _) rfl) ?_
      refine l_nil ?_
      refine n_then ?_
      refine c_ret ?_
      refine r_blk ?_
      refine r_then ?_
      refine ret1v rfl (by decide) (show _ = (Value.slice _ _ _) from rfl) ?_
      rw [msW2 (dtrue h2)] at HO45 ⊢
      exact ⟨HO45.base (by omega), E⟩
    · skip
      refine c_seq ?_
      refine wp_reg (by decide +kernel) ?_
      refine l_v (v_eql rfl rfl) ?_
      refine l_v (v_assign (t := .bool _) rfl) ?_
      refine l_nil ?_
      refine n_then ?_
      refine c_cond rfl rfl (fun h3 => ?_) (fun h3 => ?_)
      · skip
        refine c_seq ?_
        refine wp_any (by kernel_rfl) ?_
        have e107 : Ext w31 { w31 with drawn := w31.drawn + 1 } := Keep.drawn _ _
        generalize hw107 : ({ w31 with drawn := w31.drawn + 1 } : World) = w107 at e107 ⊢
        clear hw107
        have zs_e107 := e107.size
        replace E := E.trans (Ext.keep e107)
        replace HSe := HSe.ext e107
        replace HSs := HSs.ext e107
        replace HB1 := HB1.ext e107
        replace HO24 := HO24.ext e107
        replace HS31 := HS31.ext e107
        refine r_cut 9 rfl (by decide +kernel) (by decide +kernel) (by decide +kernel) ?_
        refine wp_regJW (fun k => (.slice a24 (hdW m).length c24 : Value).ownBlock = some k ∨ w107.heap.size ≤ k) (EqJ [] (ChainJ (tU8) (nU8) w107.heap.size (b1 + 1) (NoK) (AllB) (.slice a24 (hdW m).length c24 : Value) (hdW m) [2, 6] [none, some 5] [wNum m.idx.toNat ++ wNum m.lt.toNat, wNum m.com.toNat])) (by decide +kernel) (by decide +kernel) (fun vals done hd => EqJ.start (ChainJ.start (HO24) ((by omega)) (Nat.le_refl _) (fun i hi => hd i (dOf_lt (by decide) hi))) (fun k j hq => hd k (dQ_lt (by decide) k j hq))) ?_
        refine rj_v (EqJ.on ChainJ.on) (by decide) (fun done vals w hR hJ hdn hd => v_move (t := .slice _ _ _) rfl) ?_
        refine rj_v (EqJ.on ChainJ.on) (by decide) (fun done vals w hR hJ hdn hd => v_move (t := .slice _ _ _) rfl) ?_
        refine rj_d (fun done vals w hR hcl hdk hJ hdn hd => by
            have zs_R := hR.size
            obtain ⟨hacc, hown, hsrc⟩ := hJ.1.at (n := 0) rfl hdk (fun m h => by cases h)
            exact to_append (et := 5) (bytes := 1) (by kernel_rfl) (hd 0 rfl) hacc (hd 1 rfl) (HS31.keep hR (fun i hi0 hi he => Or.elim he (fun he => by have := zo_HO24 _ he; omega) (fun he => by omega))) flat_u8.to (by simp; omega) (by simp only [maxLen]; simp; omega) (by omega) (fun a n cc w1 o hn kk ho _ => ⟨kk.mono (fun b _ h => hown b h), hJ.step hdk (by decide) (hJ.1.app (n := 0) rfl hdk (fun m h => by cases h) rfl (once_as (by decide)) (ps_ne (by decide)) o kk ho)⟩)) ?_
        refine rj_v (EqJ.on ChainJ.on) (by decide) (fun done vals w hR hJ hdn hd => v_fieldAddr (off := 7) (ft := 2) (by kernel_rfl) rfl) ?_
        refine rj_v (EqJ.on ChainJ.on) (by decide) (fun done vals w hR hJ hdn hd => v_load (by kernel_rfl) (hd 3 rfl) (by first | exact (HB1.keep hR (by intro h; have he0 := h; (try dsimp only at h); (try simp only [Value.ownBlock, Option.some.injEq] at h); first | omega | (have := (HO24).own_lt he0; omega) | (have := zo_HO24 _ he0; omega) | (rcases he0 with he0 | he0; (have := (HO24).own_lt he0; omega); omega))).pv 7 _ rfl | assumption)) ?_
        refine rj_d (fun done vals w hR hcl hdk hJ hdn hd => by
            have zs_R := hR.size
            exact to_f1 (by kernel_rfl) (hd 4 rfl) (CallsR.mono (refput_c (by omega) (by omega)) fun v w1 h => ⟨Keep.mono (h.2.2) (fun b _ h => h.elim), hJ.step hdk (by decide) (hJ.1.prod (n := 1) (h.2.2) rfl rfl (once_ps (by decide)) (by decide) (h.1.view.mono (fun b _ h => ⟨trivial, h.resolve_right (fun x => x)⟩)))⟩)) ?_
        refine rj_d (fun done vals w hR hcl hdk hJ hdn hd => by
            have zs_R := hR.size
            obtain ⟨hacc, hown, hsrc⟩ := hJ.1.at (n := 1) rfl hdk (fun m h => ⟨2, by cases h; rfl, hdn 2 rfl⟩)
            exact to_append (et := 5) (bytes := 1) (by kernel_rfl) rfl hacc rfl (hsrc _ _ rfl rfl (hdn 5 rfl)) flat_u8.to (by simp; omega) (by simp only [maxLen]; simp; omega) (by omega) (fun a n cc w1 o hn kk ho _ => ⟨kk.mono (fun b _ h => hown b h), hJ.step hdk (by decide) (hJ.1.app (n := 1) rfl hdk (fun m h => ⟨2, by cases h; rfl, hdn 2 rfl⟩) rfl (once_as (by decide)) (ps_ne (by decide)) o kk ho)⟩)) ?_
        refine rj_v (EqJ.on ChainJ.on) (by decide) (fun done vals w hR hJ hdn hd => v_fieldAddr (off := 8) (ft := 23) (by kernel_rfl) rfl) ?_
        refine rj_v (EqJ.on ChainJ.on) (by decide) (fun done vals w hR hJ hdn hd => v_load (by kernel_rfl) (hd 7 rfl) (by first | exact (HB1.keep hR (by intro h; have he0 := h; (try dsimp only at h); (try simp only [Value.ownBlock, Option.some.injEq] at h); first | omega | (have := (HO24).own_lt he0; omega) | (have := zo_HO24 _ he0; omega) | (rcases he0 with he0 | he0; (have := (HO24).own_lt he0; omega); omega))).pv 8 _ rfl | assumption)) ?_
        refine rj_nil (fun vals w108 k108 J108 => ?_)
        rintro _ _ rfl _ _ rfl _ rfl - _ _ rfl _ _ rfl _ rfl - v54 hv54 - _ _ rfl _ _ rfl
        have zs_k108 := k108.size
        have HO54 : OwV (tU8) (nU8) w108 (b1 + 1) (NoK) v54 (hdW m ++ (wNum m.idx.toNat ++ wNum m.lt.toNat) ++ wNum m.com.toNat) := by
          have h := J108.1.fin (by exact Nat.le_refl _)
          have h2 : hdW m ++ ([wNum m.idx.toNat ++ wNum m.lt.toNat, wNum m.com.toNat]).flatten = hdW m ++ (wNum m.idx.toNat ++ wNum m.lt.toNat) ++ wNum m.com.toNat := by simp
          rw [h2] at h; rw [hv54]; exact h
        clear hv54
        obtain ⟨a54, c54, rfl⟩ := HO54.shape
        have zo_HO54 := fun (b : Nat) h => HO54.own_lt (b := b) h
        replace E := E.step k108 (by intro i hi he; have he0 := he; (try dsimp only [NoK] at hi he ⊢); (try simp only [Value.ownBlock, Option.some.injEq] at he); first | exact he.elim | omega | exact he | (have := (HO24).own_lt he0; omega) | (have := zo_HO24 _ he0; omega) | (have := (HO24).own_lt he0; rcases hi with hi | hi <;> omega) | (rcases he0 with he0 | he0; (have := (HO24).own_lt he0; omega); omega))
        replace HSe := HSe.keep k108 (by intro i _ hi he; have he0 := he; (try dsimp only [NoK, AllB] at hi he); (try simp only [Value.ownBlock, Option.some.injEq] at he); first | exact hi.elim | exact he.elim | omega | (rcases hi with hi | hi <;> omega) | (rcases he with he | he <;> omega) | (have := (HO24).own_lt he0; omega) | (have := zo_HO24 _ he0; omega) | (have := (HO24).own_lt he0; rcases hi with hi | hi <;> omega) | (rcases he0 with he0 | he0; (have := (HO24).own_lt he0; omega); omega))
        replace HSs := HSs.keep k108 (by intro i _ hi he; have he0 := he; (try dsimp only [NoK, AllB] at hi he); (try simp only [Value.ownBlock, Option.some.injEq] at he); first | exact hi.elim | exact he.elim | omega | (rcases hi with hi | hi <;> omega) | (rcases he with he | he <;> omega) | (have := (HO24).own_lt he0; omega) | (have := zo_HO24 _ he0; omega) | (have := (HO24).own_lt he0; rcases hi with hi | hi <;> omega) | (rcases he0 with he0 | he0; (have := (HO24).own_lt he0; omega); omega))
        replace HB1 := HB1.keep k108 (by intro h; have he0 := h; (try dsimp only at h); (try simp only [Value.ownBlock, Option.some.injEq] at h); first | omega | (have := (HO24).own_lt he0; omega) | (have := zo_HO24 _ he0; omega) | (rcases he0 with he0 | he0; (have := (HO24).own_lt he0; omega); omega))
        refine fin_nilJ ?_
        refine n_then ?_
        refine r_cut 1 rfl (by decide +kernel) (by decide +kernel) (by decide +kernel) ?_
        refine r_one (by decide +kernel) rfl ?_
        refine l_to (to_f1 (by kernel_rfl) (show _ = (Value.slice _ _ _) from rfl) (CallsR.mono (refEntries_c HSe (by omega) hes) ?_))
        rintro _ w57 ⟨HO57, ⟨q57, c57, rfl⟩, e57⟩
        have zs_e57 := e57.size
        replace E := E.trans (Ext.keep e57)
        replace HSe := HSe.ext e57
        replace HSs := HSs.ext e57
        replace HB1 := HB1.ext e57
        replace HO54 := HO54.ext e57
        have zo_HO57 := fun (b : Nat) h => HO57.own_lt (b := b) h
        refine l_nil ?_
        refine n_then ?_
        refine r_cut 1 rfl (by decide +kernel) (by decide +kernel) (by decide +kernel) ?_
        refine r_one (by decide +kernel) rfl ?_
        refine l_to (to_append (et := 5) (bytes := 1) (by kernel_rfl) (show _ = (Value.slice _ _ _) from rfl) HO54 (show _ = (Value.slice _ _ _) from rfl) HO57.view (flat_u8.to) (by first | omega | (simp; done) | (simp; omega)) (by simp only [maxLen]; first | omega | (simp; done) | (simp; omega)) (by omega) ?_)
        rintro a58 n58 c58 w58 HO58 hn58 k58 h58 i58
        have zs_k58 := k58.size
        subst hn58
        replace E := E.step k58 (by intro i hi he; have he0 := he; (try dsimp only [NoK] at hi he ⊢); (try simp only [Value.ownBlock, Option.some.injEq] at he); first | exact he.elim | omega | exact he | (have := (HO54).own_lt he0; omega) | (have := zo_HO54 _ he0; omega) | (have := (HO54).own_lt he0; rcases hi with hi | hi <;> omega))
        replace HSe := HSe.keep k58 (by intro i _ hi he; have he0 := he; (try dsimp only [NoK, AllB] at hi he); (try simp only [Value.ownBlock, Option.some.injEq] at he); first | exact hi.elim | exact he.elim | omega | (rcases hi with hi | hi <;> omega) | (rcases he with he | he <;> omega) | (have := (HO54).own_lt he0; omega) | (have := zo_HO54 _ he0; omega) | (have := (HO54).own_lt he0; rcases hi with hi | hi <;> omega))
        replace HSs := HSs.keep k58 (by intro i _ hi he; have he0 := he; (try dsimp only [NoK, AllB] at hi he); (try simp only [Value.ownBlock, Option.some.injEq] at he); first | exact hi.elim | exact he.elim | omega | (rcases hi with hi | hi <;> omega) | (rcases he with he | he <;> omega) | (have := (HO54).own_lt he0; omega) | (have := zo_HO54 _ he0; omega) | (have := (HO54).own_lt he0; rcases hi with hi | hi <;> omega))
        replace HB1 := HB1.keep k58 (by intro h; have he0 := h; (try dsimp only at h); (try simp only [Value.ownBlock, Option.some.injEq] at h); first | omega | (have := (HO54).own_lt he0; omega) | (have := zo_HO54 _ he0; omega))
        have zo_HO58 := fun (b : Nat) h => HO58.own_lt (b := b) h
        refine l_nil ?_
        refine n_then ?_
        refine r_one (by decide +kernel) rfl ?_
        refine l_v (v_assign (t := .slice _ _ _) rfl) ?_
        refine l_nil ?_
        refine n_then ?_
        refine c_ret ?_
        refine r_blk ?_
        refine r_then ?_
        refine ret1v rfl (by decide) (show _ = (Value.slice _ _ _) from rfl) ?_
        rw [msW3 (dtrue h3)] at HO58 ⊢
        exact ⟨HO58.base (by omega), E⟩
      · skip
        refine c_seq ?_
        refine wp_reg (by decide +kernel) ?_
        refine l_v (v_eql rfl rfl) ?_
        refine l_v (v_assign (t := .bool _) rfl) ?_
        refine l_nil ?_
        refine n_then ?_
        refine c_cond rfl rfl (fun h4 => ?_) (fun h4 => ?_)
        · skip
          refine c_seq ?_
          refine wp_any (by kernel_rfl) ?_
          have e109 : Ext w31 { w31 with drawn := w31.drawn + 1 } := Keep.drawn _ _
          generalize hw109 : ({ w31 with drawn := w31.drawn + 1 } : World) = w109 at e109 ⊢
          clear hw109
          have zs_e109 := e109.size
          replace E := E.trans (Ext.keep e109)
          replace HSe := HSe.ext e109
          replace HSs := HSs.ext e109
          replace HB1 := HB1.ext e109
          replace HO24 := HO24.ext e109
          refine r_cut 7 rfl (by decide +kernel) (by decide +kernel) (by decide +kernel) ?_
          refine wp_regJW (fun k => (.slice a24 (hdW m).length c24 : Value).ownBlock = some k ∨ w109.heap.size ≤ k) (EqJ [] (ChainJ (tU8) (nU8) w109.heap.size (b1 + 1) (NoK) (AllB) (.slice a24 (hdW m).length c24 : Value) (hdW m) [4] [some 3] [wNum m.idx.toNat])) (by decide +kernel) (by decide +kernel) (fun vals done hd => EqJ.start (ChainJ.start (HO24) ((by omega)) (Nat.le_refl _) (fun i hi => hd i (dOf_lt (by decide) hi))) (fun k j hq => hd k (dQ_lt (by decide) k j hq))) ?_
          refine rj_v (EqJ.on ChainJ.on) (by decide) (fun done vals w hR hJ hdn hd => v_move (t := .slice _ _ _) rfl) ?_
          refine rj_v (EqJ.on ChainJ.on) (by decide) (fun done vals w hR hJ hdn hd => v_fieldAddr (off := 5) (ft := 2) (by kernel_rfl) rfl) ?_
          refine rj_v (EqJ.on ChainJ.on) (by decide) (fun done vals w hR hJ hdn hd => v_load (by kernel_rfl) (hd 1 rfl) (by first | exact (HB1.keep hR (by intro h; have he0 := h; (try dsimp only at h); (try simp only [Value.ownBlock, Option.some.injEq] at h); first | omega | (have := (HO24).own_lt he0; omega) | (have := zo_HO24 _ he0; omega) | (rcases he0 with he0 | he0; (have := (HO24).own_lt he0; omega); omega))).pv 5 _ rfl | assumption)) ?_
          refine rj_d (fun done vals w hR hcl hdk hJ hdn hd => by
              have zs_R := hR.size
              exact to_f1 (by kernel_rfl) (hd 2 rfl) (CallsR.mono (refput_c (by omega) (by omega)) fun v w1 h => ⟨Keep.mono (h.2.2) (fun b _ h => h.elim), hJ.step hdk (by decide) (hJ.1.prod (n := 0) (h.2.2) rfl rfl (once_ps (by decide)) (by decide) (h.1.view.mono (fun b _ h => ⟨trivial, h.resolve_right (fun x => x)⟩)))⟩)) ?_
          refine rj_d (fun done vals w hR hcl hdk hJ hdn hd => by
              have zs_R := hR.size
              obtain ⟨hacc, hown, hsrc⟩ := hJ.1.at (n := 0) rfl hdk (fun m h => by cases h)
              exact to_append (et := 5) (bytes := 1) (by kernel_rfl) (hd 0 rfl) hacc rfl (hsrc _ _ rfl rfl (hdn 3 rfl)) flat_u8.to (by simp; omega) (by simp only [maxLen]; simp; omega) (by omega) (fun a n cc w1 o hn kk ho _ => ⟨kk.mono (fun b _ h => hown b h), hJ.step hdk (by decide) (hJ.1.app (n := 0) rfl hdk (fun m h => by cases h) rfl (once_as (by decide)) (ps_ne (by decide)) o kk ho)⟩)) ?_
          refine rj_v (EqJ.on ChainJ.on) (by decide) (fun done vals w hR hJ hdn hd => v_fieldAddr (off := 9) (ft := 4) (by kernel_rfl) rfl) ?_
          refine rj_v (EqJ.on ChainJ.on) (by decide) (fun done vals w hR hJ hdn hd => v_load (by kernel_rfl) (hd 5 rfl) (by first | exact (HB1.keep hR (by intro h; have he0 := h; (try dsimp only at h); (try simp only [Value.ownBlock, Option.some.injEq] at h); first | omega | (have := (HO24).own_lt he0; omega) | (have := zo_HO24 _ he0; omega) | (rcases he0 with he0 | he0; (have := (HO24).own_lt he0; omega); omega))).pv 9 _ rfl | assumption)) ?_
          refine rj_nil (fun vals w110 k110 J110 => ?_)
          rintro _ _ rfl _ _ rfl _ _ rfl _ rfl - v65 hv65 - _ _ rfl _ _ rfl
          have zs_k110 := k110.size
          have HO65 : OwV (tU8) (nU8) w110 (b1 + 1) (NoK) v65 (hdW m ++ wNum m.idx.toNat) := by
            have h := J110.1.fin (by exact Nat.le_refl _)
            have h2 : hdW m ++ ([wNum m.idx.toNat]).flatten = hdW m ++ wNum m.idx.toNat := by simp
            rw [h2] at h; rw [hv65]; exact h
          clear hv65
          obtain ⟨a65, c65, rfl⟩ := HO65.shape
          have zo_HO65 := fun (b : Nat) h => HO65.own_lt (b := b) h
          replace E := E.step k110 (by intro i hi he; have he0 := he; (try dsimp only [NoK] at hi he ⊢); (try simp only [Value.ownBlock, Option.some.injEq] at he); first | exact he.elim | omega | exact he | (have := (HO24).own_lt he0; omega) | (have := zo_HO24 _ he0; omega) | (have := (HO24).own_lt he0; rcases hi with hi | hi <;> omega) | (rcases he0 with he0 | he0; (have := (HO24).own_lt he0; omega); omega))
          replace HSe := HSe.keep k110 (by intro i _ hi he; have he0 := he; (try dsimp only [NoK, AllB] at hi he); (try simp only [Value.ownBlock, Option.some.injEq] at he); first | exact hi.elim | exact he.elim | omega | (rcases hi with hi | hi <;> omega) | (rcases he with he | he <;> omega) | (have := (HO24).own_lt he0; omega) | (have := zo_HO24 _ he0; omega) | (have := (HO24).own_lt he0; rcases hi with hi | hi <;> omega) | (rcases he0 with he0 | he0; (have := (HO24).own_lt he0; omega); omega))
          replace HSs := HSs.keep k110 (by intro i _ hi he; have he0 := he; (try dsimp only [NoK, AllB] at hi he); (try simp only [Value.ownBlock, Option.some.injEq] at he); first | exact hi.elim | exact he.elim | omega | (rcases hi with hi | hi <;> omega) | (rcases he with he | he <;> omega) | (have := (HO24).own_lt he0; omega) | (have := zo_HO24 _ he0; omega) | (have := (HO24).own_lt he0; rcases hi with hi | hi <;> omega) | (rcases he0 with he0 | he0; (have := (HO24).own_lt he0; omega); omega))
          replace HB1 := HB1.keep k110 (by intro h; have he0 := h; (try dsimp only at h); (try simp only [Value.ownBlock, Option.some.injEq] at h); first | omega | (have := (HO24).own_lt he0; omega) | (have := zo_HO24 _ he0; omega) | (rcases he0 with he0 | he0; (have := (HO24).own_lt he0; omega); omega))
          refine fin_nilJ ?_
          refine n_then ?_
          refine r_cut 1 rfl (by decide +kernel) (by decide +kernel) (by decide +kernel) ?_
          refine r_one (by decide +kernel) rfl ?_
          refine l_to (to_f1 (by kernel_rfl) (show _ = (Value.bool _) from rfl) (CallsR.mono (refflag_c) ?_))
          rintro _ w68 ⟨HO68, ⟨q68, c68, rfl⟩, e68⟩
          have zs_e68 := e68.size
          replace E := E.trans (Ext.keep e68)
          replace HSe := HSe.ext e68
          replace HSs := HSs.ext e68
          replace HB1 := HB1.ext e68
          replace HO65 := HO65.ext e68
          have zo_HO68 := fun (b : Nat) h => HO68.own_lt (b := b) h
          refine l_nil ?_
          refine n_then ?_
          refine r_cut 1 rfl (by decide +kernel) (by decide +kernel) (by decide +kernel) ?_
          refine r_one (by decide +kernel) rfl ?_
          refine l_to (to_append (et := 5) (bytes := 1) (by kernel_rfl) (show _ = (Value.slice _ _ _) from rfl) HO65 (show _ = (Value.slice _ _ _) from rfl) HO68.view (flat_u8.to) (by first | omega | (simp; done) | (simp; omega)) (by simp only [maxLen]; first | omega | (simp; done) | (simp; omega)) (by omega) ?_)
          rintro a69 n69 c69 w69 HO69 hn69 k69 h69 i69
          have zs_k69 := k69.size
          subst hn69
          replace E := E.step k69 (by intro i hi he; have he0 := he; (try dsimp only [NoK] at hi he ⊢); (try simp only [Value.ownBlock, Option.some.injEq] at he); first | exact he.elim | omega | exact he | (have := (HO65).own_lt he0; omega) | (have := zo_HO65 _ he0; omega) | (have := (HO65).own_lt he0; rcases hi with hi | hi <;> omega))
          replace HSe := HSe.keep k69 (by intro i _ hi he; have he0 := he; (try dsimp only [NoK, AllB] at hi he); (try simp only [Value.ownBlock, Option.some.injEq] at he); first | exact hi.elim | exact he.elim | omega | (rcases hi with hi | hi <;> omega) | (rcases he with he | he <;> omega) | (have := (HO65).own_lt he0; omega) | (have := zo_HO65 _ he0; omega) | (have := (HO65).own_lt he0; rcases hi with hi | hi <;> omega))
          replace HSs := HSs.keep k69 (by intro i _ hi he; have he0 := he; (try dsimp only [NoK, AllB] at hi he); (try simp only [Value.ownBlock, Option.some.injEq] at he); first | exact hi.elim | exact he.elim | omega | (rcases hi with hi | hi <;> omega) | (rcases he with he | he <;> omega) | (have := (HO65).own_lt he0; omega) | (have := zo_HO65 _ he0; omega) | (have := (HO65).own_lt he0; rcases hi with hi | hi <;> omega))
          replace HB1 := HB1.keep k69 (by intro h; have he0 := h; (try dsimp only at h); (try simp only [Value.ownBlock, Option.some.injEq] at h); first | omega | (have := (HO65).own_lt he0; omega) | (have := zo_HO65 _ he0; omega))
          have zo_HO69 := fun (b : Nat) h => HO69.own_lt (b := b) h
          refine l_nil ?_
          refine n_then ?_
          refine r_one (by decide +kernel) rfl ?_
          refine l_v (v_assign (t := .slice _ _ _) rfl) ?_
          refine l_nil ?_
          refine n_then ?_
          refine c_ret ?_
          refine r_blk ?_
          refine r_then ?_
          refine ret1v rfl (by decide) (show _ = (Value.slice _ _ _) from rfl) ?_
          rw [msW4 (dtrue h4)] at HO69 ⊢
          exact ⟨HO69.base (by omega), E⟩
        · skip
          refine c_seq ?_
          refine wp_reg (by decide +kernel) ?_
          refine l_v (v_eql rfl rfl) ?_
          refine l_v (v_assign (t := .bool _) rfl) ?_
          refine l_nil ?_
          refine n_then ?_
          refine c_cond rfl rfl (fun h5 => ?_) (fun h5 => ?_)
          · skip
            refine c_seq ?_
            refine wp_any (by kernel_rfl) ?_
            have e111 : Ext w31 { w31 with drawn := w31.drawn + 1 } := Keep.drawn _ _
            generalize hw111 : ({ w31 with drawn := w31.drawn + 1 } : World) = w111 at e111 ⊢
            clear hw111
            have zs_e111 := e111.size
            replace E := E.trans (Ext.keep e111)
            replace HSe := HSe.ext e111
            replace HSs := HSs.ext e111
            replace HB1 := HB1.ext e111
            replace HO24 := HO24.ext e111
            replace HS31 := HS31.ext e111
            refine r_cut 9 rfl (by decide +kernel) (by decide +kernel) (by decide +kernel) ?_
            refine wp_regJW (fun k => (.slice a24 (hdW m).length c24 : Value).ownBlock = some k ∨ w111.heap.size ≤ k) (EqJ [] (ChainJ (tU8) (nU8) w111.heap.size (b1 + 1) (NoK) (AllB) (.slice a24 (hdW m).length c24 : Value) (hdW m) [2, 6] [none, some 5] [wNum m.idx.toNat ++ wNum m.lt.toNat, wNum m.com.toNat])) (by decide +kernel) (by decide +kernel) (fun vals done hd => EqJ.start (ChainJ.start (HO24) ((by omega)) (Nat.le_refl _) (fun i hi => hd i (dOf_lt (by decide) hi))) (fun k j hq => hd k (dQ_lt (by decide) k j hq))) ?_
            refine rj_v (EqJ.on ChainJ.on) (by decide) (fun done vals w hR hJ hdn hd => v_move (t := .slice _ _ _) rfl) ?_
            refine rj_v (EqJ.on ChainJ.on) (by decide) (fun done vals w hR hJ hdn hd => v_move (t := .slice _ _ _) rfl) ?_
            refine rj_d (fun done vals w hR hcl hdk hJ hdn hd => by
                have zs_R := hR.size
                obtain ⟨hacc, hown, hsrc⟩ := hJ.1.at (n := 0) rfl hdk (fun m h => by cases h)
                exact to_append (et := 5) (bytes := 1) (by kernel_rfl) (hd 0 rfl) hacc (hd 1 rfl) (HS31.keep hR (fun i hi0 hi he => Or.elim he (fun he => by have := zo_HO24 _ he; omega) (fun he => by omega))) flat_u8.to (by simp; omega) (by simp only [maxLen]; simp; omega) (by omega) (fun a n cc w1 o hn kk ho _ => ⟨kk.mono (fun b _ h => hown b h), hJ.step hdk (by decide) (hJ.1.app (n := 0) rfl hdk (fun m h => by cases h) rfl (once_as (by decide)) (ps_ne (by decide)) o kk ho)⟩)) ?_
            refine rj_v (EqJ.on ChainJ.on) (by decide) (fun done vals w hR hJ hdn hd => v_fieldAddr (off := 7) (ft := 2) (by kernel_rfl) rfl) ?_
            refine rj_v (EqJ.on ChainJ.on) (by decide) (fun done vals w hR hJ hdn hd => v_load (by kernel_rfl) (hd 3 rfl) (by first | exact (HB1.keep hR (by intro h; have he0 := h; (try dsimp only at h); (try simp only [Value.ownBlock, Option.some.injEq] at h); first | omega | (have := (HO24).own_lt he0; omega) | (have := zo_HO24 _ he0; omega) | (rcases he0 with he0 | he0; (have := (HO24).own_lt he0; omega); omega))).pv 7 _ rfl | assumption)) ?_
            refine rj_d (fun done vals w hR hcl hdk hJ hdn hd => by
                have zs_R := hR.size
                exact to_f1 (by kernel_rfl) (hd 4 rfl) (CallsR.mono (refput_c (by omega) (by omega)) fun v w1 h => ⟨Keep.mono (h.2.2) (fun b _ h => h.elim), hJ.step hdk (by decide) (hJ.1.prod (n := 1) (h.2.2) rfl rfl (once_ps (by decide)) (by decide) (h.1.view.mono (fun b _ h => ⟨trivial, h.resolve_right (fun x => x)⟩)))⟩)) ?_
            refine rj_d (fun done vals w hR hcl hdk hJ hdn hd => by
                have zs_R := hR.size
                obtain ⟨hacc, hown, hsrc⟩ := hJ.1.at (n := 1) rfl hdk (fun m h => ⟨2, by cases h; rfl, hdn 2 rfl⟩)
                exact to_append (et := 5) (bytes := 1) (by kernel_rfl) rfl hacc rfl (hsrc _ _ rfl rfl (hdn 5 rfl)) flat_u8.to (by simp; omega) (by simp only [maxLen]; simp; omega) (by omega) (fun a n cc w1 o hn kk ho _ => ⟨kk.mono (fun b _ h => hown b h), hJ.step hdk (by decide) (hJ.1.app (n := 1) rfl hdk (fun m h => ⟨2, by cases h; rfl, hdn 2 rfl⟩) rfl (once_as (by decide)) (ps_ne (by decide)) o kk ho)⟩)) ?_
            refine rj_v (EqJ.on ChainJ.on) (by decide) (fun done vals w hR hJ hdn hd => v_fieldAddr (off := 10) (ft := 24) (by kernel_rfl) rfl) ?_
            refine rj_v (EqJ.on ChainJ.on) (by decide) (fun done vals w hR hJ hdn hd => v_load (by kernel_rfl) (hd 7 rfl) (by first | exact (HB1.keep hR (by intro h; have he0 := h; (try dsimp only at h); (try simp only [Value.ownBlock, Option.some.injEq] at h); first | omega | (have := (HO24).own_lt he0; omega) | (have := zo_HO24 _ he0; omega) | (rcases he0 with he0 | he0; (have := (HO24).own_lt he0; omega); omega))).pv 10 _ rfl | assumption)) ?_
            refine rj_nil (fun vals w112 k112 J112 => ?_)
            rintro _ _ rfl _ _ rfl _ rfl - _ _ rfl _ _ rfl _ rfl - v78 hv78 - _ _ rfl _ _ rfl
            have zs_k112 := k112.size
            have HO78 : OwV (tU8) (nU8) w112 (b1 + 1) (NoK) v78 (hdW m ++ (wNum m.idx.toNat ++ wNum m.lt.toNat) ++ wNum m.com.toNat) := by
              have h := J112.1.fin (by exact Nat.le_refl _)
              have h2 : hdW m ++ ([wNum m.idx.toNat ++ wNum m.lt.toNat, wNum m.com.toNat]).flatten = hdW m ++ (wNum m.idx.toNat ++ wNum m.lt.toNat) ++ wNum m.com.toNat := by simp
              rw [h2] at h; rw [hv78]; exact h
            clear hv78
            obtain ⟨a78, c78, rfl⟩ := HO78.shape
            have zo_HO78 := fun (b : Nat) h => HO78.own_lt (b := b) h
            replace E := E.step k112 (by intro i hi he; have he0 := he; (try dsimp only [NoK] at hi he ⊢); (try simp only [Value.ownBlock, Option.some.injEq] at he); first | exact he.elim | omega | exact he | (have := (HO24).own_lt he0; omega) | (have := zo_HO24 _ he0; omega) | (have := (HO24).own_lt he0; rcases hi with hi | hi <;> omega) | (rcases he0 with he0 | he0; (have := (HO24).own_lt he0; omega); omega))
            replace HSe := HSe.keep k112 (by intro i _ hi he; have he0 := he; (try dsimp only [NoK, AllB] at hi he); (try simp only [Value.ownBlock, Option.some.injEq] at he); first | exact hi.elim | exact he.elim | omega | (rcases hi with hi | hi <;> omega) | (rcases he with he | he <;> omega) | (have := (HO24).own_lt he0; omega) | (have := zo_HO24 _ he0; omega) | (have := (HO24).own_lt he0; rcases hi with hi | hi <;> omega) | (rcases he0 with he0 | he0; (have := (HO24).own_lt he0; omega); omega))
            replace HSs := HSs.keep k112 (by intro i _ hi he; have he0 := he; (try dsimp only [NoK, AllB] at hi he); (try simp only [Value.ownBlock, Option.some.injEq] at he); first | exact hi.elim | exact he.elim | omega | (rcases hi with hi | hi <;> omega) | (rcases he with he | he <;> omega) | (have := (HO24).own_lt he0; omega) | (have := zo_HO24 _ he0; omega) | (have := (HO24).own_lt he0; rcases hi with hi | hi <;> omega) | (rcases he0 with he0 | he0; (have := (HO24).own_lt he0; omega); omega))
            replace HB1 := HB1.keep k112 (by intro h; have he0 := h; (try dsimp only at h); (try simp only [Value.ownBlock, Option.some.injEq] at h); first | omega | (have := (HO24).own_lt he0; omega) | (have := zo_HO24 _ he0; omega) | (rcases he0 with he0 | he0; (have := (HO24).own_lt he0; omega); omega))
            refine fin_nilJ ?_
            refine n_then ?_
            refine r_cut 1 rfl (by decide +kernel) (by decide +kernel) (by decide +kernel) ?_
            refine r_one (by decide +kernel) rfl ?_
            refine l_to (to_f1 (by kernel_rfl) (show _ = (Value.slice _ _ _) from rfl) (CallsR.mono (refBytes_c HSs (by omega)) ?_))
            rintro _ w81 ⟨HO81, ⟨q81, c81, rfl⟩, e81⟩
            have zs_e81 := e81.size
            replace E := E.trans (Ext.keep e81)
            replace HSe := HSe.ext e81
            replace HSs := HSs.ext e81
            replace HB1 := HB1.ext e81
            replace HO78 := HO78.ext e81
            have zo_HO81 := fun (b : Nat) h => HO81.own_lt (b := b) h
            refine l_nil ?_
            refine n_then ?_
            refine r_cut 1 rfl (by decide +kernel) (by decide +kernel) (by decide +kernel) ?_
            refine r_one (by decide +kernel) rfl ?_
            refine l_to (to_append (et := 5) (bytes := 1) (by kernel_rfl) (show _ = (Value.slice _ _ _) from rfl) HO78 (show _ = (Value.slice _ _ _) from rfl) HO81.view (flat_u8.to) (by first | omega | (simp; done) | (simp; omega)) (by simp only [maxLen]; first | omega | (simp; done) | (simp; omega)) (by omega) ?_)
            rintro a82 n82 c82 w82 HO82 hn82 k82 h82 i82
            have zs_k82 := k82.size
            subst hn82
            replace E := E.step k82 (by intro i hi he; have he0 := he; (try dsimp only [NoK] at hi he ⊢); (try simp only [Value.ownBlock, Option.some.injEq] at he); first | exact he.elim | omega | exact he | (have := (HO78).own_lt he0; omega) | (have := zo_HO78 _ he0; omega) | (have := (HO78).own_lt he0; rcases hi with hi | hi <;> omega))
            replace HSe := HSe.keep k82 (by intro i _ hi he; have he0 := he; (try dsimp only [NoK, AllB] at hi he); (try simp only [Value.ownBlock, Option.some.injEq] at he); first | exact hi.elim | exact he.elim | omega | (rcases hi with hi | hi <;> omega) | (rcases he with he | he <;> omega) | (have := (HO78).own_lt he0; omega) | (have := zo_HO78 _ he0; omega) | (have := (HO78).own_lt he0; rcases hi with hi | hi <;> omega))
            replace HSs := HSs.keep k82 (by intro i _ hi he; have he0 := he; (try dsimp only [NoK, AllB] at hi he); (try simp only [Value.ownBlock, Option.some.injEq] at he); first | exact hi.elim | exact he.elim | omega | (rcases hi with hi | hi <;> omega) | (rcases he with he | he <;> omega) | (have := (HO78).own_lt he0; omega) | (have := zo_HO78 _ he0; omega) | (have := (HO78).own_lt he0; rcases hi with hi | hi <;> omega))
            replace HB1 := HB1.keep k82 (by intro h; have he0 := h; (try dsimp only at h); (try simp only [Value.ownBlock, Option.some.injEq] at h); first | omega | (have := (HO78).own_lt he0; omega) | (have := zo_HO78 _ he0; omega))
            have zo_HO82 := fun (b : Nat) h => HO82.own_lt (b := b) h
            refine l_nil ?_
            refine n_then ?_
            refine r_one (by decide +kernel) rfl ?_
            refine l_v (v_assign (t := .slice _ _ _) rfl) ?_
            refine l_nil ?_
            refine n_then ?_
            refine c_ret ?_
            refine r_blk ?_
            refine r_then ?_
            refine ret1v rfl (by decide) (show _ = (Value.slice _ _ _) from rfl) ?_
            rw [msW5 (dtrue h5)] at HO82 ⊢
            exact ⟨HO82.base (by omega), E⟩
          · skip
            refine c_skip ?_
            refine n_blk ?_
            refine n_then ?_
            refine c_seq ?_
            refine wp_reg (by decide +kernel) ?_
            refine l_v (v_move (t := .slice _ _ _) rfl) ?_
            refine l_v (v_fieldAddr (off := 8) (ft := 23) (by kernel_rfl) rfl) ?_
            refine l_v (v_load (by kernel_rfl) rfl (by first | exact HB1.pv 8 _ rfl | assumption)) ?_
            refine l_to (to_f1 (by kernel_rfl) (show _ = (Value.slice _ _ _) from rfl) (CallsR.mono (refEntries_c HSe (by omega) hes) ?_))
            rintro _ w86 ⟨HO86, ⟨q86, c86, rfl⟩, e86⟩
            have zs_e86 := e86.size
            replace E := E.trans (Ext.keep e86)
            replace HSe := HSe.ext e86
            replace HSs := HSs.ext e86
            replace HB1 := HB1.ext e86
            replace HO24 := HO24.ext e86
            have zo_HO86 := fun (b : Nat) h => HO86.own_lt (b := b) h
            refine l_to (to_append (et := 5) (bytes := 1) (by kernel_rfl) (show _ = (Value.slice _ _ _) from rfl) HO24 (show _ = (Value.slice _ _ _) from rfl) HO86.view (flat_u8.to) (by first | omega | (simp; done) | (simp; omega)) (by simp only [maxLen]; first | omega | (simp; done) | (simp; omega)) (by omega) ?_)
            rintro a87 n87 c87 w87 HO87 hn87 k87 h87 i87
            have zs_k87 := k87.size
            subst hn87
            replace E := E.step k87 (by intro i hi he; have he0 := he; (try dsimp only [NoK] at hi he ⊢); (try simp only [Value.ownBlock, Option.some.injEq] at he); first | exact he.elim | omega | exact he | (have := (HO24).own_lt he0; omega) | (have := zo_HO24 _ he0; omega) | (have := (HO24).own_lt he0; rcases hi with hi | hi <;> omega))
            replace HSe := HSe.keep k87 (by intro i _ hi he; have he0 := he; (try dsimp only [NoK, AllB] at hi he); (try simp only [Value.ownBlock, Option.some.injEq] at he); first | exact hi.elim | exact he.elim | omega | (rcases hi with hi | hi <;> omega) | (rcases he with he | he <;> omega) | (have := (HO24).own_lt he0; omega) | (have := zo_HO24 _ he0; omega) | (have := (HO24).own_lt he0; rcases hi with hi | hi <;> omega))
            replace HSs := HSs.keep k87 (by intro i _ hi he; have he0 := he; (try dsimp only [NoK, AllB] at hi he); (try simp only [Value.ownBlock, Option.some.injEq] at he); first | exact hi.elim | exact he.elim | omega | (rcases hi with hi | hi <;> omega) | (rcases he with he | he <;> omega) | (have := (HO24).own_lt he0; omega) | (have := zo_HO24 _ he0; omega) | (have := (HO24).own_lt he0; rcases hi with hi | hi <;> omega))
            replace HB1 := HB1.keep k87 (by intro h; have he0 := h; (try dsimp only at h); (try simp only [Value.ownBlock, Option.some.injEq] at h); first | omega | (have := (HO24).own_lt he0; omega) | (have := zo_HO24 _ he0; omega))
            have zo_HO87 := fun (b : Nat) h => HO87.own_lt (b := b) h
            refine l_v (v_assign (t := .slice _ _ _) rfl) ?_
            refine l_nil ?_
            refine n_then ?_
            refine c_ret ?_
            refine ret1v rfl (by decide) (show _ = (Value.slice _ _ _) from rfl) ?_
            rw [msW6 hk (dfalse h1) (dfalse h2) (dfalse h3) (dfalse h4) (dfalse h5)] at HO87 ⊢
            exact ⟨HO87.base (by omega), E⟩
end Go.Proofs.Ytaidpdjlchnonaa
