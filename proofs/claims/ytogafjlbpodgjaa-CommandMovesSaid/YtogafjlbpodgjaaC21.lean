/- A part of the proof: steps and lemmas for the walks through the given program. -/
import Derived.Test.YtogafjlbpodgjaaCe
namespace Go.Proofs.Ytogafjlbpodgjaa
open Go.Vc
set_option linter.unusedVariables false
set_option linter.unusedSimpArgs false
set_option maxRecDepth 100000

def keysN (m : MvV) : RgV := if mayMv m then (m.2.1, m.2.2.1, m.2.2.2.1, m.2.2.2.2.2) else ([], [], false, 0)
set_option maxHeartbeats 4000000 in
theorem Keys_c {w : World} {F : Nat → Prop} {v : Value} {m : MvV} (HG1 : AgV tMv w F v m) (hl : m.2.1.length ≤ 9000) (hl2 : m.2.2.1.length ≤ 9000) : CallsR Try.prog 30 #[v] w (fun o w' => AgV tRg w' AllB o (keysN m) ∧ Ext w w') := by
 obtain ⟨a1, c1, a2, c2, rfl, HSa, HSb, hi1, hi2, hi3⟩ := HG1.mv
 have hmm := HSa.max
 have hmm2 := HSb.max
 refine enter 18 Try.func30 rfl rfl (by simp) ?_
 refine c_seq ?_
 have E := Keep.refl (K := NoK) w
 replace HG1 := HG1.all
 replace HSa := HSa.all
 replace HSb := HSb.all
 refine wp_reg (by decide +kernel) ?_
 refine l_to (to_box (show _ = (Value.agg _) from rfl) ?_)
 rintro b1 w1 zb1 HB1 e1 z1
 have zs_e1 := e1.size
 replace E := E.trans (Ext.keep e1)
 replace HG1 := HG1.ext e1
 replace HSa := HSa.ext e1
 replace HSb := HSb.ext e1
 try simp only [Value.cells] at HB1
 refine l_to (to_alloc (z := (.agg #[.slice none 0 0, .slice none 0 0, .bool false, .int .i64 0])) (by unfold kZero; kernel_rfl) ?_)
 rintro b2 w2 zb2 HB2 e2 z2
 have zs_e2 := e2.size
 replace E := E.trans (Ext.keep e2)
 replace HG1 := HG1.ext e2
 replace HSa := HSa.ext e2
 replace HSb := HSb.ext e2
 replace HB1 := HB1.ext e2
 try simp only [Value.cells] at HB2
 refine l_nil ?_
 refine n_then ?_
 refine c_seq ?_
 refine c_seq ?_
 refine wp_reg (by decide +kernel) ?_
 refine l_v (v_loadA (by kernel_rfl) rfl (by first | exact HB2.pv | exact HB1.pv | assumption) rfl) ?_
 refine l_to (to_f1 (by kernel_rfl) (show _ = (Value.agg _) from rfl) (CallsR.mono (MayMove_c HG1) ?_))
 rintro _ w101 ⟨rfl, e101⟩
 have zs_e101 := e101.size
 replace E := E.trans (Ext.keep e101)
 replace HG1 := HG1.ext e101
 replace HSa := HSa.ext e101
 replace HSb := HSb.ext e101
 replace HB1 := HB1.ext e101
 replace HB2 := HB2.ext e101
 refine l_v (v_not rfl) ?_
 refine l_nil ?_
 refine n_then ?_
 refine c_cond rfl rfl (fun hc => ?_) (fun hc => ?_)
 ·
  refine c_seq ?_
  refine wp_reg (by decide +kernel) ?_
  refine l_v (v_build (pl := [(0, 1), (1, 1), (2, 1), (3, 1)]) (z := .agg #[.slice none 0 0, .slice none 0 0, .bool false, .int .i64 0]) (zl := [.slice none 0 0, .slice none 0 0, .bool false, .int .i64 0]) (by kernel_rfl) (by unfold kZero; kernel_rfl) rfl rfl (cells := [_, _, _, _]) rfl) ?_
  refine l_to (to_storeA (n := 4) rfl rfl (show _ = (Value.agg _) from rfl) (by kernel_rfl) rfl (by first | (simp [slice_one]; done) | (simp only [List.forall_mem_cons, List.cons_append, List.nil_append]; repeat' (first | exact rfl | apply And.intro | (intro u hu; cases hu; done)))) HB2 (by first | exact of_decide_eq_true rfl | (simp; done) | decide | (simp only [List.length_set, hlen]; exact of_decide_eq_true rfl)) ?_)
  rintro w3 HB2 k3 z3
  have zs_k3 := k3.size
  try simp only [List.set_cons_zero, List.set_cons_succ, setAt, List.take, List.drop, List.nil_append, List.cons_append, List.append_nil, List.length_cons, List.length_nil] at HB2
  replace E := E.step k3 (by intro i hi he; (try dsimp only [NoK] at hi he ⊢); first | exact he.elim | omega | exact he)
  replace HG1 := HG1.keep k3 (by intro i _ hi he; (try dsimp only [NoK, AllB] at hi he); first | exact hi.elim | exact he.elim | omega | (rcases hi with hi | hi <;> omega) | (rcases he with he | he <;> omega))
  replace HSa := HSa.keep k3 (by intro i _ hi he; (try dsimp only [NoK, AllB] at hi he); first | exact hi.elim | exact he.elim | omega | (rcases hi with hi | hi <;> omega) | (rcases he with he | he <;> omega))
  replace HSb := HSb.keep k3 (by intro i _ hi he; (try dsimp only [NoK, AllB] at hi he); first | exact hi.elim | exact he.elim | omega | (rcases hi with hi | hi <;> omega) | (rcases he with he | he <;> omega))
  replace HB1 := HB1.keep k3 (by intro h; (try dsimp only at h); first | omega)
  refine l_nil ?_
  refine n_then ?_
  refine c_ret ?_
  refine r_then ?_
  refine ret1c (n := 4) rfl (by decide) rfl (by kernel_rfl) HB2.pv rfl ?_
  have hm : mayMv m = false := by simpa using hc
  refine ⟨?_, E⟩
  rw [keysN, hm]
  exact AgV.mkRg (SlV.nil _ _ _) (SlV.nil _ _ _) ⟨by decide, by decide⟩
 ·
  refine c_skip ?_
  refine n_then ?_
  refine c_seq ?_
  refine wp_any (by kernel_rfl) ?_
  have e102 : Ext w101 { w101 with drawn := w101.drawn + 1 } := Keep.drawn _ _
  generalize hw102 : ({ w101 with drawn := w101.drawn + 1 } : World) = w102 at e102 ⊢
  clear hw102
  have zs_e102 := e102.size
  replace E := E.trans (Ext.keep e102)
  replace HG1 := HG1.ext e102
  replace HSa := HSa.ext e102
  replace HSb := HSb.ext e102
  replace HB1 := HB1.ext e102
  replace HB2 := HB2.ext e102
  refine r_cut 10 rfl (by decide +kernel) (by decide +kernel) (by decide +kernel) ?_
  refine wp_regdW (NoK) (by decide +kernel) (by decide +kernel) ?_
  refine rt_v (fun vals w hR hd => v_fieldAddr (off := 1) (ft := 23) (by kernel_rfl) rfl) ?_
  refine rt_v (fun vals w hR hd => v_load (by kernel_rfl) (hd 0 rfl) (by first | exact (HB2.ext hR).pv 1 _ rfl | exact (HB1.ext hR).pv 1 _ rfl | assumption)) ?_
  refine rt_to (fun v W => OwV tU8 5 W w2.heap.size NoK v m.2.1) (fun v w w' h k => h.ext k) (fun vals w hR hd => to_f1 (by kernel_rfl) (hd 1 rfl) (CallsR.mono (Clone_c (HSa.ext hR) (by omega)) fun v w1 ⟨h, e⟩ => ⟨e, h.base (by have := hR.size; omega)⟩)) ?_
  refine rt_v (fun vals w hR hd => v_fieldAddr (off := 2) (ft := 23) (by kernel_rfl) rfl) ?_
  refine rt_v (fun vals w hR hd => v_load (by kernel_rfl) (hd 3 rfl) (by first | exact (HB2.ext hR).pv 2 _ rfl | exact (HB1.ext hR).pv 2 _ rfl | assumption)) ?_
  refine rt_to (fun v W => OwV tU8 5 W w2.heap.size NoK v m.2.2.1) (fun v w w' h k => h.ext k) (fun vals w hR hd => to_f1 (by kernel_rfl) (hd 4 rfl) (CallsR.mono (Clone_c (HSb.ext hR) (by omega)) fun v w1 ⟨h, e⟩ => ⟨e, h.base (by have := hR.size; omega)⟩)) ?_
  refine rt_v (fun vals w hR hd => v_fieldAddr (off := 3) (ft := 4) (by kernel_rfl) rfl) ?_
  refine rt_v (fun vals w hR hd => v_load (by kernel_rfl) (hd 6 rfl) (by first | exact (HB2.ext hR).pv 3 _ rfl | exact (HB1.ext hR).pv 3 _ rfl | assumption)) ?_
  refine rt_v (fun vals w hR hd => v_fieldAddr (off := 5) (ft := 3) (by kernel_rfl) rfl) ?_
  refine rt_v (fun vals w hR hd => v_load (by kernel_rfl) (hd 8 rfl) (by first | exact (HB2.ext hR).pv 5 _ rfl | exact (HB1.ext hR).pv 5 _ rfl | assumption)) ?_
  refine rt_nil (fun w103 e103 => ?_)
  rintro _ rfl _ rfl v9 hs9 _ rfl _ rfl v12 hs12 _ rfl _ rfl _ rfl _ rfl
  have zs_e103 := e103.size
  have ho9 : OwV tU8 5 _ w2.heap.size NoK v9 m.2.1 := hs9
  have ho12 : OwV tU8 5 _ w2.heap.size NoK v12 m.2.2.1 := hs12
  have HS9 := ho9.view.mono (F' := fun i => w2.heap.size ≤ i) fun k hk h => by rcases h with h | h; omega; exact h.elim
  have HS12 := ho12.view.mono (F' := fun i => w2.heap.size ≤ i) fun k hk h => by rcases h with h | h; omega; exact h.elim
  obtain ⟨a9, c9, rfl⟩ := HS9.shape
  obtain ⟨a12, c12, rfl⟩ := HS12.shape
  replace E := E.trans (Ext.keep e103)
  replace HG1 := HG1.ext e103
  replace HSa := HSa.ext e103
  replace HSb := HSb.ext e103
  replace HB1 := HB1.ext e103
  replace HB2 := HB2.ext e103
  refine fin_nil ?_
  refine n_then ?_
  refine r_cut 1 rfl (by decide +kernel) (by decide +kernel) (by decide +kernel) ?_
  refine r_one (by decide +kernel) rfl ?_
  refine l_v (v_build (pl := [(0, 1), (1, 1), (2, 1), (3, 1)]) (z := .agg #[.slice none 0 0, .slice none 0 0, .bool false, .int .i64 0]) (zl := [.slice none 0 0, .slice none 0 0, .bool false, .int .i64 0]) (by kernel_rfl) (by unfold kZero; kernel_rfl) rfl rfl (cells := [_, _, _, _]) rfl) ?_
  refine l_nil ?_
  refine n_then ?_
  refine r_one (by decide +kernel) rfl ?_
  refine l_to (to_storeA (n := 4) rfl rfl (show _ = (Value.agg _) from rfl) (by kernel_rfl) rfl (by first | (simp [slice_one]; done) | (simp only [List.forall_mem_cons, List.cons_append, List.nil_append]; repeat' (first | exact rfl | apply And.intro | (intro u hu; cases hu; done)))) HB2 (by first | exact of_decide_eq_true rfl | (simp; done) | decide | (simp only [List.length_set, hlen]; exact of_decide_eq_true rfl)) ?_)
  rintro w3 HB2 k3 z3
  have zs_k3 := k3.size
  try simp only [List.set_cons_zero, List.set_cons_succ, setAt, List.take, List.drop, List.nil_append, List.cons_append, List.append_nil, List.length_cons, List.length_nil] at HB2
  replace E := E.step k3 (by intro i hi he; (try dsimp only [NoK] at hi he ⊢); first | exact he.elim | omega | exact he)
  replace HG1 := HG1.keep k3 (by intro i _ hi he; (try dsimp only [NoK, AllB] at hi he); first | exact hi.elim | exact he.elim | omega | (rcases hi with hi | hi <;> omega) | (rcases he with he | he <;> omega))
  replace HSa := HSa.keep k3 (by intro i _ hi he; (try dsimp only [NoK, AllB] at hi he); first | exact hi.elim | exact he.elim | omega | (rcases hi with hi | hi <;> omega) | (rcases he with he | he <;> omega))
  replace HSb := HSb.keep k3 (by intro i _ hi he; (try dsimp only [NoK, AllB] at hi he); first | exact hi.elim | exact he.elim | omega | (rcases hi with hi | hi <;> omega) | (rcases he with he | he <;> omega))
  replace HB1 := HB1.keep k3 (by intro h; (try dsimp only at h); first | omega)
  replace HS9 := HS9.keep k3 (by intro i _ hi he; (try dsimp only [NoK, AllB] at hi he); first | exact hi.elim | exact he.elim | omega | (rcases hi with hi | hi <;> omega) | (rcases he with he | he <;> omega))
  replace HS12 := HS12.keep k3 (by intro i _ hi he; (try dsimp only [NoK, AllB] at hi he); first | exact hi.elim | exact he.elim | omega | (rcases hi with hi | hi <;> omega) | (rcases he with he | he <;> omega))
  refine l_nil ?_
  refine n_then ?_
  refine c_ret ?_
  refine ret1c (n := 4) rfl (by decide) rfl (by kernel_rfl) HB2.pv rfl ?_
  have hm : mayMv m = true := by simpa using hc
  refine ⟨?_, E⟩
  rw [keysN, hm]
  exact AgV.mkRg HS9.allB HS12.allB hi3
theorem SameRange_k {w : World} {F G : Nat → Prop} {v u : Value} {r s : RgV} {b : Bool} (HG1 : AgV tRg w F v r) (HG2 : AgV tRg w G u s) (hb : sameR r s = b) : CallsR Try.prog 29 #[v, u] w (fun o w' => o = .bool b ∧ Ext w w') := by subst hb; exact SameRange_c HG1 HG2
theorem SameMove_k {w : World} {F G : Nat → Prop} {v u : Value} {a b : MvV} {t : Bool} (HG1 : AgV tMv w F v a) (HG2 : AgV tMv w G u b) (hb : decide (a = b) = t) : CallsR Try.prog 31 #[v, u] w (fun o w' => o = .bool t ∧ Ext w w') := by subst hb; exact SameMove_c HG1 HG2
set_option maxHeartbeats 4000000 in
theorem CommandMoves_c {w : World} {F G : Nat → Prop} {v u : Value} {m n : MvV} (HG1 : AgV tMv w F v m) (HG2 : AgV tMv w G u n) (hm1 : m.2.1.length ≤ 140737488355328) (hm2 : m.2.2.1.length ≤ 140737488355328) (hm3 : n.2.1.length ≤ 140737488355328) (hm4 : n.2.2.1.length ≤ 140737488355328) : CallsR Try.prog 8 #[v, u] w (fun o w' => o = .bool true ∧ Ext w w') := by
 obtain ⟨a1, c1, a2, c2, rfl, HSa, HSb, hi1, hi2, hi3⟩ := HG1.mv
 obtain ⟨a5, c5, a6, c6, rfl, HSc, HSd, hi4⟩ := HG2.mv
 refine enter 63 Try.func8 rfl rfl (by simp) ?_
 refine c_seq ?_
 have E := Keep.refl (K := NoK) w
 replace HG1 := HG1.all
 replace HG2 := HG2.all
 replace HSa := HSa.all
 replace HSb := HSb.all
 refine wp_reg (by decide +kernel) ?_
 refine l_to (to_box rfl ?_)
 rintro b2 w2 zb2 HB2 e2 z2
 have zs_e2 := e2.size
 replace E := E.trans (Ext.keep e2)
 replace HG1 := HG1.ext e2
 replace HG2 := HG2.ext e2
 replace HSa := HSa.ext e2
 replace HSb := HSb.ext e2
 try simp only [Value.cells] at HB2
 refine l_to (to_box rfl ?_)
 rintro b3 w3 zb3 HB3 e3 z3
 have zs_e3 := e3.size
 replace E := E.trans (Ext.keep e3)
 replace HG1 := HG1.ext e3
 replace HG2 := HG2.ext e3
 replace HSa := HSa.ext e3
 replace HSb := HSb.ext e3
 replace HB2 := HB2.ext e3
 try simp only [Value.cells] at HB3
 refine l_v (v_assign rfl) ?_
 refine l_nil ?_
 refine n_then ?_
 refine c_seq ?_
 refine c_seq ?_
 refine wp_reg (by decide +kernel) ?_
 refine l_v (v_fieldAddr (off := 1) (ft := 23) (by kernel_rfl) rfl) ?_
 refine l_v (v_load (by kernel_rfl) rfl (by first | exact HB3.pv 1 _ rfl | exact HB2.pv 1 _ rfl | assumption)) ?_
 refine l_v (v_len (et := 5) (by kernel_rfl) rfl) ?_
 refine l_v (v_fieldAddr (off := 2) (ft := 23) (by kernel_rfl) rfl) ?_
 refine l_v (v_load (by kernel_rfl) rfl (by first | exact HB3.pv 2 _ rfl | exact HB2.pv 2 _ rfl | assumption)) ?_
 refine l_v (v_len (et := 5) (by kernel_rfl) rfl) ?_
 refine l_v (v_add rfl rfl (by first | exact wr_i64 (by omega) (by omega) | rfl)) ?_
 refine l_v (v_fieldAddr (off := 1) (ft := 23) (by kernel_rfl) rfl) ?_
 refine l_v (v_load (by kernel_rfl) rfl (by first | exact HB3.pv 1 _ rfl | exact HB2.pv 1 _ rfl | assumption)) ?_
 refine l_v (v_len (et := 5) (by kernel_rfl) rfl) ?_
 refine l_v (v_add rfl rfl (by first | exact wr_i64 (by omega) (by omega) | rfl)) ?_
 refine l_v (v_fieldAddr (off := 2) (ft := 23) (by kernel_rfl) rfl) ?_
 refine l_v (v_load (by kernel_rfl) rfl (by first | exact HB3.pv 2 _ rfl | exact HB2.pv 2 _ rfl | assumption)) ?_
 refine l_v (v_len (et := 5) (by kernel_rfl) rfl) ?_
 refine l_v (v_add rfl rfl (by first | exact wr_i64 (by omega) (by omega) | rfl)) ?_
 refine l_v (v_gtr rfl rfl) ?_
 refine l_nil ?_
 refine n_then ?_
 refine c_cond rfl rfl (fun hc => ?_) (fun hc => ?_)
 ·
  refine c_seq ?_
  refine wp_reg (by decide +kernel) ?_
  refine l_to (to_f0 (by kernel_rfl) (CallsR.mono (known_c) ?_))
  rintro _ w101 ⟨rfl, e101⟩
  have zs_e101 := e101.size
  replace E := E.trans (Ext.keep e101)
  replace HG1 := HG1.ext e101
  replace HG2 := HG2.ext e101
  replace HSa := HSa.ext e101
  replace HSb := HSb.ext e101
  replace HB2 := HB2.ext e101
  replace HB3 := HB3.ext e101
  refine l_v (v_assign (t := .bool _) rfl) ?_
  refine l_nil ?_
  refine n_then ?_
  refine c_ret ?_
  refine r_then ?_
  refine ret1v rfl (by decide) (show _ = (Value.bool _) from rfl) ?_
  exact ⟨rfl, E⟩
 ·
  have hc := dfalse hc
  refine c_skip ?_
  refine n_then ?_
  refine c_seq ?_
  refine wp_reg (by decide +kernel) ?_
  refine l_v (v_build (pl := [(0, 1), (1, 1), (2, 1), (3, 1)]) (z := .agg #[.slice none 0 0, .slice none 0 0, .bool false, .int .i64 0]) (zl := [.slice none 0 0, .slice none 0 0, .bool false, .int .i64 0]) (by kernel_rfl) (by unfold kZero; kernel_rfl) rfl rfl (cells := [_, _, _, _]) rfl) ?_
  refine l_to (to_alloc (z := (.agg #[.slice none 0 0, .slice none 0 0, .bool false, .int .i64 0])) (by unfold kZero; kernel_rfl) ?_)
  rintro b5 w5 zb5 HB5 e5 z5
  have zs_e5 := e5.size
  replace E := E.trans (Ext.keep e5)
  replace HG1 := HG1.ext e5
  replace HG2 := HG2.ext e5
  replace HSa := HSa.ext e5
  replace HSb := HSb.ext e5
  replace HB2 := HB2.ext e5
  replace HB3 := HB3.ext e5
  try simp only [Value.cells] at HB5
  refine l_to (to_storeA (n := 4) rfl rfl rfl (by kernel_rfl) rfl (by first | exact one_all (by rfl) | (simp [slice_one]; done) | (simp only [List.forall_mem_cons, List.cons_append, List.nil_append]; repeat' (first | exact rfl | apply And.intro | (intro u hu; cases hu; done)))) HB5 (by first | exact of_decide_eq_true rfl | (simp; done) | decide | (simp only [List.length_set, hlen]; exact of_decide_eq_true rfl)) ?_)
  rintro w102 HX102 k102 z102
  have zs_k102 := k102.size
  replace E := E.step k102 (by intro i hi he; (try dsimp only [NoK] at hi he ⊢); first | exact he.elim | omega | exact he)
  replace HG1 := HG1.keep k102 (by intro i _ hi he; (try dsimp only [NoK, AllB] at hi he); first | exact hi.elim | exact he.elim | omega | (rcases hi with hi | hi <;> omega) | (rcases he with he | he <;> omega))
  replace HG2 := HG2.keep k102 (by intro i _ hi he; (try dsimp only [NoK, AllB] at hi he); first | exact hi.elim | exact he.elim | omega | (rcases hi with hi | hi <;> omega) | (rcases he with he | he <;> omega))
  replace HSa := HSa.keep k102 (by intro i _ hi he; (try dsimp only [NoK, AllB] at hi he); first | exact hi.elim | exact he.elim | omega | (rcases hi with hi | hi <;> omega) | (rcases he with he | he <;> omega))
  replace HSb := HSb.keep k102 (by intro i _ hi he; (try dsimp only [NoK, AllB] at hi he); first | exact hi.elim | exact he.elim | omega | (rcases hi with hi | hi <;> omega) | (rcases he with he | he <;> omega))
  replace HB2 := HB2.keep k102 (by intro h; (try dsimp only at h); first | omega)
  replace HB3 := HB3.keep k102 (by intro h; (try dsimp only at h); first | omega)
  replace HB5 := HX102
  clear HX102
  try simp only [List.set_cons_zero, List.set_cons_succ, setAt, List.take_zero, List.take_succ_cons, List.drop_zero, List.drop_succ_cons, List.nil_append, List.cons_append, List.append_nil, List.length_cons, List.length_nil, Nat.zero_add, Nat.reduceAdd, List.drop_nil] at HB5
  refine l_nil ?_
  refine n_then ?_
  refine c_seq ?_
  refine c_seq ?_
  refine wp_reg (by decide +kernel) ?_
  refine l_v (v_loadA (by kernel_rfl) rfl (by first | exact HB5.pv | exact HB3.pv | exact HB2.pv | assumption) rfl) ?_
  refine l_to (to_f1 (by kernel_rfl) rfl (CallsR.mono (refMayMove_c HG1) ?_))
  rintro _ w103 ⟨rfl, e103⟩
  have zs_e103 := e103.size
  replace E := E.trans (Ext.keep e103)
  replace HG1 := HG1.ext e103
  replace HG2 := HG2.ext e103
  replace HSa := HSa.ext e103
  replace HSb := HSb.ext e103
  replace HB2 := HB2.ext e103
  replace HB3 := HB3.ext e103
  replace HB5 := HB5.ext e103
  refine l_nil ?_
  refine n_then ?_
  refine c_cond rfl rfl (fun hm => ?_) (fun hm => ?_)
  ·
   refine wp_reg (by decide +kernel) ?_
   refine l_v (v_fieldAddr (off := 1) (ft := 23) (by kernel_rfl) rfl) ?_
   refine l_v (v_load (by kernel_rfl) rfl (by first | exact HB5.pv 1 _ rfl | exact HB3.pv 1 _ rfl | exact HB2.pv 1 _ rfl | assumption)) ?_
   refine l_v (v_fieldAddr (off := 2) (ft := 23) (by kernel_rfl) rfl) ?_
   refine l_v (v_load (by kernel_rfl) rfl (by first | exact HB5.pv 2 _ rfl | exact HB3.pv 2 _ rfl | exact HB2.pv 2 _ rfl | assumption)) ?_
   refine l_v (v_fieldAddr (off := 3) (ft := 4) (by kernel_rfl) rfl) ?_
   refine l_v (v_load (by kernel_rfl) rfl (by first | exact HB5.pv 3 _ rfl | exact HB3.pv 3 _ rfl | exact HB2.pv 3 _ rfl | assumption)) ?_
   refine l_v (v_fieldAddr (off := 5) (ft := 3) (by kernel_rfl) rfl) ?_
   refine l_v (v_load (by kernel_rfl) rfl (by first | exact HB5.pv 5 _ rfl | exact HB3.pv 5 _ rfl | exact HB2.pv 5 _ rfl | assumption)) ?_
   refine l_v (v_build (pl := [(0, 1), (1, 1), (2, 1), (3, 1)]) (z := .agg #[.slice none 0 0, .slice none 0 0, .bool false, .int .i64 0]) (zl := [.slice none 0 0, .slice none 0 0, .bool false, .int .i64 0]) (by kernel_rfl) (by unfold kZero; kernel_rfl) rfl rfl (cells := [_, _, _, _]) rfl) ?_
   refine l_to (to_storeA (n := 4) rfl rfl rfl (by kernel_rfl) rfl (by first | (simp [slice_one]; done) | (simp only [List.forall_mem_cons, List.cons_append, List.nil_append]; repeat' (first | exact rfl | apply And.intro | (intro u hu; cases hu; done)))) HB5 (by first | exact of_decide_eq_true rfl | (simp; done) | decide | (simp only [List.length_set, hlen]; exact of_decide_eq_true rfl)) ?_)
   rintro w6 HB5 k6 z6
   have zs_k6 := k6.size
   try simp only [List.set_cons_zero, List.set_cons_succ, setAt, List.take, List.drop, List.nil_append, List.cons_append, List.append_nil, List.length_cons, List.length_nil] at HB5
   replace E := E.step k6 (by intro i hi he; (try dsimp only [NoK] at hi he ⊢); first | exact he.elim | omega | exact he)
   replace HG1 := HG1.keep k6 (by intro i _ hi he; (try dsimp only [NoK, AllB] at hi he); first | exact hi.elim | exact he.elim | omega | (rcases hi with hi | hi <;> omega) | (rcases he with he | he <;> omega))
   replace HG2 := HG2.keep k6 (by intro i _ hi he; (try dsimp only [NoK, AllB] at hi he); first | exact hi.elim | exact he.elim | omega | (rcases hi with hi | hi <;> omega) | (rcases he with he | he <;> omega))
   replace HSa := HSa.keep k6 (by intro i _ hi he; (try dsimp only [NoK, AllB] at hi he); first | exact hi.elim | exact he.elim | omega | (rcases hi with hi | hi <;> omega) | (rcases he with he | he <;> omega))
   replace HSb := HSb.keep k6 (by intro i _ hi he; (try dsimp only [NoK, AllB] at hi he); first | exact hi.elim | exact he.elim | omega | (rcases hi with hi | hi <;> omega) | (rcases he with he | he <;> omega))
   replace HB2 := HB2.keep k6 (by intro h; (try dsimp only at h); first | omega)
   replace HB3 := HB3.keep k6 (by intro h; (try dsimp only at h); first | omega)
   refine l_nil ?_
   refine n_then ?_
   refine c_seq ?_
   refine wp_regd (NoK) (by kernel_rfl) (by decide +kernel) (by decide +kernel) ?_
   refine rt_v (fun vals w hR hd => v_loadA (by kernel_rfl) rfl (by first | exact (HB5.ext hR).pv | exact (HB3.ext hR).pv | exact (HB2.ext hR).pv | assumption) rfl) ?_
   refine rt_vf (fun vals w hR hd => to_f1 (by kernel_rfl) (hd 0 rfl) (MayMove_c (HG1.ext hR))) ?_
   refine rt_v (fun vals w hR hd => v_loadA (by kernel_rfl) rfl (by first | exact (HB5.ext hR).pv | exact (HB3.ext hR).pv | exact (HB2.ext hR).pv | assumption) rfl) ?_
   refine rt_vf (fun vals w hR hd => to_f1 (by kernel_rfl) (hd 2 rfl) (refMayMove_c (HG1.ext hR))) ?_
   refine rt_v (fun vals w hR hd => OpVat.as (b := true) (v_beql (by kernel_rfl) (hd 1 rfl) (hd 3 rfl)) (by simp)) ?_
   refine rt_v (fun vals w hR hd => v_move (t := .bool _) (hd 4 rfl)) ?_
   refine rt_hv rfl (fun vals w hd => hd 5 rfl) (fun vals w hR hd => v_loadA (by kernel_rfl) rfl (by first | exact (HB5.ext hR).pv | exact (HB3.ext hR).pv | exact (HB2.ext hR).pv | assumption) rfl) ?_
   refine rt_hto (fun v W => AgV tRg W AllB v (keysN m)) (fun v w w' h k => h.ext k) rfl (fun vals w hd => hd 5 rfl) (fun vals w hR hd => to_f1 (by kernel_rfl) (hd 6 rfl) (CallsR.mono (Keys_c (HG1.ext hR) (by omega) (by omega)) fun v w1 ⟨h, e⟩ => ⟨e, h⟩)) ?_
   refine rt_hv rfl (fun vals w hd => hd 5 rfl) (fun vals w hR hd => v_loadA (by kernel_rfl) rfl (by first | exact (HB5.ext hR).pv | exact (HB3.ext hR).pv | exact (HB2.ext hR).pv | assumption) rfl) ?_
   refine rt_hvf rfl (fun vals w hd => hd 5 rfl) (fun vals w hR hd => to_f2 (by kernel_rfl) rfl (hd 8 rfl) (SameRange_k (b := true) (show AgV tRg _ AllB _ (keysN m) from hd 7 rfl) (AgV.mkRg (HSa.ext hR) (HSb.ext hR) hi3) (by simp [keysN, hm, sameR]))) ?_
   refine rt_v (fun vals w hR hd => v_andT (hd 5 rfl) (hd 9 rfl)) ?_
   refine rt_v (fun vals w hR hd => v_move (t := .bool _) (hd 10 rfl)) ?_
   refine rt_hv rfl (fun vals w hd => hd 11 rfl) (fun vals w hR hd => v_loadA (by kernel_rfl) rfl (by first | exact (HB5.ext hR).pv | exact (HB3.ext hR).pv | exact (HB2.ext hR).pv | assumption) rfl) ?_
   refine rt_hv rfl (fun vals w hd => hd 11 rfl) (fun vals w hR hd => v_loadA (by kernel_rfl) rfl (by first | exact (HB5.ext hR).pv | exact (HB3.ext hR).pv | exact (HB2.ext hR).pv | assumption) rfl) ?_
   refine rt_hvf rfl (fun vals w hd => hd 11 rfl) (fun vals w hR hd => to_f2 (by kernel_rfl) (hd 12 rfl) (hd 13 rfl) (SameMove_c (HG1.ext hR) (HG2.ext hR))) ?_
   refine rt_hv rfl (fun vals w hd => hd 11 rfl) (fun vals w hR hd => v_loadA (by kernel_rfl) rfl (by first | exact (HB5.ext hR).pv | exact (HB3.ext hR).pv | exact (HB2.ext hR).pv | assumption) rfl) ?_
   refine rt_hv rfl (fun vals w hd => hd 11 rfl) (fun vals w hR hd => v_loadA (by kernel_rfl) rfl (by first | exact (HB5.ext hR).pv | exact (HB3.ext hR).pv | exact (HB2.ext hR).pv | assumption) rfl) ?_
   refine rt_hvf rfl (fun vals w hd => hd 11 rfl) (fun vals w hR hd => to_f2 (by kernel_rfl) (hd 15 rfl) (hd 16 rfl) (refSameMove_c (HG1.ext hR) (HG2.ext hR))) ?_
   refine rt_hv rfl (fun vals w hd => hd 11 rfl) (fun vals w hR hd => OpVat.as (b := true) (v_beql (by kernel_rfl) (hd 14 rfl) (hd 17 rfl)) (by simp)) ?_
   refine rt_v (fun vals w hR hd => v_andT (hd 11 rfl) (hd 18 rfl)) ?_
   refine rt_v (fun vals w hR hd => v_move (t := .bool _) (hd 19 rfl)) ?_
   refine rt_hv rfl (fun vals w hd => hd 20 rfl) (fun vals w hR hd => v_loadA (by kernel_rfl) rfl (by first | exact (HB5.ext hR).pv | exact (HB3.ext hR).pv | exact (HB2.ext hR).pv | assumption) rfl) ?_
   refine rt_hv rfl (fun vals w hd => hd 20 rfl) (fun vals w hR hd => v_loadA (by kernel_rfl) rfl (by first | exact (HB5.ext hR).pv | exact (HB3.ext hR).pv | exact (HB2.ext hR).pv | assumption) rfl) ?_
   refine rt_hvf rfl (fun vals w hd => hd 20 rfl) (fun vals w hR hd => to_f2 (by kernel_rfl) (hd 21 rfl) (hd 22 rfl) (SameMove_k (t := true) (HG1.ext hR) (HG1.ext hR) (by simp))) ?_
   refine rt_v (fun vals w hR hd => v_andT (hd 20 rfl) (hd 23 rfl)) ?_
   refine rt_v (fun vals w hR hd => v_move (t := .bool _) (hd 24 rfl)) ?_
   refine rt_hvf rfl (fun vals w hd => hd 25 rfl) (fun vals w hR hd => to_f0 (by kernel_rfl) (known_c)) ?_
   refine rt_v (fun vals w hR hd => v_andT (hd 25 rfl) (hd 26 rfl)) ?_
   refine rt_v (fun vals w hR hd => v_assign (t := .bool _) (hd 27 rfl)) ?_
   refine rt_nil (fun w104 e104 => ?_)
   rintro _ rfl _ rfl _ rfl _ rfl _ rfl _ rfl _ rfl v42 hs42 _ rfl _ rfl _ rfl _ rfl _ rfl _ rfl _ rfl _ rfl _ rfl _ rfl _ rfl _ rfl _ rfl _ rfl _ rfl _ rfl _ rfl _ rfl _ rfl _ rfl _ rfl
   have zs_e104 := e104.size
   replace E := E.trans (Ext.keep e104)
   replace HG1 := HG1.ext e104
   replace HG2 := HG2.ext e104
   replace HSa := HSa.ext e104
   replace HSb := HSb.ext e104
   replace HB2 := HB2.ext e104
   replace HB3 := HB3.ext e104
   replace HB5 := HB5.ext e104
   refine fin_nil ?_
   refine n_then ?_
   refine c_ret ?_
   refine ret1v rfl (by decide) (show _ = (Value.bool _) from rfl) ?_
   exact ⟨rfl, E⟩
  ·
   refine c_skip ?_
   refine n_then ?_
   refine c_seq ?_
   refine wp_regd (NoK) (by kernel_rfl) (by decide +kernel) (by decide +kernel) ?_
   refine rt_v (fun vals w hR hd => v_loadA (by kernel_rfl) rfl (by first | exact (HB5.ext hR).pv | exact (HB3.ext hR).pv | exact (HB2.ext hR).pv | assumption) rfl) ?_
   refine rt_vf (fun vals w hR hd => to_f1 (by kernel_rfl) (hd 0 rfl) (MayMove_c (HG1.ext hR))) ?_
   refine rt_v (fun vals w hR hd => v_loadA (by kernel_rfl) rfl (by first | exact (HB5.ext hR).pv | exact (HB3.ext hR).pv | exact (HB2.ext hR).pv | assumption) rfl) ?_
   refine rt_vf (fun vals w hR hd => to_f1 (by kernel_rfl) (hd 2 rfl) (refMayMove_c (HG1.ext hR))) ?_
   refine rt_v (fun vals w hR hd => OpVat.as (b := true) (v_beql (by kernel_rfl) (hd 1 rfl) (hd 3 rfl)) (by simp)) ?_
   refine rt_v (fun vals w hR hd => v_move (t := .bool _) (hd 4 rfl)) ?_
   refine rt_hv rfl (fun vals w hd => hd 5 rfl) (fun vals w hR hd => v_loadA (by kernel_rfl) rfl (by first | exact (HB5.ext hR).pv | exact (HB3.ext hR).pv | exact (HB2.ext hR).pv | assumption) rfl) ?_
   refine rt_hto (fun v W => AgV tRg W AllB v (keysN m)) (fun v w w' h k => h.ext k) rfl (fun vals w hd => hd 5 rfl) (fun vals w hR hd => to_f1 (by kernel_rfl) (hd 6 rfl) (CallsR.mono (Keys_c (HG1.ext hR) (by omega) (by omega)) fun v w1 ⟨h, e⟩ => ⟨e, h⟩)) ?_
   refine rt_hv rfl (fun vals w hd => hd 5 rfl) (fun vals w hR hd => v_loadA (by kernel_rfl) rfl (by first | exact (HB5.ext hR).pv | exact (HB3.ext hR).pv | exact (HB2.ext hR).pv | assumption) rfl) ?_
   refine rt_hvf rfl (fun vals w hd => hd 5 rfl) (fun vals w hR hd => to_f2 (by kernel_rfl) rfl (hd 8 rfl) (SameRange_k (b := true) (show AgV tRg _ AllB _ (keysN m) from hd 7 rfl) (AgV.mkRg (F := NoK) (SlV.nil _ _ _) (SlV.nil _ _ _) ⟨by decide, by decide⟩) (by simp [keysN, hm, sameR]))) ?_
   refine rt_v (fun vals w hR hd => v_andT (hd 5 rfl) (hd 9 rfl)) ?_
   refine rt_v (fun vals w hR hd => v_move (t := .bool _) (hd 10 rfl)) ?_
   refine rt_hv rfl (fun vals w hd => hd 11 rfl) (fun vals w hR hd => v_loadA (by kernel_rfl) rfl (by first | exact (HB5.ext hR).pv | exact (HB3.ext hR).pv | exact (HB2.ext hR).pv | assumption) rfl) ?_
   refine rt_hv rfl (fun vals w hd => hd 11 rfl) (fun vals w hR hd => v_loadA (by kernel_rfl) rfl (by first | exact (HB5.ext hR).pv | exact (HB3.ext hR).pv | exact (HB2.ext hR).pv | assumption) rfl) ?_
   refine rt_hvf rfl (fun vals w hd => hd 11 rfl) (fun vals w hR hd => to_f2 (by kernel_rfl) (hd 12 rfl) (hd 13 rfl) (SameMove_c (HG1.ext hR) (HG2.ext hR))) ?_
   refine rt_hv rfl (fun vals w hd => hd 11 rfl) (fun vals w hR hd => v_loadA (by kernel_rfl) rfl (by first | exact (HB5.ext hR).pv | exact (HB3.ext hR).pv | exact (HB2.ext hR).pv | assumption) rfl) ?_
   refine rt_hv rfl (fun vals w hd => hd 11 rfl) (fun vals w hR hd => v_loadA (by kernel_rfl) rfl (by first | exact (HB5.ext hR).pv | exact (HB3.ext hR).pv | exact (HB2.ext hR).pv | assumption) rfl) ?_
   refine rt_hvf rfl (fun vals w hd => hd 11 rfl) (fun vals w hR hd => to_f2 (by kernel_rfl) (hd 15 rfl) (hd 16 rfl) (refSameMove_c (HG1.ext hR) (HG2.ext hR))) ?_
   refine rt_hv rfl (fun vals w hd => hd 11 rfl) (fun vals w hR hd => OpVat.as (b := true) (v_beql (by kernel_rfl) (hd 14 rfl) (hd 17 rfl)) (by simp)) ?_
   refine rt_v (fun vals w hR hd => v_andT (hd 11 rfl) (hd 18 rfl)) ?_
   refine rt_v (fun vals w hR hd => v_move (t := .bool _) (hd 19 rfl)) ?_
   refine rt_hv rfl (fun vals w hd => hd 20 rfl) (fun vals w hR hd => v_loadA (by kernel_rfl) rfl (by first | exact (HB5.ext hR).pv | exact (HB3.ext hR).pv | exact (HB2.ext hR).pv | assumption) rfl) ?_
   refine rt_hv rfl (fun vals w hd => hd 20 rfl) (fun vals w hR hd => v_loadA (by kernel_rfl) rfl (by first | exact (HB5.ext hR).pv | exact (HB3.ext hR).pv | exact (HB2.ext hR).pv | assumption) rfl) ?_
   refine rt_hvf rfl (fun vals w hd => hd 20 rfl) (fun vals w hR hd => to_f2 (by kernel_rfl) (hd 21 rfl) (hd 22 rfl) (SameMove_k (t := true) (HG1.ext hR) (HG1.ext hR) (by simp))) ?_
   refine rt_v (fun vals w hR hd => v_andT (hd 20 rfl) (hd 23 rfl)) ?_
   refine rt_v (fun vals w hR hd => v_move (t := .bool _) (hd 24 rfl)) ?_
   refine rt_hvf rfl (fun vals w hd => hd 25 rfl) (fun vals w hR hd => to_f0 (by kernel_rfl) (known_c)) ?_
   refine rt_v (fun vals w hR hd => v_andT (hd 25 rfl) (hd 26 rfl)) ?_
   refine rt_v (fun vals w hR hd => v_assign (t := .bool _) (hd 27 rfl)) ?_
   refine rt_nil (fun w105 e105 => ?_)
   rintro _ rfl _ rfl _ rfl _ rfl _ rfl _ rfl _ rfl v42 hs42 _ rfl _ rfl _ rfl _ rfl _ rfl _ rfl _ rfl _ rfl _ rfl _ rfl _ rfl _ rfl _ rfl _ rfl _ rfl _ rfl _ rfl _ rfl _ rfl _ rfl _ rfl
   have zs_e105 := e105.size
   replace E := E.trans (Ext.keep e105)
   replace HG1 := HG1.ext e105
   replace HG2 := HG2.ext e105
   replace HSa := HSa.ext e105
   replace HSb := HSb.ext e105
   replace HB2 := HB2.ext e105
   replace HB3 := HB3.ext e105
   replace HB5 := HB5.ext e105
   refine fin_nil ?_
   refine n_then ?_
   refine c_ret ?_
   refine ret1v rfl (by decide) (show _ = (Value.bool _) from rfl) ?_
   exact ⟨rfl, E⟩
end Go.Proofs.Ytogafjlbpodgjaa
