/- A part of the proof: steps and lemmas for the walks through the given program. -/
import Derived.Test.YtkaangdfpjkjpaaR8
namespace Go.Proofs.Ytkaangdfpjkjpaa
open Go.Vc
set_option linter.unusedVariables false
set_option linter.unusedSimpArgs false
set_option maxRecDepth 100000

theorem Find1_c {w : World} {F G : Nat → Prop} {u kv : Value} {r : RgV} {k : List UInt8} {b : Nat} {T : TypeId} (HG1 : AgV tRg w F u r) (hb : Blk w b [kv] T) (HS2 : Bv w G kv k) : CallsR Try.prog 54 #[u, .pointer (some ⟨b, 0, none⟩)] w (fun o w' => o = .bool (hasB k r) ∧ Ext w w') := by
  obtain ⟨a1, c1, a2, c2, rfl, HSf, HSt, hg⟩ := HG1.rg
  obtain ⟨a3, c3, rfl⟩ := HS2.shape
  have HBk := hb
  refine enter 7 Try.func54 rfl rfl (by simp) ?_
  refine c_seq ?_
  have E := Keep.refl (K := NoK) w
  replace HG1 := HG1.all
  replace HS2 := HS2.all
  refine wp_reg (by decide +kernel) ?_
  refine l_to (to_box (show _ = (Value.agg _) from rfl) ?_)
  rintro b101 w101 zb101 HB101 e101 z101
  have zs_e101 := e101.size
  replace E := E.trans (Ext.keep e101)
  replace HG1 := HG1.ext e101
  replace HS2 := HS2.ext e101
  replace HBk := HBk.ext e101
  try simp only [Value.cells] at HB101
  refine l_v (v_assign rfl) ?_
  refine l_nil ?_
  refine n_then ?_
  refine c_seq ?_
  refine wp_reg (by decide +kernel) ?_
  refine l_v (v_loadA (by kernel_rfl) rfl (by first | exact HB101.pv | exact HBk.pv | assumption) rfl) ?_
  refine l_v (v_load (by kernel_rfl) rfl (by first | exact HB101.cell rfl | exact HBk.cell rfl | assumption)) ?_
  refine l_to (to_f2 (by kernel_rfl) (show _ = (Value.agg _) from rfl) (show _ = (Value.slice _ _ _) from rfl) (CallsR.mono (Has_c HG1 HS2) ?_))
  rintro _ w102 ⟨rfl, e102⟩
  have zs_e102 := e102.size
  replace E := E.trans (Ext.keep e102)
  replace HG1 := HG1.ext e102
  replace HS2 := HS2.ext e102
  replace HBk := HBk.ext e102
  replace HB101 := HB101.ext e102
  refine l_v (v_assign (t := .bool _) rfl) ?_
  refine l_nil ?_
  refine n_then ?_
  refine c_ret ?_
  refine ret1v rfl (by decide) (show _ = (Value.bool _) from rfl) ?_
  exact ⟨rfl, E⟩
theorem begins1_c {w : World} {F G : Nat → Prop} {u kv : Value} {r : RgV} {k : List UInt8} {b : Nat} {T : TypeId} (HG1 : AgV tRg w F u r) (hb : Blk w b [kv] T) (HS2 : Bv w G kv k) : CallsR Try.prog 88 #[u, .pointer (some ⟨b, 0, none⟩)] w (fun o w' => o = .bool (begB k r) ∧ Ext w w') := by
  obtain ⟨a1, c1, a2, c2, rfl, HSf, HSt, hg⟩ := HG1.rg
  obtain ⟨a3, c3, rfl⟩ := HS2.shape
  have HBk := hb
  refine enter 8 Try.func88 rfl rfl (by simp) ?_
  refine c_seq ?_
  have E := Keep.refl (K := NoK) w
  replace HSf := HSf.all
  replace HS2 := HS2.all
  refine wp_reg (by decide +kernel) ?_
  refine l_to (to_box (show _ = (Value.agg _) from rfl) ?_)
  rintro b101 w101 zb101 HB101 e101 z101
  have zs_e101 := e101.size
  replace E := E.trans (Ext.keep e101)
  replace HSf := HSf.ext e101
  replace HS2 := HS2.ext e101
  replace HBk := HBk.ext e101
  try simp only [Value.cells] at HB101
  refine l_v (v_assign rfl) ?_
  refine l_nil ?_
  refine n_then ?_
  refine c_seq ?_
  refine wp_reg (by decide +kernel) ?_
  refine l_v (v_fieldAddr (off := 0) (ft := 35) (by kernel_rfl) rfl) ?_
  refine l_v (v_load (by kernel_rfl) rfl (by first | exact HB101.pv 0 _ rfl | exact HBk.pv 0 _ rfl | assumption)) ?_
  refine l_v (v_load (by kernel_rfl) rfl (by first | exact HB101.cell rfl | exact HBk.cell rfl | assumption)) ?_
  refine l_to (to_f2 (by kernel_rfl) (show _ = (Value.slice _ _ _) from rfl) (show _ = (Value.slice _ _ _) from rfl) (CallsR.mono (Equal_c HSf HS2) ?_))
  rintro _ w102 ⟨rfl, e102⟩
  have zs_e102 := e102.size
  replace E := E.trans (Ext.keep e102)
  replace HSf := HSf.ext e102
  replace HS2 := HS2.ext e102
  replace HBk := HBk.ext e102
  replace HB101 := HB101.ext e102
  refine l_v (v_assign (t := .bool _) rfl) ?_
  refine l_nil ?_
  refine n_then ?_
  refine c_ret ?_
  refine ret1v rfl (by decide) (show _ = (Value.bool _) from rfl) ?_
  exact ⟨rfl, E⟩
theorem begins_c {w : World} {F G : Nat → Prop} {v kv : Value} {e : Int} {rs : List RgV} {k : List UInt8} (HG1 : AgV tMp w F v (e, rs)) (HS2 : Bv w G kv k) : CallsR Try.prog 57 #[v, kv] w (fun o w' => o = .int .i64 (optI (findO (e, rs) (begB k))) ∧ Ext w w') := by
  obtain ⟨a, c, rfl, HSr, he⟩ := HG1.mp
  obtain ⟨a3, c3, rfl⟩ := HS2.shape
  refine enter 8 Try.func57 rfl rfl (by simp) ?_
  refine c_seq ?_
  have E := Keep.refl (K := NoK) w
  replace HG1 := HG1.all
  replace HS2 := HS2.all
  refine wp_reg (by decide +kernel) ?_
  refine l_to (to_box (show _ = (Value.agg _) from rfl) ?_)
  rintro b2 w2 zb2 HB2 e2 z2
  have zs_e2 := e2.size
  replace E := E.trans (Ext.keep e2)
  replace HG1 := HG1.ext e2
  replace HS2 := HS2.ext e2
  try simp only [Value.cells] at HB2
  refine l_to (to_box (show _ = (Value.slice _ _ _) from rfl) ?_)
  rintro b3 w3 zb3 HB3 e3 z3
  have zs_e3 := e3.size
  replace E := E.trans (Ext.keep e3)
  replace HG1 := HG1.ext e3
  replace HS2 := HS2.ext e3
  replace HB2 := HB2.ext e3
  try simp only [Value.cells] at HB3
  refine l_v (v_assign rfl) ?_
  refine l_nil ?_
  refine n_then ?_
  refine c_seq ?_
  refine wp_reg (by decide +kernel) ?_
  refine l_v (v_loadA (by kernel_rfl) rfl (by first | exact HB3.pv | exact HB2.pv | assumption) rfl) ?_
  refine l_v (v_makeFunc (by simp [ev]; rfl) (by simp [ev]; rfl)) ?_
  refine l_to (to_f2 (by kernel_rfl) (show _ = (Value.agg _) from rfl) (show _ = (Value.func _ _ _) from rfl) (CallsR.mono (find_c (cap := #[.pointer (some ⟨b3, 0, none⟩)]) HG1 (by kernel_rfl) (fun W G u r e h => begins1_c h (HB3.ext e) (HS2.ext e))) ?_))
  rintro _ w101 ⟨rfl, e101⟩
  have zs_e101 := e101.size
  replace E := E.trans (Ext.keep e101)
  replace HG1 := HG1.ext e101
  replace HS2 := HS2.ext e101
  replace HB2 := HB2.ext e101
  replace HB3 := HB3.ext e101
  refine l_v (v_assign (t := .int _ _) rfl) ?_
  refine l_nil ?_
  refine n_then ?_
  refine c_ret ?_
  refine ret1v rfl (by decide) (show _ = (Value.int _ _) from rfl) ?_
  exact ⟨rfl, E⟩
theorem Find_c {w : World} {F G : Nat → Prop} {v kv : Value} {e : Int} {rs : List RgV} {k : List UInt8} (HG1 : AgV tMp w F v (e, rs)) (HS2 : Bv w G kv k) : CallsR Try.prog 24 #[v, kv] w (fun o w' => (∃ x, o = .tuple #[x, .int .i64 (optI (findO (e, rs) (hasB k)))] ∧ AgV tRg w' (fun b => w.heap.size ≤ b) x (rgAt rs (findO (e, rs) (hasB k)))) ∧ Ext w w') := by
  obtain ⟨a, c, rfl, HSr, he⟩ := HG1.mp
  obtain ⟨a3, c3, rfl⟩ := HS2.shape
  refine enter 20 Try.func24 rfl rfl (by simp) ?_
  refine c_seq ?_
  have E := Keep.refl (K := NoK) w
  replace HG1 := HG1.all
  replace HS2 := HS2.all
  replace HSr := HSr.all
  refine wp_reg (by decide +kernel) ?_
  refine l_to (to_box (show _ = (Value.agg _) from rfl) ?_)
  rintro b2 w2 zb2 HB2 e2 z2
  have zs_e2 := e2.size
  replace E := E.trans (Ext.keep e2)
  replace HG1 := HG1.ext e2
  replace HS2 := HS2.ext e2
  replace HSr := HSr.ext e2
  try simp only [Value.cells] at HB2
  refine l_to (to_box (show _ = (Value.slice _ _ _) from rfl) ?_)
  rintro b3 w3 zb3 HB3 e3 z3
  have zs_e3 := e3.size
  replace E := E.trans (Ext.keep e3)
  replace HG1 := HG1.ext e3
  replace HS2 := HS2.ext e3
  replace HSr := HSr.ext e3
  replace HB2 := HB2.ext e3
  try simp only [Value.cells] at HB3
  refine l_to (to_alloc (z := (.agg #[.slice none 0 0, .slice none 0 0, .bool false, .int .i64 0])) (by unfold kZero; kernel_rfl) ?_)
  rintro b4 w4 zb4 HB4 e4 z4
  have zs_e4 := e4.size
  replace E := E.trans (Ext.keep e4)
  replace HG1 := HG1.ext e4
  replace HS2 := HS2.ext e4
  replace HSr := HSr.ext e4
  replace HB2 := HB2.ext e4
  replace HB3 := HB3.ext e4
  try simp only [Value.cells] at HB4
  refine l_v (v_assign rfl) ?_
  refine l_nil ?_
  refine n_then ?_
  refine c_seq ?_
  refine wp_reg (by decide +kernel) ?_
  refine l_v (v_loadA (by kernel_rfl) rfl (by first | exact HB4.pv | exact HB3.pv | exact HB2.pv | assumption) rfl) ?_
  refine l_v (v_makeFunc (by simp [ev]; rfl) (by simp [ev]; rfl)) ?_
  refine l_to (to_f2 (by kernel_rfl) (show _ = (Value.agg _) from rfl) (show _ = (Value.func _ _ _) from rfl) (CallsR.mono (find_c (cap := #[.pointer (some ⟨b3, 0, none⟩)]) HG1 (by kernel_rfl) (fun W G u r e h => Find1_c h (HB3.ext e) (HS2.ext e))) ?_))
  rintro _ w101 ⟨rfl, e101⟩
  have zs_e101 := e101.size
  replace E := E.trans (Ext.keep e101)
  replace HG1 := HG1.ext e101
  replace HS2 := HS2.ext e101
  replace HSr := HSr.ext e101
  replace HB2 := HB2.ext e101
  replace HB3 := HB3.ext e101
  replace HB4 := HB4.ext e101
  refine l_v (v_assign (t := .int _ _) rfl) ?_
  refine l_nil ?_
  refine n_then ?_
  refine c_seq ?_
  refine c_seq ?_
  refine wp_reg (by decide +kernel) ?_
  refine l_v (v_move (t := .int _ _) rfl) ?_
  refine l_v (v_lss rfl rfl) ?_
  refine l_nil ?_
  refine n_then ?_
  refine c_cond rfl rfl (fun hc => ?_) (fun hc => ?_)
  · skip
    refine c_seq ?_
    refine wp_reg (by decide +kernel) ?_
    refine l_v (v_build (pl := [(0, 1), (1, 1), (2, 1), (3, 1)]) (z := .agg #[.slice none 0 0, .slice none 0 0, .bool false, .int .i64 0]) (zl := [.slice none 0 0, .slice none 0 0, .bool false, .int .i64 0]) (by kernel_rfl) (by unfold kZero; kernel_rfl) rfl rfl (cells := [_, _, _, _]) rfl) ?_
    refine l_to (to_storeA (n := 4) rfl rfl (show _ = (Value.agg _) from rfl) (by kernel_rfl) rfl (by first | (simp [slice_one]; done) | (simp only [List.forall_mem_cons, List.cons_append, List.nil_append]; repeat' (first | exact rfl | apply And.intro | (intro u hu; cases hu; done)))) HB4 (by first | exact of_decide_eq_true rfl | (simp; done) | decide) ?_)
    rintro w102 HX102 k102 z102
    have zs_k102 := k102.size
    replace E := E.step k102 (by intro i hi he; have he0 := he; have hi := hi; have he := he; (try dsimp only [NoK] at hi he ⊢); (try simp only [Value.ownBlock, Option.some.injEq] at he); first | exact he.elim | omega | exact he)
    replace HG1 := HG1.keep k102 (by first | exact fun h => h | (intro h; have he0 := h; have h := h; (try dsimp only at h); (try simp only [Value.ownBlock, Option.some.injEq] at h); (try simp only [add_block] at h); (try simp only [add_block] at he0); first | omega) | (intro i _ hi he; have he0 := he; have hi := hi; have he := he; (try dsimp only [NoK, AllB] at hi he); (try simp only [Value.ownBlock, Option.some.injEq] at he); first | exact hi.elim | exact he.elim | omega | (rcases hi with hi | hi <;> omega) | (rcases he with he | he <;> omega)))
    replace HS2 := HS2.keep k102 (by first | exact fun h => h | (intro h; have he0 := h; have h := h; (try dsimp only at h); (try simp only [Value.ownBlock, Option.some.injEq] at h); (try simp only [add_block] at h); (try simp only [add_block] at he0); first | omega) | (intro i _ hi he; have he0 := he; have hi := hi; have he := he; (try dsimp only [NoK, AllB] at hi he); (try simp only [Value.ownBlock, Option.some.injEq] at he); first | exact hi.elim | exact he.elim | omega | (rcases hi with hi | hi <;> omega) | (rcases he with he | he <;> omega)))
    replace HSr := HSr.keep k102 (by first | exact fun h => h | (intro h; have he0 := h; have h := h; (try dsimp only at h); (try simp only [Value.ownBlock, Option.some.injEq] at h); (try simp only [add_block] at h); (try simp only [add_block] at he0); first | omega) | (intro i _ hi he; have he0 := he; have hi := hi; have he := he; (try dsimp only [NoK, AllB] at hi he); (try simp only [Value.ownBlock, Option.some.injEq] at he); first | exact hi.elim | exact he.elim | omega | (rcases hi with hi | hi <;> omega) | (rcases he with he | he <;> omega)))
    replace HB2 := HB2.keep k102 (by first | exact fun h => h | (intro h; have he0 := h; have h := h; (try dsimp only at h); (try simp only [Value.ownBlock, Option.some.injEq] at h); (try simp only [add_block] at h); (try simp only [add_block] at he0); first | omega) | (intro i _ hi he; have he0 := he; have hi := hi; have he := he; (try dsimp only [NoK, AllB] at hi he); (try simp only [Value.ownBlock, Option.some.injEq] at he); first | exact hi.elim | exact he.elim | omega | (rcases hi with hi | hi <;> omega) | (rcases he with he | he <;> omega)))
    replace HB3 := HB3.keep k102 (by first | exact fun h => h | (intro h; have he0 := h; have h := h; (try dsimp only at h); (try simp only [Value.ownBlock, Option.some.injEq] at h); (try simp only [add_block] at h); (try simp only [add_block] at he0); first | omega) | (intro i _ hi he; have he0 := he; have hi := hi; have he := he; (try dsimp only [NoK, AllB] at hi he); (try simp only [Value.ownBlock, Option.some.injEq] at he); first | exact hi.elim | exact he.elim | omega | (rcases hi with hi | hi <;> omega) | (rcases he with he | he <;> omega)))
    replace HB4 := HX102
    clear HX102
    try simp only [List.set_cons_zero, List.set_cons_succ, setAt, List.take_zero, List.take_succ_cons, List.drop_zero, List.drop_succ_cons, List.nil_append, List.cons_append, List.append_nil, List.length_cons, List.length_nil, Nat.zero_add, Nat.reduceAdd, List.drop_nil] at HB4
    refine l_v (v_assign rfl) ?_
    refine l_nil ?_
    refine n_then ?_
    refine c_ret ?_
    refine r_then ?_
    refine ret2cv (n := 4) rfl (by decide) (by decide) rfl (by kernel_rfl) HB4.pv rfl (show _ = (Value.int _ _) from rfl) ?_
    have h := optI_neg.1 (dtrue hc)
    rw [h]
    exact ⟨⟨_, rfl, AgV.mkRg (SlV.nil _ _ _) (SlV.nil _ _ _) (by omega)⟩, E⟩
  · skip
    obtain ⟨i, hi⟩ : ∃ i, findO (e, rs) (hasB k) = some i := by
      cases h : findO (e, rs) (hasB k) with
      | none => rw [h] at hc; simp [optI] at hc
      | some i => exact ⟨i, rfl⟩
    obtain ⟨hm, hlt, _⟩ := findO_at hi
    simp only at hlt
    obtain ⟨h24, h25, _⟩ := mayM_lens hm _ (getD_mem (l := rs) hlt)
    rw [hi]
    obtain ⟨q, cs, hq, hF, _, HPq, hr⟩ := HSr.el (getD_at hlt)
    subst hq
    have HG5 : AgV tRg _ _ _ (rs.getD i rg0) := ⟨cs, rfl, hr⟩
    obtain ⟨b5, d5, b6, d6, rfl, _, _, hg⟩ := tRg_cells hr
    refine c_skip ?_
    refine n_then ?_
    refine c_seq ?_
    refine wp_reg (by decide +kernel) ?_
    refine l_v (v_fieldAddr (off := 1) (ft := 22) (by kernel_rfl) rfl) ?_
    refine l_v (v_load (by kernel_rfl) rfl (by first | exact HPq 1 _ rfl | exact HB4.pv 1 _ rfl | exact HB3.pv 1 _ rfl | exact HB2.pv 1 _ rfl | assumption)) ?_
    refine l_v (v_move (t := .int _ _) rfl) ?_
    refine l_v (v_indexAddr (et := 37) (sz := 4) (k := i) (by kernel_rfl) (by kernel_rfl) rfl rfl (rfl) (hlt)) ?_
    refine l_v (v_loadA (by kernel_rfl) rfl (by first | exact HPq | exact HB4.pv | exact HB3.pv | exact HB2.pv | assumption) rfl) ?_
    refine l_to (to_f1 (by kernel_rfl) (show _ = (Value.agg _) from rfl) (CallsR.mono (clone_c HG5 (by omega) (by omega)) ?_))
    rintro v8 w8 ⟨HG8, e8⟩
    have zs_e8 := e8.size
    obtain ⟨a8, c8, a9, c9, rfl, HS8, HS9, hg8⟩ := HG8.rg
    replace E := E.trans (Ext.keep e8)
    replace HG1 := HG1.ext e8
    replace HS2 := HS2.ext e8
    replace HSr := HSr.ext e8
    replace HB2 := HB2.ext e8
    replace HB3 := HB3.ext e8
    replace HB4 := HB4.ext e8
    replace HPq := HPq.ext e8
    replace HG5 := HG5.ext e8
    refine l_v (v_move (t := .int _ _) rfl) ?_
    refine l_to (to_storeA (n := 4) rfl rfl (show _ = (Value.agg _) from rfl) (by kernel_rfl) rfl (by first | (simp [slice_one]; done) | (simp only [List.forall_mem_cons, List.cons_append, List.nil_append]; repeat' (first | exact rfl | apply And.intro | (intro u hu; cases hu; done)))) HB4 (by first | exact of_decide_eq_true rfl | (simp; done) | decide) ?_)
    rintro w103 HX103 k103 z103
    have zs_k103 := k103.size
    replace E := E.step k103 (by intro i hi he; have he0 := he; have hi := hi; have he := he; (try dsimp only [NoK] at hi he ⊢); (try simp only [Value.ownBlock, Option.some.injEq] at he); first | exact he.elim | omega | exact he)
    replace HG1 := HG1.keep k103 (by first | exact fun h => h | (intro h; have he0 := h; have h := h; (try dsimp only at h); (try simp only [Value.ownBlock, Option.some.injEq] at h); (try simp only [add_block] at h); (try simp only [add_block] at he0); first | omega) | (intro i _ hi he; have he0 := he; have hi := hi; have he := he; (try dsimp only [NoK, AllB] at hi he); (try simp only [Value.ownBlock, Option.some.injEq] at he); first | exact hi.elim | exact he.elim | omega | (rcases hi with hi | hi <;> omega) | (rcases he with he | he <;> omega)))
    replace HS2 := HS2.keep k103 (by first | exact fun h => h | (intro h; have he0 := h; have h := h; (try dsimp only at h); (try simp only [Value.ownBlock, Option.some.injEq] at h); (try simp only [add_block] at h); (try simp only [add_block] at he0); first | omega) | (intro i _ hi he; have he0 := he; have hi := hi; have he := he; (try dsimp only [NoK, AllB] at hi he); (try simp only [Value.ownBlock, Option.some.injEq] at he); first | exact hi.elim | exact he.elim | omega | (rcases hi with hi | hi <;> omega) | (rcases he with he | he <;> omega)))
    replace HSr := HSr.keep k103 (by first | exact fun h => h | (intro h; have he0 := h; have h := h; (try dsimp only at h); (try simp only [Value.ownBlock, Option.some.injEq] at h); (try simp only [add_block] at h); (try simp only [add_block] at he0); first | omega) | (intro i _ hi he; have he0 := he; have hi := hi; have he := he; (try dsimp only [NoK, AllB] at hi he); (try simp only [Value.ownBlock, Option.some.injEq] at he); first | exact hi.elim | exact he.elim | omega | (rcases hi with hi | hi <;> omega) | (rcases he with he | he <;> omega)))
    replace HB2 := HB2.keep k103 (by first | exact fun h => h | (intro h; have he0 := h; have h := h; (try dsimp only at h); (try simp only [Value.ownBlock, Option.some.injEq] at h); (try simp only [add_block] at h); (try simp only [add_block] at he0); first | omega) | (intro i _ hi he; have he0 := he; have hi := hi; have he := he; (try dsimp only [NoK, AllB] at hi he); (try simp only [Value.ownBlock, Option.some.injEq] at he); first | exact hi.elim | exact he.elim | omega | (rcases hi with hi | hi <;> omega) | (rcases he with he | he <;> omega)))
    replace HB3 := HB3.keep k103 (by first | exact fun h => h | (intro h; have he0 := h; have h := h; (try dsimp only at h); (try simp only [Value.ownBlock, Option.some.injEq] at h); (try simp only [add_block] at h); (try simp only [add_block] at he0); first | omega) | (intro i _ hi he; have he0 := he; have hi := hi; have he := he; (try dsimp only [NoK, AllB] at hi he); (try simp only [Value.ownBlock, Option.some.injEq] at he); first | exact hi.elim | exact he.elim | omega | (rcases hi with hi | hi <;> omega) | (rcases he with he | he <;> omega)))
    replace HPq := HPq.keep k103 (by first | exact fun h => h | (intro h; have he0 := h; have h := h; (try dsimp only at h); (try simp only [Value.ownBlock, Option.some.injEq] at h); (try simp only [add_block] at h); (try simp only [add_block] at he0); first | omega) | (intro i _ hi he; have he0 := he; have hi := hi; have he := he; (try dsimp only [NoK, AllB] at hi he); (try simp only [Value.ownBlock, Option.some.injEq] at he); first | exact hi.elim | exact he.elim | omega | (rcases hi with hi | hi <;> omega) | (rcases he with he | he <;> omega)))
    replace HG5 := HG5.keep k103 (by first | exact fun h => h | (intro h; have he0 := h; have h := h; (try dsimp only at h); (try simp only [Value.ownBlock, Option.some.injEq] at h); (try simp only [add_block] at h); (try simp only [add_block] at he0); first | omega) | (intro i _ hi he; have he0 := he; have hi := hi; have he := he; (try dsimp only [NoK, AllB] at hi he); (try simp only [Value.ownBlock, Option.some.injEq] at he); first | exact hi.elim | exact he.elim | omega | (rcases hi with hi | hi <;> omega) | (rcases he with he | he <;> omega)))
    replace HG8 := HG8.keep k103 (by first | exact fun h => h | (intro h; have he0 := h; have h := h; (try dsimp only at h); (try simp only [Value.ownBlock, Option.some.injEq] at h); (try simp only [add_block] at h); (try simp only [add_block] at he0); first | omega) | (intro i _ hi he; have he0 := he; have hi := hi; have he := he; (try dsimp only [NoK, AllB] at hi he); (try simp only [Value.ownBlock, Option.some.injEq] at he); first | exact hi.elim | exact he.elim | omega | (rcases hi with hi | hi <;> omega) | (rcases he with he | he <;> omega)))
    replace HS8 := HS8.keep k103 (by first | exact fun h => h | (intro h; have he0 := h; have h := h; (try dsimp only at h); (try simp only [Value.ownBlock, Option.some.injEq] at h); (try simp only [add_block] at h); (try simp only [add_block] at he0); first | omega) | (intro i _ hi he; have he0 := he; have hi := hi; have he := he; (try dsimp only [NoK, AllB] at hi he); (try simp only [Value.ownBlock, Option.some.injEq] at he); first | exact hi.elim | exact he.elim | omega | (rcases hi with hi | hi <;> omega) | (rcases he with he | he <;> omega)))
    replace HS9 := HS9.keep k103 (by first | exact fun h => h | (intro h; have he0 := h; have h := h; (try dsimp only at h); (try simp only [Value.ownBlock, Option.some.injEq] at h); (try simp only [add_block] at h); (try simp only [add_block] at he0); first | omega) | (intro i _ hi he; have he0 := he; have hi := hi; have he := he; (try dsimp only [NoK, AllB] at hi he); (try simp only [Value.ownBlock, Option.some.injEq] at he); first | exact hi.elim | exact he.elim | omega | (rcases hi with hi | hi <;> omega) | (rcases he with he | he <;> omega)))
    replace HB4 := HX103
    clear HX103
    try simp only [List.set_cons_zero, List.set_cons_succ, setAt, List.take_zero, List.take_succ_cons, List.drop_zero, List.drop_succ_cons, List.nil_append, List.cons_append, List.append_nil, List.length_cons, List.length_nil, Nat.zero_add, Nat.reduceAdd, List.drop_nil] at HB4
    refine l_v (v_assign (t := .int _ _) rfl) ?_
    refine l_nil ?_
    refine n_then ?_
    refine c_ret ?_
    refine ret2cv (n := 4) rfl (by decide) (by decide) rfl (by kernel_rfl) HB4.pv rfl (show _ = (Value.int _ _) from rfl) ?_
    exact ⟨⟨_, rfl, HG8.mono fun b _ h => by omega⟩, E⟩
end Go.Proofs.Ytkaangdfpjkjpaa
