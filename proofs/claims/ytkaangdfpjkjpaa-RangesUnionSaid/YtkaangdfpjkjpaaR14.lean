/- A part of the proof: steps and lemmas for the walks through the given program. -/
import Derived.Test.YtkaangdfpjkjpaaR13
namespace Go.Proofs.Ytkaangdfpjkjpaa
open Go.Vc
set_option linter.unusedVariables false
set_option linter.unusedSimpArgs false
set_option maxRecDepth 100000

theorem sameM_self (m : MpV) : sameM m m = true := by
  simp [sameM, sameRs_iff]

theorem RangesNew_c {w : World} {g : Int} (hg : -9223372036854775808 ≤ g ∧ g ≤ 9223372036854775807) : CallsR Try.prog 3 #[.int .i64 g] w (fun o w' => o = .bool true ∧ Ext w w') := by
  refine enter 29 Try.func3 rfl rfl (by simp) ?_
  refine c_seq ?_
  have E := Keep.refl (K := NoK) w
  refine wp_reg (by decide +kernel) ?_
  refine l_v (v_assign rfl) ?_
  refine l_nil ?_
  refine n_then ?_
  refine c_seq ?_
  refine wp_reg (by decide +kernel) ?_
  refine l_v (v_move (t := .int _ _) rfl) ?_
  refine l_to (to_f1 (by kernel_rfl) (show _ = (Value.int _ _) from rfl) (CallsR.mono (New_c hg) ?_))
  rintro _ w1 ⟨⟨x1, rfl, HG1⟩, e1⟩
  have zs_e1 := e1.size
  replace HG1 := HG1.all
  obtain ⟨a1, c1, rfl, HS1, he1⟩ := HG1.mp
  replace E := E.trans (Ext.keep e1)
  refine l_v (v_move (t := .tuple _) rfl) ?_
  refine l_v (v_extract (t := .agg _) rfl rfl) ?_
  refine l_v (v_extract (t := .int _ _) rfl rfl) ?_
  refine l_to (to_alloc (z := (.agg #[.int .i64 0, .slice none 0 0])) (by unfold kZero; kernel_rfl) ?_)
  rintro b11 w11 zb11 HB11 e11 z11
  have zs_e11 := e11.size
  replace E := E.trans (Ext.keep e11)
  replace HG1 := HG1.ext e11
  try simp only [Value.cells] at HB11
  refine l_to (to_storeA (n := 2) rfl rfl (show _ = (Value.agg _) from rfl) (by kernel_rfl) rfl (by first | (simp [slice_one]; done) | (simp only [List.forall_mem_cons, List.cons_append, List.nil_append]; repeat' (first | exact rfl | apply And.intro | (intro u hu; cases hu; done)))) HB11 (by first | exact of_decide_eq_true rfl | (simp; done) | decide) ?_)
  rintro w101 HX101 k101 z101
  have zs_k101 := k101.size
  replace E := E.step k101 (by intro i hi he; have he0 := he; have hi := hi; have he := he; (try dsimp only [NoK] at hi he ⊢); (try simp only [Value.ownBlock, Option.some.injEq] at he); first | exact he.elim | omega | exact he)
  replace HG1 := HG1.keep k101 (by first | exact fun h => h | (intro h; have he0 := h; have h := h; (try dsimp only at h); (try simp only [Value.ownBlock, Option.some.injEq] at h); (try simp only [add_block] at h); (try simp only [add_block] at he0); first | omega) | (intro i _ hi he; have he0 := he; have hi := hi; have he := he; (try dsimp only [NoK, AllB] at hi he); (try simp only [Value.ownBlock, Option.some.injEq] at he); first | exact hi.elim | exact he.elim | omega | (rcases hi with hi | hi <;> omega) | (rcases he with he | he <;> omega)))
  replace HB11 := HX101
  clear HX101
  try simp only [List.set_cons_zero, List.set_cons_succ, setAt, List.take_zero, List.take_succ_cons, List.drop_zero, List.drop_succ_cons, List.nil_append, List.cons_append, List.append_nil, List.length_cons, List.length_nil, Nat.zero_add, Nat.reduceAdd, List.drop_nil] at HB11
  refine l_v (v_assign (t := .int _ _) rfl) ?_
  refine l_nil ?_
  refine n_then ?_
  refine c_seq ?_
  refine wp_reg (by decide +kernel) ?_
  refine l_v (v_move (t := .int _ _) rfl) ?_
  refine l_to (to_f1 (by kernel_rfl) (show _ = (Value.int _ _) from rfl) (CallsR.mono (refNew_c hg) ?_))
  rintro _ w2 ⟨⟨x2, rfl, HG2⟩, e2⟩
  have zs_e2 := e2.size
  replace HG2 := HG2.all
  obtain ⟨a2, c2, rfl, HS2, he2⟩ := HG2.mp
  replace E := E.trans (Ext.keep e2)
  replace HG1 := HG1.ext e2
  replace HB11 := HB11.ext e2
  refine l_v (v_move (t := .tuple _) rfl) ?_
  refine l_v (v_extract (t := .agg _) rfl rfl) ?_
  refine l_v (v_extract (t := .int _ _) rfl rfl) ?_
  refine l_to (to_alloc (z := (.agg #[.int .i64 0, .slice none 0 0])) (by unfold kZero; kernel_rfl) ?_)
  rintro b12 w12 zb12 HB12 e12 z12
  have zs_e12 := e12.size
  replace E := E.trans (Ext.keep e12)
  replace HG1 := HG1.ext e12
  replace HB11 := HB11.ext e12
  replace HG2 := HG2.ext e12
  try simp only [Value.cells] at HB12
  refine l_to (to_storeA (n := 2) rfl rfl (show _ = (Value.agg _) from rfl) (by kernel_rfl) rfl (by first | (simp [slice_one]; done) | (simp only [List.forall_mem_cons, List.cons_append, List.nil_append]; repeat' (first | exact rfl | apply And.intro | (intro u hu; cases hu; done)))) HB12 (by first | exact of_decide_eq_true rfl | (simp; done) | decide) ?_)
  rintro w102 HX102 k102 z102
  have zs_k102 := k102.size
  replace E := E.step k102 (by intro i hi he; have he0 := he; have hi := hi; have he := he; (try dsimp only [NoK] at hi he ⊢); (try simp only [Value.ownBlock, Option.some.injEq] at he); first | exact he.elim | omega | exact he)
  replace HG1 := HG1.keep k102 (by first | exact fun h => h | (intro h; have he0 := h; have h := h; (try dsimp only at h); (try simp only [Value.ownBlock, Option.some.injEq] at h); (try simp only [add_block] at h); (try simp only [add_block] at he0); first | omega) | (intro i _ hi he; have he0 := he; have hi := hi; have he := he; (try dsimp only [NoK, AllB] at hi he); (try simp only [Value.ownBlock, Option.some.injEq] at he); first | exact hi.elim | exact he.elim | omega | (rcases hi with hi | hi <;> omega) | (rcases he with he | he <;> omega)))
  replace HB11 := HB11.keep k102 (by first | exact fun h => h | (intro h; have he0 := h; have h := h; (try dsimp only at h); (try simp only [Value.ownBlock, Option.some.injEq] at h); (try simp only [add_block] at h); (try simp only [add_block] at he0); first | omega) | (intro i _ hi he; have he0 := he; have hi := hi; have he := he; (try dsimp only [NoK, AllB] at hi he); (try simp only [Value.ownBlock, Option.some.injEq] at he); first | exact hi.elim | exact he.elim | omega | (rcases hi with hi | hi <;> omega) | (rcases he with he | he <;> omega)))
  replace HG2 := HG2.keep k102 (by first | exact fun h => h | (intro h; have he0 := h; have h := h; (try dsimp only at h); (try simp only [Value.ownBlock, Option.some.injEq] at h); (try simp only [add_block] at h); (try simp only [add_block] at he0); first | omega) | (intro i _ hi he; have he0 := he; have hi := hi; have he := he; (try dsimp only [NoK, AllB] at hi he); (try simp only [Value.ownBlock, Option.some.injEq] at he); first | exact hi.elim | exact he.elim | omega | (rcases hi with hi | hi <;> omega) | (rcases he with he | he <;> omega)))
  replace HB12 := HX102
  clear HX102
  try simp only [List.set_cons_zero, List.set_cons_succ, setAt, List.take_zero, List.take_succ_cons, List.drop_zero, List.drop_succ_cons, List.nil_append, List.cons_append, List.append_nil, List.length_cons, List.length_nil, Nat.zero_add, Nat.reduceAdd, List.drop_nil] at HB12
  refine l_v (v_assign (t := .int _ _) rfl) ?_
  refine l_nil ?_
  refine n_then ?_
  refine c_seq ?_
  refine wp_reg (by decide +kernel) ?_
  refine l_v (v_loadA (by kernel_rfl) rfl (by first | exact HB12.pv | exact HB11.pv | assumption) rfl) ?_
  refine l_v (v_loadA (by kernel_rfl) rfl (by first | exact HB12.pv | exact HB11.pv | assumption) rfl) ?_
  refine l_to (to_f2 (by kernel_rfl) (show _ = (Value.agg _) from rfl) (show _ = (Value.agg _) from rfl) (CallsR.mono (refSame_c HG1 HG2) ?_))
  rintro _ w103 ⟨rfl, e103⟩
  have zs_e103 := e103.size
  replace E := E.trans (Ext.keep e103)
  replace HG1 := HG1.ext e103
  replace HB11 := HB11.ext e103
  replace HG2 := HG2.ext e103
  replace HB12 := HB12.ext e103
  refine l_v (v_move (t := .bool _) rfl) ?_
  refine l_g1 rfl rfl (fun hG => v_move (t := .int _ _) rfl) ?_
  refine l_g1f rfl rfl (fun hG => to_f1 (by kernel_rfl) (gd hG rfl) (num_c)) ?_
  rintro w104 e104
  have zs_e104 := e104.size
  replace E := E.trans (Ext.keep e104)
  replace HG1 := HG1.ext e104
  replace HB11 := HB11.ext e104
  replace HG2 := HG2.ext e104
  replace HB12 := HB12.ext e104
  refine l_g1 rfl rfl (fun hG => v_move (t := .int _ _) rfl) ?_
  refine l_g1 rfl rfl (fun hG => v_eql (gd hG rfl) (gd hG rfl)) ?_
  refine l_v (v_and rfl rfl) ?_
  refine l_v (v_move (t := .bool _) rfl) ?_
  refine l_g1f rfl rfl (fun hG => to_f0 (by kernel_rfl) (known_c)) ?_
  rintro w105 e105
  have zs_e105 := e105.size
  replace E := E.trans (Ext.keep e105)
  replace HG1 := HG1.ext e105
  replace HB11 := HB11.ext e105
  replace HG2 := HG2.ext e105
  replace HB12 := HB12.ext e105
  refine l_v (v_and rfl rfl) ?_
  refine l_v (v_assign (t := .bool _) rfl) ?_
  refine l_nil ?_
  refine n_then ?_
  refine c_ret ?_
  refine ret1v rfl (by decide) (show _ = (Value.bool _) from rfl) ?_
  refine ⟨?_, E⟩
  rw [sameM_self]; simp
theorem RangesHas_c {w : World} {F G : Nat → Prop} {v kv : Value} {r : RgV} {k : List UInt8} (HG1 : AgV tRg w F v r) (HS2 : Bv w G kv k) : CallsR Try.prog 6 #[v, kv] w (fun o w' => o = .bool true ∧ Ext w w') := by
  obtain ⟨a1, c1, a2, c2, rfl, HSf, HSt, hg⟩ := HG1.rg
  obtain ⟨a3, c3, rfl⟩ := HS2.shape
  refine enter 27 Try.func6 rfl rfl (by simp) ?_
  refine c_seq ?_
  have E := Keep.refl (K := NoK) w
  replace HG1 := HG1.all
  replace HS2 := HS2.all
  refine wp_reg (by decide +kernel) ?_
  refine l_to (to_box (show _ = (Value.agg _) from rfl) ?_)
  rintro b2 w2 zb2 HB2 e2 z2
  have zs_e2 := e2.size
  replace E := E.trans (Ext.keep e2)
  replace HG1 := HG1.ext e2
  replace HS2 := HS2.ext e2
  try simp only [Value.cells] at HB2
  refine l_v (v_assign rfl) ?_
  refine l_nil ?_
  refine n_then ?_
  refine c_seq ?_
  refine c_seq ?_
  refine wp_reg (by decide +kernel) ?_
  refine l_v (v_fieldAddr (off := 0) (ft := 35) (by kernel_rfl) rfl) ?_
  refine l_v (v_load (by kernel_rfl) rfl (by first | exact HB2.pv 0 _ rfl | assumption)) ?_
  refine l_v (v_len (et := 5) (by kernel_rfl) rfl) ?_
  refine l_v (v_fieldAddr (off := 1) (ft := 35) (by kernel_rfl) rfl) ?_
  refine l_v (v_load (by kernel_rfl) rfl (by first | exact HB2.pv 1 _ rfl | assumption)) ?_
  refine l_v (v_len (et := 5) (by kernel_rfl) rfl) ?_
  refine l_v (v_add rfl rfl (by first | exact wr_i64 (by omega) (by omega) | rfl)) ?_
  refine l_v (v_move (t := .slice _ _ _) rfl) ?_
  refine l_v (v_len (et := 5) (by kernel_rfl) rfl) ?_
  refine l_v (v_add rfl rfl (by first | exact wr_i64 (by omega) (by omega) | rfl)) ?_
  refine l_v (v_gtr rfl rfl) ?_
  refine l_nil ?_
  refine n_then ?_
  refine c_cond rfl rfl (fun hc => ?_) (fun hc => ?_)
  · skip
    refine c_seq ?_
    refine wp_reg (by decide +kernel) ?_
    refine l_to (to_f0 (by kernel_rfl) (CallsR.mono (known_c) ?_))
    rintro _ w101 ⟨rfl, e101⟩
    have zs_e101 := e101.size
    replace E := E.trans (Ext.keep e101)
    replace HG1 := HG1.ext e101
    replace HS2 := HS2.ext e101
    replace HB2 := HB2.ext e101
    refine l_v (v_assign (t := .bool _) rfl) ?_
    refine l_nil ?_
    refine n_then ?_
    refine c_ret ?_
    refine r_then ?_
    refine ret1v rfl (by decide) (show _ = (Value.bool _) from rfl) ?_
    exact ⟨rfl, E⟩
  · skip
    refine c_skip ?_
    refine n_then ?_
    refine c_seq ?_
    refine wp_regd (NoK) (by kernel_rfl) (by decide +kernel) (by decide +kernel) ?_
    refine rt_v (fun vals w hR hd => v_loadA (by kernel_rfl) rfl (by first | exact (HB2.ext hR).pv | assumption) rfl) ?_
    refine rt_v (fun vals w hR hd => v_move (t := .slice _ _ _) rfl) ?_
    refine rt_vf (fun vals w hR hd => to_f2 (by kernel_rfl) (hd 0 rfl) (hd 1 rfl) (Has_c (HG1.ext hR) (HS2.ext hR))) ?_
    refine rt_v (fun vals w hR hd => v_loadA (by kernel_rfl) rfl (by first | exact (HB2.ext hR).pv | assumption) rfl) ?_
    refine rt_v (fun vals w hR hd => v_move (t := .slice _ _ _) rfl) ?_
    refine rt_vf (fun vals w hR hd => to_f2 (by kernel_rfl) (hd 3 rfl) (hd 4 rfl) (refHas_c (HG1.ext hR) (HS2.ext hR))) ?_
    refine rt_v (fun vals w hR hd => v_beql (by kernel_rfl) (hd 2 rfl) (hd 5 rfl)) ?_
    refine rt_v (fun vals w hR hd => v_move (t := .bool _) (hd 6 rfl)) ?_
    refine rt_g1f rfl (fun vals w hd => hd 7 rfl) (fun vals w hR hd hG => to_f0 (by kernel_rfl) (known_c)) ?_
    refine rt_v (fun vals w hR hd => v_and (hd 7 rfl) (hd 8 rfl)) ?_
    refine rt_v (fun vals w hR hd => v_assign (t := .bool _) (hd 9 rfl)) ?_
    refine rt_nil (fun w102 e102 => ?_)
    rintro _ rfl _ rfl _ rfl _ rfl _ rfl _ rfl _ rfl _ rfl _ rfl _ rfl _ rfl
    have zs_e102 := e102.size
    replace E := E.trans (Ext.keep e102)
    replace HG1 := HG1.ext e102
    replace HS2 := HS2.ext e102
    replace HB2 := HB2.ext e102
    refine fin_nil ?_
    refine n_then ?_
    refine c_ret ?_
    refine ret1v rfl (by decide) (show _ = (Value.bool _) from rfl) ?_
    refine ⟨?_, E⟩
    simp
end Go.Proofs.Ytkaangdfpjkjpaa
