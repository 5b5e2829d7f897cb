/- A part of the proof: steps and lemmas for the walks through the given program. -/
import Derived.Test.YtaidpdjlchnonaaN14
import Derived.Test.YtaidpdjlchnonaaGn
namespace Go.Proofs.Ytaidpdjlchnonaa
open Go.Vc
set_option linter.unusedVariables false
set_option linter.unusedSimpArgs false
set_option maxRecDepth 100000

theorem vote_w : msW (voteM 0 1) = [1, 0, 1, 0, 1, 0, 0] := by decide +kernel
set_option maxHeartbeats 4000000 in
theorem known_c {w : World} : CallsR Try.prog 12 #[] w (fun o w' => o = .bool true ∧ Ext w w') := by
  have h01 := i64_0
  have h11 := i64_1
  refine enter 145 Try.func12 rfl rfl (by simp) ?_
  refine c_seq ?_
  have E := Keep.refl (K := NoK) w
  refine wp_reg (by decide +kernel) ?_
  refine l_v (v_assign rfl) ?_
  refine l_nil ?_
  refine n_then ?_
  refine c_seq ?_
  refine wp_reg (by decide +kernel) ?_
  refine l_to (to_f2 (by kernel_rfl) (show _ = (Value.int _ _) from rfl) (show _ = (Value.int _ _) from rfl) (CallsR.mono (vote_c) ?_))
  rintro _ w101 ⟨rfl, e101⟩
  have zs_e101 := e101.size
  replace E := E.trans (Ext.keep e101)
  refine l_to (to_alloc (z := (.agg #[.int .i64 0, .int .i64 0, .int .i64 0, .int .i64 0, .int .i64 0, .int .i64 0, .int .i64 0, .int .i64 0, .slice none 0 0, .bool false, .slice none 0 0])) (by unfold kZero; kernel_rfl) ?_)
  rintro b1 w1 zb1 HB1 e1 z1
  have zs_e1 := e1.size
  replace E := E.trans (Ext.keep e1)
  try simp only [Value.cells] at HB1
  refine l_to (to_storeA (n := 11) rfl rfl (show _ = (Value.agg _) from rfl) (by kernel_rfl) rfl (by first | (simp [slice_one]; done) | (simp only [List.forall_mem_cons, List.cons_append, List.nil_append]; repeat' (first | exact rfl | apply And.intro | (intro u hu; cases hu; done)))) HB1 (by first | exact of_decide_eq_true rfl | (simp; done) | decide) ?_)
  rintro w102 HX102 k102 z102
  have zs_k102 := k102.size
  replace E := E.step k102 (by intro i hi he; (try dsimp only [NoK] at hi he ⊢); first | exact he.elim | omega | exact he)
  replace HB1 := HX102
  clear HX102
  try simp only [List.set_cons_zero, List.set_cons_succ, setAt, List.take_zero, List.take_succ_cons, List.drop_zero, List.drop_succ_cons, List.nil_append, List.cons_append, List.append_nil, List.length_cons, List.length_nil, Nat.zero_add, Nat.reduceAdd, List.drop_nil] at HB1
  refine l_nil ?_
  refine n_then ?_
  refine c_seq ?_
  refine wp_reg (by decide +kernel) ?_
  refine l_v (v_loadA (by kernel_rfl) rfl (by first | exact HB1.pv | assumption) rfl) ?_
  refine l_to (to_f1 (by kernel_rfl) (show _ = (Value.agg _) from rfl) (CallsR.mono (mBytes_c (F := NoK) (vote_ag i64_0 i64_1)) ?_))
  rintro _ w2 ⟨⟨x2, rfl, HS2⟩, e2⟩
  have zs_e2 := e2.size
  rw [if_pos may_vote] at HS2 ⊢
  replace HS2 := HS2.all
  obtain ⟨a2, c2, rfl⟩ := HS2.shape
  replace E := E.trans (Ext.keep e2)
  replace HB1 := HB1.ext e2
  refine l_v (v_move (t := .tuple _) rfl) ?_
  refine l_v (v_extract (t := .slice _ _ _) rfl rfl) ?_
  refine l_v (v_extract (t := .int _ _) rfl rfl) ?_
  refine l_v (v_assign (t := .slice _ _ _) rfl) ?_
  refine l_v (v_assign (t := .int _ _) rfl) ?_
  refine l_nil ?_
  refine n_then ?_
  refine c_seq ?_
  refine wp_reg (by decide +kernel) ?_
  refine l_to (to_f0 (by kernel_rfl) (CallsR.mono (New_c) ?_))
  rintro _ w4 ⟨b4, hb4, rfl, HB4, z4, e4⟩
  have zs_e4 := e4.size
  replace E := E.trans (Ext.keep e4)
  replace HB1 := HB1.ext e4
  replace HS2 := HS2.ext e4
  refine l_v (v_assign (t := .pointer _) rfl) ?_
  refine l_nil ?_
  refine n_then ?_
  refine c_seq ?_
  refine c_seq ?_
  refine wp_reg (by decide +kernel) ?_
  refine l_v (v_move (t := .pointer _) rfl) ?_
  refine l_v (v_peql (et := 68) (by kernel_rfl) rfl rfl) ?_
  refine l_nil ?_
  refine n_then ?_
  refine c_cond rfl rfl (fun hn => ?_) (fun hn => ?_)
  · skip
    cases hn
  · skip
    refine c_skip ?_
    refine n_then ?_
    refine c_seq ?_
    refine wp_reg (by decide +kernel) ?_
    refine l_v (v_move (t := .pointer _) rfl) ?_
    refine l_v (v_loadA (by kernel_rfl) rfl (by first | exact HB4.pv | exact HB1.pv | assumption) rfl) ?_
    refine l_v (v_loadA (by kernel_rfl) rfl (by first | exact HB4.pv | exact HB1.pv | assumption) rfl) ?_
    refine l_to (to_sliceN (t := tMs) (xs := [voteM 0 1, voteM 0 1]) (et := 26) (bytes := 120) (zl := [.int .i64 0, .int .i64 0, .int .i64 0, .int .i64 0, .int .i64 0, .int .i64 0, .int .i64 0, .int .i64 0, .slice none 0 0, .bool false, .slice none 0 0, .int .i64 0, .int .i64 0, .int .i64 0, .int .i64 0, .int .i64 0, .int .i64 0, .int .i64 0, .int .i64 0, .slice none 0 0, .bool false, .slice none 0 0]) (by kernel_rfl) (by decide) (by decide) (by unfold kZeros; kernel_rfl) rfl (cells := [_, _, _, _, _, _, _, _, _, _, _, _, _, _, _, _, _, _, _, _, _, _]) rfl rfl rfl ((reps2 (t := tMs) (vote_rep (F := NoK) i64_0 i64_1) (vote_rep i64_0 i64_1))) ?_)
    rintro b32 w32 zb32 HO32 e32 z32
    have zs_e32 := e32.size
    replace E := E.trans (Ext.keep e32)
    replace HB1 := HB1.ext e32
    replace HS2 := HS2.ext e32
    replace HB4 := HB4.ext e32
    have zo_HO32 := fun (b : Nat) h => HO32.own_lt (b := b) h
    refine l_to (to_f2 (by kernel_rfl) (show _ = (Value.pointer _) from rfl) (show _ = (Value.slice _ _ _) from rfl) (CallsR.mono (Send_c (ms := []) (lost := 0) (G := NoK) HB4 (SlV.nil _ _ _) HO32.view (fun i h => h.elim) (by decide) (by decide) (by decide) (by decide)) ?_))
    rintro _ w5 ⟨rfl, ⟨a5, c5, HB4, HS5⟩, k5⟩
    have zs_k5 := k5.size
    replace HS5 := HS5.mono (F' := fun i => b4 < i ∧ i < w5.heap.size) (fun i hi h => Or.elim h (fun h => h.elim) (fun h => by omega))
    replace E := E.step k5 (by intro i hi he; (try dsimp only [NoK] at hi he ⊢); first | exact he.elim | omega | exact he)
    replace HB1 := HB1.keep k5 (by intro h; (try dsimp only at h); first | omega)
    replace HS2 := HS2.keep k5 (by intro i _ hi he; (try dsimp only [NoK, AllB] at hi he); first | exact hi.elim | exact he.elim | omega | (rcases hi with hi | hi <;> omega) | (rcases he with he | he <;> omega))
    replace HO32 := HO32.keep k5 (by intro i ho he; have he0 := he; have ho0 := ho; (try dsimp only [NoK] at he); (try simp only [Value.ownBlock, Option.some.injEq, reduceCtorEq] at ho); (try simp only [Value.ownBlock, Option.some.injEq, reduceCtorEq] at he); first | exact he.elim | exact ho.elim | omega | (have := zo_HO32 _ ho0; omega)) (by intro i _ hi _ he; have he0 := he; have hi := hi; have he := he; (try dsimp only [NoK, AllB] at hi he); (try simp only [Value.ownBlock, Option.some.injEq, reduceCtorEq] at he); all_goals first | exact hi.elim | exact hi.1.elim | exact he.elim | omega | (rcases hi with hi | hi <;> omega) | (rcases he with he | he <;> omega))
    refine l_v (v_move (t := .tuple _) rfl) ?_
    refine l_v (v_extract (t := .int _ _) rfl rfl) ?_
    refine l_v (v_extract (t := .int _ _) rfl rfl) ?_
    refine l_v (v_assign (t := .int _ _) rfl) ?_
    refine l_v (v_assign (t := .int _ _) rfl) ?_
    refine l_nil ?_
    refine n_then ?_
    refine c_seq ?_
    refine wp_reg (by decide +kernel) ?_
    refine l_v (v_move (t := .pointer _) rfl) ?_
    refine l_to (to_f2 (by kernel_rfl) (show _ = (Value.pointer _) from rfl) (show _ = (Value.int _ _) from rfl) (CallsR.mono (Double_c (ms := [voteM 0 1, voteM 0 1]) (m := voteM 0 1) (lost := 0) (n := 1) HB4 HS5 (fun i h => by omega) (by decide) (by decide) rfl may_vote (by decide)) ?_))
    rintro _ w6 ⟨rfl, ⟨a6, c6, HB4, HS6⟩, k6⟩
    have zs_k6 := k6.size
    replace HS6 := HS6.mono (F' := fun i => b4 < i ∧ i < w6.heap.size) (fun i hi h => Or.elim h (fun h => by omega) (fun h => by omega))
    replace E := E.step k6 (by intro i hi he; (try dsimp only [NoK] at hi he ⊢); first | exact he.elim | omega | exact he)
    replace HB1 := HB1.keep k6 (by intro h; (try dsimp only at h); first | omega)
    replace HS2 := HS2.keep k6 (by intro i _ hi he; (try dsimp only [NoK, AllB] at hi he); first | exact hi.elim | exact he.elim | omega | (rcases hi with hi | hi <;> omega) | (rcases he with he | he <;> omega))
    replace HS5 := HS5.keep k6 (by intro i _ hi he; (try dsimp only [NoK, AllB] at hi he); first | exact hi.elim | exact he.elim | omega | (rcases hi with hi | hi <;> omega) | (rcases he with he | he <;> omega))
    refine l_v (v_assign (t := .int _ _) rfl) ?_
    refine l_nil ?_
    refine n_then ?_
    refine c_seq ?_
    refine wp_reg (by decide +kernel) ?_
    refine l_v (v_move (t := .pointer _) rfl) ?_
    refine l_to (to_f1 (by kernel_rfl) (show _ = (Value.pointer _) from rfl) (CallsR.mono (Len_c (ms := [voteM 0 1, voteM 0 1, voteM 0 1]) HB4 HS6 may3) ?_))
    rintro _ w103 ⟨rfl, e103⟩
    have zs_e103 := e103.size
    replace E := E.trans (Ext.keep e103)
    replace HB1 := HB1.ext e103
    replace HS2 := HS2.ext e103
    replace HB4 := HB4.ext e103
    replace HS6 := HS6.ext e103
    refine l_v (v_assign (t := .int _ _) rfl) ?_
    refine l_nil ?_
    refine n_then ?_
    refine c_seq ?_
    refine wp_reg (by decide +kernel) ?_
    refine l_v (v_move (t := .pointer _) rfl) ?_
    refine l_to (to_f2 (by kernel_rfl) (show _ = (Value.pointer _) from rfl) (show _ = (Value.int _ _) from rfl) (CallsR.mono (Take_c (ms := [voteM 0 1, voteM 0 1, voteM 0 1]) (m := voteM 0 1) (n := 0) HB4 HS6 (fun i h => by omega) (by decide) (by decide) rfl may_vote) ?_))
    rintro _ w9 ⟨⟨v9, rfl, HG9⟩, ⟨a9, c9, HB4, HS9⟩, k9⟩
    have zs_k9 := k9.size
    replace HS9 := HS9.mono (F' := fun i => b4 < i ∧ i < w9.heap.size) (fun i hi h => Or.elim h (fun h => by omega) (fun h => by omega))
    replace HG9 := HG9.mono (F' := fun i => b4 < i ∧ i < w9.heap.size) (fun i hi h => by omega)
    obtain ⟨a10, c10, a11, c11, rfl, _, _, _⟩ := HG9.ms
    replace E := E.step k9 (by intro i hi he; (try dsimp only [NoK] at hi he ⊢); first | exact he.elim | omega | exact he)
    replace HB1 := HB1.keep k9 (by intro h; (try dsimp only at h); first | omega)
    replace HS2 := HS2.keep k9 (by intro i _ hi he; (try dsimp only [NoK, AllB] at hi he); first | exact hi.elim | exact he.elim | omega | (rcases hi with hi | hi <;> omega) | (rcases he with he | he <;> omega))
    replace HS6 := HS6.keep k9 (by intro i _ hi he; (try dsimp only [NoK, AllB] at hi he); first | exact hi.elim | exact he.elim | omega | (rcases hi with hi | hi <;> omega) | (rcases he with he | he <;> omega))
    refine l_v (v_move (t := .tuple _) rfl) ?_
    refine l_v (v_extract (t := .agg _) rfl rfl) ?_
    refine l_v (v_extract (t := .int _ _) rfl rfl) ?_
    refine l_to (to_alloc (z := (.agg #[.int .i64 0, .int .i64 0, .int .i64 0, .int .i64 0, .int .i64 0, .int .i64 0, .int .i64 0, .int .i64 0, .slice none 0 0, .bool false, .slice none 0 0])) (by unfold kZero; kernel_rfl) ?_)
    rintro b9 w10 zb9 HB9 e10 z10
    have zs_e10 := e10.size
    replace E := E.trans (Ext.keep e10)
    replace HB1 := HB1.ext e10
    replace HS2 := HS2.ext e10
    replace HG9 := HG9.ext e10
    replace HB4 := HB4.ext e10
    replace HS9 := HS9.ext e10
    try simp only [Value.cells] at HB9
    refine l_to (to_storeA (n := 11) rfl rfl (show _ = (Value.agg _) from rfl) (by kernel_rfl) rfl (by first | (simp [slice_one]; done) | (simp only [List.forall_mem_cons, List.cons_append, List.nil_append]; repeat' (first | exact rfl | apply And.intro | (intro u hu; cases hu; done)))) HB9 (by first | exact of_decide_eq_true rfl | (simp; done) | decide) ?_)
    rintro w104 HX104 k104 z104
    have zs_k104 := k104.size
    replace E := E.step k104 (by intro i hi he; (try dsimp only [NoK] at hi he ⊢); first | exact he.elim | omega | exact he)
    replace HB1 := HB1.keep k104 (by intro h; (try dsimp only at h); first | omega)
    replace HS2 := HS2.keep k104 (by intro i _ hi he; (try dsimp only [NoK, AllB] at hi he); first | exact hi.elim | exact he.elim | omega | (rcases hi with hi | hi <;> omega) | (rcases he with he | he <;> omega))
    replace HG9 := HG9.keep k104 (by intro i _ hi he; (try dsimp only [NoK, AllB] at hi he); first | exact hi.elim | exact he.elim | omega | (rcases hi with hi | hi <;> omega) | (rcases he with he | he <;> omega))
    replace HB4 := HB4.keep k104 (by intro h; (try dsimp only at h); first | omega)
    replace HS9 := HS9.keep k104 (by intro i _ hi he; (try dsimp only [NoK, AllB] at hi he); first | exact hi.elim | exact he.elim | omega | (rcases hi with hi | hi <;> omega) | (rcases he with he | he <;> omega))
    replace HB9 := HX104
    clear HX104
    try simp only [List.set_cons_zero, List.set_cons_succ, setAt, List.take_zero, List.take_succ_cons, List.drop_zero, List.drop_succ_cons, List.nil_append, List.cons_append, List.append_nil, List.length_cons, List.length_nil, Nat.zero_add, Nat.reduceAdd, List.drop_nil] at HB9
    refine l_v (v_assign (t := .int _ _) rfl) ?_
    refine l_nil ?_
    refine n_then ?_
    refine c_seq ?_
    refine wp_reg (by decide +kernel) ?_
    refine l_v (v_move (t := .pointer _) rfl) ?_
    refine l_to (to_f2 (by kernel_rfl) (show _ = (Value.pointer _) from rfl) (show _ = (Value.int _ _) from rfl) (CallsR.mono (To_c (ms := [voteM 0 1, voteM 0 1]) (node := 1) HB4 HS9 may2 (by decide)) ?_))
    rintro _ w11 ⟨⟨a12, c12, rfl, HS11⟩, e11⟩
    have zs_e11 := e11.size
    replace HS11 := HS11.mono (F' := fun i => b4 < i ∧ i < w11.heap.size) (fun i hi h => by omega)
    replace E := E.trans (Ext.keep e11)
    replace HB1 := HB1.ext e11
    replace HS2 := HS2.ext e11
    replace HG9 := HG9.ext e11
    replace HB4 := HB4.ext e11
    replace HS9 := HS9.ext e11
    replace HB9 := HB9.ext e11
    refine l_v (v_assign (t := .slice _ _ _) rfl) ?_
    refine l_nil ?_
    refine n_then ?_
    refine c_seq ?_
    refine wp_reg (by decide +kernel) ?_
    refine l_v (v_move (t := .pointer _) rfl) ?_
    refine l_to (to_f2 (by kernel_rfl) (show _ = (Value.pointer _) from rfl) (show _ = (Value.int _ _) from rfl) (CallsR.mono (Drop_no (k := 2) HB4 (by decide)) ?_))
    rintro _ w105 ⟨rfl, e105⟩
    have zs_e105 := e105.size
    replace E := E.trans (Ext.keep e105)
    replace HB1 := HB1.ext e105
    replace HS2 := HS2.ext e105
    replace HG9 := HG9.ext e105
    replace HB4 := HB4.ext e105
    replace HS9 := HS9.ext e105
    replace HB9 := HB9.ext e105
    replace HS11 := HS11.ext e105
    refine l_v (v_assign (t := .int _ _) rfl) ?_
    refine l_nil ?_
    refine n_then ?_
    refine c_seq ?_
    refine wp_reg (by decide +kernel) ?_
    refine l_v (v_move (t := .pointer _) rfl) ?_
    refine l_to (to_f2 (by kernel_rfl) (show _ = (Value.int _ _) from rfl) (show _ = (Value.int _ _) from rfl) (CallsR.mono (vote_c) ?_))
    rintro _ w106 ⟨rfl, e106⟩
    have zs_e106 := e106.size
    replace E := E.trans (Ext.keep e106)
    replace HB1 := HB1.ext e106
    replace HS2 := HS2.ext e106
    replace HG9 := HG9.ext e106
    replace HB4 := HB4.ext e106
    replace HS9 := HS9.ext e106
    replace HB9 := HB9.ext e106
    replace HS11 := HS11.ext e106
    refine l_to (to_slice1 (t := tMs) (et := 26) (bytes := 120) (by kernel_rfl) (by decide) (show _ = (Value.agg _) from rfl) (vote_rep (F := NoK) i64_0 i64_0) ?_)
    rintro b52 w52 zb52 HO52 e52 z52
    have zs_e52 := e52.size
    replace E := E.trans (Ext.keep e52)
    replace HB1 := HB1.ext e52
    replace HS2 := HS2.ext e52
    replace HG9 := HG9.ext e52
    replace HB4 := HB4.ext e52
    replace HS9 := HS9.ext e52
    replace HB9 := HB9.ext e52
    replace HS11 := HS11.ext e52
    have zo_HO52 := fun (b : Nat) h => HO52.own_lt (b := b) h
    refine l_to (to_f2 (by kernel_rfl) (show _ = (Value.pointer _) from rfl) (show _ = (Value.slice _ _ _) from rfl) (CallsR.mono (Send_no HB4 HO52.view mayno) ?_))
    rintro _ w107 ⟨rfl, e107⟩
    have zs_e107 := e107.size
    replace E := E.trans (Ext.keep e107)
    replace HB1 := HB1.ext e107
    replace HS2 := HS2.ext e107
    replace HG9 := HG9.ext e107
    replace HB4 := HB4.ext e107
    replace HS9 := HS9.ext e107
    replace HB9 := HB9.ext e107
    replace HS11 := HS11.ext e107
    replace HO52 := HO52.ext e107
    refine l_v (v_move (t := .tuple _) rfl) ?_
    refine l_v (v_extract (t := .int _ _) rfl rfl) ?_
    refine l_v (v_extract (t := .int _ _) rfl rfl) ?_
    refine l_v (v_assign (t := .int _ _) rfl) ?_
    refine l_v (v_assign (t := .int _ _) rfl) ?_
    refine l_nil ?_
    refine n_then ?_
    refine c_seq ?_
    refine wp_reg (by decide +kernel) ?_
    refine l_to (to_makeA (et := 26) (bytes := 120) (by kernel_rfl) (t := tMs) (z := msZ) (n := 256) (zv := (.agg #[.int .i64 0, .int .i64 0, .int .i64 0, .int .i64 0, .int .i64 0, .int .i64 0, .int .i64 0, .int .i64 0, .slice none 0 0, .bool false, .slice none 0 0])) rfl rfl (by omega) (by simp only [maxLen]; omega) (by unfold kZero; kernel_rfl) rfl (fun _ _ => zero_rep) ?_)
    rintro b15 w15 zb15 HO15 e15 z15
    have zs_e15 := e15.size
    replace E := E.trans (Ext.keep e15)
    replace HB1 := HB1.ext e15
    replace HS2 := HS2.ext e15
    replace HG9 := HG9.ext e15
    replace HB4 := HB4.ext e15
    replace HS9 := HS9.ext e15
    replace HB9 := HB9.ext e15
    replace HS11 := HS11.ext e15
    have zo_HO15 := fun (b : Nat) h => HO15.own_lt (b := b) h
    refine l_v (v_assign (t := .slice _ _ _) rfl) ?_
    refine l_nil ?_
    refine n_then ?_
    refine c_seq ?_
    refine c_seq ?_
    refine wp_reg (by decide +kernel) ?_
    refine l_v (v_assign rfl) ?_
    refine l_nil ?_
    refine n_then ?_
    refine c_block ?_
    refine c_loop (τ := Nat) [16, 57, 58, 59, 60, 61, 62, 63, 64] (fun i => [(16, .int .i64 i)]) (fun i W => Ext w W ∧ Keep (fun b => b = b15) w15 W ∧ i ≤ 256 ∧ OwV tMs 26 W b15 NoK (.slice (some ⟨b15, 0, none⟩) 256 256) (List.replicate i (voteM 0 1) ++ List.replicate (256 - i) msZ)) (fun i => 256 - i) 0 (by exact ⟨rfl, trivial⟩) (by exact ⟨E, Keep.refl _, Nat.zero_le _, HO15⟩) ?_
    rintro i w108 j ⟨E, EL1, h1, HOx⟩
    have zs_EL1 := EL1.size
    replace HB1 := HB1.keep EL1 (by intro h; (try dsimp only at h); first | omega)
    replace HS2 := HS2.keep EL1 (by intro i _ hi he; (try dsimp only [NoK, AllB] at hi he); first | exact hi.elim | exact he.elim | omega | (rcases hi with hi | hi <;> omega) | (rcases he with he | he <;> omega))
    replace HG9 := HG9.keep EL1 (by intro i _ hi he; (try dsimp only [NoK, AllB] at hi he); first | exact hi.elim | exact he.elim | omega | (rcases hi with hi | hi <;> omega) | (rcases he with he | he <;> omega))
    replace HB4 := HB4.keep EL1 (by intro h; (try dsimp only at h); first | omega)
    replace HS9 := HS9.keep EL1 (by intro i _ hi he; (try dsimp only [NoK, AllB] at hi he); first | exact hi.elim | exact he.elim | omega | (rcases hi with hi | hi <;> omega) | (rcases he with he | he <;> omega))
    replace HB9 := HB9.keep EL1 (by intro h; (try dsimp only at h); first | omega)
    replace HS11 := HS11.keep EL1 (by intro i _ hi he; (try dsimp only [NoK, AllB] at hi he); first | exact hi.elim | exact he.elim | omega | (rcases hi with hi | hi <;> omega) | (rcases he with he | he <;> omega))
    have zo_HOx := fun (b : Nat) h => HOx.own_lt (b := b) h
    refine c_seq ?_
    refine c_seq ?_
    refine wp_reg (by decide +kernel) ?_
    refine l_v (v_move (t := .int _ _) rfl) ?_
    refine l_v (v_lss rfl rfl) ?_
    refine l_nil ?_
    refine n_then ?_
    refine c_cond rfl rfl (fun hlt => ?_) (fun hlt => ?_)
    · skip
      have hlt := dtrue hlt
      refine c_skip ?_
      refine n_then ?_
      refine c_seq ?_
      refine c_block ?_
      refine wp_reg (by decide +kernel) ?_
      refine l_v (v_move (t := .slice _ _ _) rfl) ?_
      refine l_v (v_move (t := .int _ _) rfl) ?_
      refine l_v (v_loadA (by kernel_rfl) rfl (by first | exact HB9.pv | exact HB4.pv | exact HB1.pv | assumption) rfl) ?_
      refine l_v (v_indexAddr (et := 26) (sz := 11) (k := i) (by kernel_rfl) (by kernel_rfl) rfl rfl (by first | rfl | omega) (by omega)) ?_
      refine l_to (to_storeOA (k := i) rfl (by rw [show tMs.sz = 11 from rfl]; simp [add_lit]) (show _ = (Value.agg _) from rfl) (by kernel_rfl) HOx (by simp; omega) (vote_rep i64_0 i64_1) ?_)
      rintro w16 HO16 k16 z16
      have zs_k16 := k16.size
      replace E := E.step k16 (by intro i hi he; (try dsimp only [NoK] at hi he ⊢); first | exact he.elim | omega | exact he)
      replace HB1 := HB1.keep k16 (by intro h; (try dsimp only at h); first | omega)
      replace HS2 := HS2.keep k16 (by intro i _ hi he; (try dsimp only [NoK, AllB] at hi he); first | exact hi.elim | exact he.elim | omega | (rcases hi with hi | hi <;> omega) | (rcases he with he | he <;> omega))
      replace HG9 := HG9.keep k16 (by intro i _ hi he; (try dsimp only [NoK, AllB] at hi he); first | exact hi.elim | exact he.elim | omega | (rcases hi with hi | hi <;> omega) | (rcases he with he | he <;> omega))
      replace HB4 := HB4.keep k16 (by intro h; (try dsimp only at h); first | omega)
      replace HS9 := HS9.keep k16 (by intro i _ hi he; (try dsimp only [NoK, AllB] at hi he); first | exact hi.elim | exact he.elim | omega | (rcases hi with hi | hi <;> omega) | (rcases he with he | he <;> omega))
      replace HB9 := HB9.keep k16 (by intro h; (try dsimp only at h); first | omega)
      replace HS11 := HS11.keep k16 (by intro i _ hi he; (try dsimp only [NoK, AllB] at hi he); first | exact hi.elim | exact he.elim | omega | (rcases hi with hi | hi <;> omega) | (rcases he with he | he <;> omega))
      replace EL1 := EL1.step k16 (by intro i hi he; (try dsimp only [NoK] at hi he ⊢); first | exact he.elim | omega | exact he)
      have zo_HO16 := fun (b : Nat) h => HO16.own_lt (b := b) h
      refine l_nil ?_
      refine n_blk ?_
      refine n_then ?_
      refine wp_reg (by decide +kernel) ?_
      refine l_v (v_move (t := .int _ _) rfl) ?_
      refine l_v (v_add rfl rfl (by first | exact wr_i64 (by omega) (by omega) | rfl)) ?_
      refine l_v (v_assign (t := .int _ _) rfl) ?_
      refine l_nil ?_
      refine n_then ?_
      refine ⟨i + 1, _, rfl, by (repeat (first | exact Off.of_over _ _ _ | refine Off.upd ?_ (by decide) _ | refine Off.overs ?_ (by decide) _)), ⟨by first | rfl | exact congrArg (Value.int _) (by omega) | (simp; done), trivial⟩, ⟨E, EL1, ?_⟩, ?_⟩
      · skip
        refine ⟨by omega, ?_⟩
        rw [many_set (by omega)] at HO16
        exact HO16
      · (dsimp only; omega)
    · skip
      have hi : i = 256 := by have := dfalse hlt; omega
      subst hi
      have HO17 : OwV tMs 26 w108 b15 NoK (.slice (some ⟨b15, 0, none⟩) 256 256) (List.replicate 256 (voteM 0 1)) := by have h := HOx; rw [show (256 - 256) = 0 from rfl, List.replicate_zero, List.append_nil] at h; exact h
      have zo_HO17 := fun (b : Nat) h => HO17.own_lt (b := b) h
      refine c_exit ?_
      refine x_then ?_
      refine x_then ?_
      refine x_hit ?_
      refine n_then ?_
      refine c_seq ?_
      refine wp_reg (by decide +kernel) ?_
      refine l_v (v_move (t := .pointer _) rfl) ?_
      refine l_v (v_move (t := .slice _ _ _) rfl) ?_
      refine l_to (to_f2 (by kernel_rfl) (show _ = (Value.pointer _) from rfl) (show _ = (Value.slice _ _ _) from rfl) (CallsR.mono (Send_c (ms := [voteM 0 1, voteM 0 1]) (ls := List.replicate 256 (voteM 0 1)) (lost := 0) HB4 HS9 HO17.view (fun i h => by omega) (by decide) (by simp) (mayr 256) (by decide)) ?_))
      rintro _ w18 ⟨rfl, ⟨a18, c18, HB4, HS18⟩, k18⟩
      have zs_k18 := k18.size
      rw [send_many] at HB4 HS18
      replace HS18 := HS18.mono (F' := fun i => b4 < i ∧ i < w18.heap.size) (fun i hi h => Or.elim h (fun h => by omega) (fun h => by omega))
      replace E := E.step k18 (by intro i hi he; (try dsimp only [NoK] at hi he ⊢); first | exact he.elim | omega | exact he)
      replace HB1 := HB1.keep k18 (by intro h; (try dsimp only at h); first | omega)
      replace HS2 := HS2.keep k18 (by intro i _ hi he; (try dsimp only [NoK, AllB] at hi he); first | exact hi.elim | exact he.elim | omega | (rcases hi with hi | hi <;> omega) | (rcases he with he | he <;> omega))
      replace HG9 := HG9.keep k18 (by intro i _ hi he; (try dsimp only [NoK, AllB] at hi he); first | exact hi.elim | exact he.elim | omega | (rcases hi with hi | hi <;> omega) | (rcases he with he | he <;> omega))
      replace HS9 := HS9.keep k18 (by intro i _ hi he; (try dsimp only [NoK, AllB] at hi he); first | exact hi.elim | exact he.elim | omega | (rcases hi with hi | hi <;> omega) | (rcases he with he | he <;> omega))
      replace HB9 := HB9.keep k18 (by intro h; (try dsimp only at h); first | omega)
      replace HS11 := HS11.keep k18 (by intro i _ hi he; (try dsimp only [NoK, AllB] at hi he); first | exact hi.elim | exact he.elim | omega | (rcases hi with hi | hi <;> omega) | (rcases he with he | he <;> omega))
      replace HO17 := HO17.keep k18 (by intro i ho he; have he0 := he; have ho0 := ho; (try dsimp only [NoK] at he); (try simp only [Value.ownBlock, Option.some.injEq, reduceCtorEq] at ho); (try simp only [Value.ownBlock, Option.some.injEq, reduceCtorEq] at he); first | exact he.elim | exact ho.elim | omega | (have := zo_HO17 _ ho0; omega)) (by intro i _ hi _ he; have he0 := he; have hi := hi; have he := he; (try dsimp only [NoK, AllB] at hi he); (try simp only [Value.ownBlock, Option.some.injEq, reduceCtorEq] at he); all_goals first | exact hi.elim | exact hi.1.elim | exact he.elim | omega | (rcases hi with hi | hi <;> omega) | (rcases he with he | he <;> omega))
      obtain ⟨q0, cs0, hq0, _, _, HP0, hr0⟩ := HS11.el (k := 0) (x := 0) rfl
      obtain ⟨q1, cs1, hq1, _, _, HP1, hr1⟩ := HS11.el (k := 1) (x := 1) rfl
      subst hq0
      cases hq1
      obtain ⟨rfl, _⟩ := hr0
      obtain ⟨rfl, _⟩ := hr1
      refine l_v (v_move (t := .tuple _) rfl) ?_
      refine l_v (v_extract (t := .int _ _) rfl rfl) ?_
      refine l_v (v_extract (t := .int _ _) rfl rfl) ?_
      refine l_v (v_assign (t := .int _ _) rfl) ?_
      refine l_v (v_assign (t := .int _ _) rfl) ?_
      refine l_nil ?_
      refine n_then ?_
      refine c_seq ?_
      refine wp_reg (by decide +kernel) ?_
      refine l_v (v_move (t := .slice _ _ _) rfl) ?_
      refine l_v (v_b2s (et := 5) (by kernel_rfl) (by kernel_rfl) (by kernel_rfl) rfl (by first | exact HS18 | exact HS11 | exact HS2 | assumption)) ?_
      refine l_v (OpVat.as (b := true) (v_seq rfl rfl) (by rw [vote_w]; rfl)) ?_
      refine l_v (v_move (t := .bool _) rfl) ?_
      refine l_gt rfl rfl (OpTo.of_v (v_move (t := .int _ _) rfl) ?_)
      refine l_gt rfl rfl (to_f1 (by kernel_rfl) (show _ = (Value.int _ _) from rfl) (CallsR.mono (num_c) ?_))
      rintro _ w109 ⟨rfl, e109⟩
      have zs_e109 := e109.size
      replace E := E.trans (Ext.keep e109)
      replace HB1 := HB1.ext e109
      replace HS2 := HS2.ext e109
      replace HG9 := HG9.ext e109
      replace HB9 := HB9.ext e109
      replace HS11 := HS11.ext e109
      replace HB4 := HB4.ext e109
      replace HS18 := HS18.ext e109
      replace HP0 := HP0.ext e109
      replace HP1 := HP1.ext e109
      refine l_gt rfl rfl (OpTo.of_v (v_move (t := .int _ _) rfl) ?_)
      refine l_gt rfl rfl (to_f1 (by kernel_rfl) (show _ = (Value.int _ _) from rfl) (CallsR.mono (num_c) ?_))
      rintro _ w110 ⟨rfl, e110⟩
      have zs_e110 := e110.size
      replace E := E.trans (Ext.keep e110)
      replace HB1 := HB1.ext e110
      replace HS2 := HS2.ext e110
      replace HG9 := HG9.ext e110
      replace HB9 := HB9.ext e110
      replace HS11 := HS11.ext e110
      replace HB4 := HB4.ext e110
      replace HS18 := HS18.ext e110
      replace HP0 := HP0.ext e110
      replace HP1 := HP1.ext e110
      refine l_gt rfl rfl (OpTo.of_v (v_add rfl rfl (by first | exact wr_i64 (by omega) (by omega) | rfl)) ?_)
      refine l_gt rfl rfl (OpTo.of_v (v_move (t := .int _ _) rfl) ?_)
      refine l_gt rfl rfl (to_f1 (by kernel_rfl) (show _ = (Value.int _ _) from rfl) (CallsR.mono (num_c) ?_))
      rintro _ w111 ⟨rfl, e111⟩
      have zs_e111 := e111.size
      replace E := E.trans (Ext.keep e111)
      replace HB1 := HB1.ext e111
      replace HS2 := HS2.ext e111
      replace HG9 := HG9.ext e111
      replace HB9 := HB9.ext e111
      replace HS11 := HS11.ext e111
      replace HB4 := HB4.ext e111
      replace HS18 := HS18.ext e111
      replace HP0 := HP0.ext e111
      replace HP1 := HP1.ext e111
      refine l_gt rfl rfl (OpTo.of_v (v_add rfl rfl (by first | exact wr_i64 (by omega) (by omega) | rfl)) ?_)
      refine l_gt rfl rfl (OpTo.of_v (v_move (t := .int _ _) rfl) ?_)
      refine l_gt rfl rfl (to_f1 (by kernel_rfl) (show _ = (Value.int _ _) from rfl) (CallsR.mono (num_c) ?_))
      rintro _ w112 ⟨rfl, e112⟩
      have zs_e112 := e112.size
      replace E := E.trans (Ext.keep e112)
      replace HB1 := HB1.ext e112
      replace HS2 := HS2.ext e112
      replace HG9 := HG9.ext e112
      replace HB9 := HB9.ext e112
      replace HS11 := HS11.ext e112
      replace HB4 := HB4.ext e112
      replace HS18 := HS18.ext e112
      replace HP0 := HP0.ext e112
      replace HP1 := HP1.ext e112
      refine l_gt rfl rfl (OpTo.of_v (v_add rfl rfl (by first | exact wr_i64 (by omega) (by omega) | rfl)) ?_)
      refine l_gt rfl rfl (OpTo.of_v (v_move (t := .int _ _) rfl) ?_)
      refine l_gt rfl rfl (to_f1 (by kernel_rfl) (show _ = (Value.int _ _) from rfl) (CallsR.mono (num_c) ?_))
      rintro _ w113 ⟨rfl, e113⟩
      have zs_e113 := e113.size
      replace E := E.trans (Ext.keep e113)
      replace HB1 := HB1.ext e113
      replace HS2 := HS2.ext e113
      replace HG9 := HG9.ext e113
      replace HB9 := HB9.ext e113
      replace HS11 := HS11.ext e113
      replace HB4 := HB4.ext e113
      replace HS18 := HS18.ext e113
      replace HP0 := HP0.ext e113
      replace HP1 := HP1.ext e113
      refine l_gt rfl rfl (OpTo.of_v (v_add rfl rfl (by first | exact wr_i64 (by omega) (by omega) | rfl)) ?_)
      refine l_gt rfl rfl (OpTo.of_v (OpVat.as (b := true) (v_eql rfl rfl) (by first | rfl | (simp; done) | (simp; omega))) ?_)
      refine l_v (v_andT rfl rfl) ?_
      refine l_v (v_move (t := .bool _) rfl) ?_
      refine l_gt rfl rfl (OpTo.of_v (v_move (t := .int _ _) rfl) ?_)
      refine l_gt rfl rfl (OpTo.of_v (OpVat.as (b := true) (v_eql rfl rfl) (by first | rfl | (simp; done) | (simp; omega))) ?_)
      refine l_v (v_andT rfl rfl) ?_
      refine l_v (v_move (t := .bool _) rfl) ?_
      refine l_gt rfl rfl (OpTo.of_v (v_move (t := .int _ _) rfl) ?_)
      refine l_gt rfl rfl (OpTo.of_v (OpVat.as (b := true) (v_eql rfl rfl) (by first | rfl | (simp; done) | (simp; omega))) ?_)
      refine l_v (v_andT rfl rfl) ?_
      refine l_v (v_move (t := .bool _) rfl) ?_
      refine l_gt rfl rfl (OpTo.of_v (v_loadA (by kernel_rfl) rfl (by first | exact HP1 | exact HP0 | exact HB4.pv | exact HB9.pv | exact HB1.pv | assumption) rfl) ?_)
      refine l_gt rfl rfl (OpTo.of_v (v_loadA (by kernel_rfl) rfl (by first | exact HP1 | exact HP0 | exact HB4.pv | exact HB9.pv | exact HB1.pv | assumption) rfl) ?_)
      refine l_gt rfl rfl (to_f2 (by kernel_rfl) (show _ = (Value.agg _) from rfl) (show _ = (Value.agg _) from rfl) (CallsR.mono (refSame_c HG9 (vote_ag (F := NoK) i64_0 i64_1)) ?_))
      rintro _ w114 ⟨rfl, e114⟩
      have zs_e114 := e114.size
      replace E := E.trans (Ext.keep e114)
      replace HB1 := HB1.ext e114
      replace HS2 := HS2.ext e114
      replace HG9 := HG9.ext e114
      replace HB9 := HB9.ext e114
      replace HS11 := HS11.ext e114
      replace HB4 := HB4.ext e114
      replace HS18 := HS18.ext e114
      replace HP0 := HP0.ext e114
      replace HP1 := HP1.ext e114
      refine l_v (v_andT rfl rfl) ?_
      refine l_v (v_move (t := .bool _) rfl) ?_
      refine l_gt rfl rfl (OpTo.of_v (v_move (t := .slice _ _ _) rfl) ?_)
      refine l_gt rfl rfl (OpTo.of_v (v_len (et := 3) (by kernel_rfl) rfl) ?_)
      refine l_gt rfl rfl (OpTo.of_v (OpVat.as (b := true) (v_eql rfl rfl) (by first | rfl | (simp; done) | (simp; omega))) ?_)
      refine l_v (v_andT rfl rfl) ?_
      refine l_v (v_move (t := .bool _) rfl) ?_
      refine l_gt rfl rfl (OpTo.of_v (v_move (t := .slice _ _ _) rfl) ?_)
      refine l_gt rfl rfl (OpTo.of_v (v_indexAddr (et := 3) (sz := 1) (k := 0) (by kernel_rfl) (by kernel_rfl) rfl rfl (by first | rfl | omega) (by decide)) ?_)
      refine l_gt rfl rfl (OpTo.of_v (v_load (by kernel_rfl) rfl (by first | exact pv_1 HP1 | exact pv_1 HP0 | exact HB4.cell rfl | exact HB9.cell rfl | exact HB1.cell rfl | assumption)) ?_)
      refine l_gt rfl rfl (OpTo.of_v (OpVat.as (b := true) (v_eql rfl rfl) (by first | rfl | (simp; done) | (simp; omega))) ?_)
      refine l_v (v_andT rfl rfl) ?_
      refine l_v (v_move (t := .bool _) rfl) ?_
      refine l_gt rfl rfl (OpTo.of_v (v_move (t := .slice _ _ _) rfl) ?_)
      refine l_gt rfl rfl (OpTo.of_v (v_indexAddr (et := 3) (sz := 1) (k := 1) (by kernel_rfl) (by kernel_rfl) rfl rfl (by first | rfl | omega) (by decide)) ?_)
      refine l_gt rfl rfl (OpTo.of_v (v_load (by kernel_rfl) rfl (by first | exact pv_1 HP1 | exact pv_1 HP0 | exact HB4.cell rfl | exact HB9.cell rfl | exact HB1.cell rfl | assumption)) ?_)
      refine l_gt rfl rfl (OpTo.of_v (OpVat.as (b := true) (v_eql rfl rfl) (by first | rfl | (simp; done) | (simp; omega))) ?_)
      refine l_v (v_andT rfl rfl) ?_
      refine l_v (v_move (t := .bool _) rfl) ?_
      refine l_gt rfl rfl (OpTo.of_v (v_move (t := .int _ _) rfl) ?_)
      refine l_gt rfl rfl (to_f1 (by kernel_rfl) (show _ = (Value.int _ _) from rfl) (CallsR.mono (num_c) ?_))
      rintro _ w115 ⟨rfl, e115⟩
      have zs_e115 := e115.size
      replace E := E.trans (Ext.keep e115)
      replace HB1 := HB1.ext e115
      replace HS2 := HS2.ext e115
      replace HG9 := HG9.ext e115
      replace HB9 := HB9.ext e115
      replace HS11 := HS11.ext e115
      replace HB4 := HB4.ext e115
      replace HS18 := HS18.ext e115
      replace HP0 := HP0.ext e115
      replace HP1 := HP1.ext e115
      refine l_gt rfl rfl (OpTo.of_v (OpVat.as (b := true) (v_eql rfl rfl) (by first | rfl | (simp; done) | (simp; omega))) ?_)
      refine l_v (v_andT rfl rfl) ?_
      refine l_v (v_move (t := .bool _) rfl) ?_
      refine l_gt rfl rfl (OpTo.of_v (v_move (t := .int _ _) rfl) ?_)
      refine l_gt rfl rfl (to_f1 (by kernel_rfl) (show _ = (Value.int _ _) from rfl) (CallsR.mono (num_c) ?_))
      rintro _ w116 ⟨rfl, e116⟩
      have zs_e116 := e116.size
      replace E := E.trans (Ext.keep e116)
      replace HB1 := HB1.ext e116
      replace HS2 := HS2.ext e116
      replace HG9 := HG9.ext e116
      replace HB9 := HB9.ext e116
      replace HS11 := HS11.ext e116
      replace HB4 := HB4.ext e116
      replace HS18 := HS18.ext e116
      replace HP0 := HP0.ext e116
      replace HP1 := HP1.ext e116
      refine l_gt rfl rfl (OpTo.of_v (OpVat.as (b := true) (v_eql rfl rfl) (by first | rfl | (simp; done) | (simp; omega))) ?_)
      refine l_v (v_andT rfl rfl) ?_
      refine l_v (v_move (t := .bool _) rfl) ?_
      refine l_gt rfl rfl (OpTo.of_v (v_move (t := .int _ _) rfl) ?_)
      refine l_gt rfl rfl (OpTo.of_v (OpVat.as (b := true) (v_eql rfl rfl) (by first | rfl | (simp; done) | (simp; omega))) ?_)
      refine l_v (v_andT rfl rfl) ?_
      refine l_v (v_move (t := .bool _) rfl) ?_
      refine l_gt rfl rfl (OpTo.of_v (v_move (t := .pointer _) rfl) ?_)
      refine l_gt rfl rfl (to_f1 (by kernel_rfl) (show _ = (Value.pointer _) from rfl) (CallsR.mono (Len_c (ms := List.replicate 256 (voteM 0 1)) HB4 HS18 (mayr 256)) ?_))
      rintro _ w117 ⟨rfl, e117⟩
      have zs_e117 := e117.size
      replace E := E.trans (Ext.keep e117)
      replace HB1 := HB1.ext e117
      replace HS2 := HS2.ext e117
      replace HG9 := HG9.ext e117
      replace HB9 := HB9.ext e117
      replace HS11 := HS11.ext e117
      replace HB4 := HB4.ext e117
      replace HS18 := HS18.ext e117
      replace HP0 := HP0.ext e117
      replace HP1 := HP1.ext e117
      refine l_gt rfl rfl (OpTo.of_v (OpVat.as (b := true) (v_eql rfl rfl) (by first | rfl | (simp; done) | (simp; omega))) ?_)
      refine l_v (v_andT rfl rfl) ?_
      refine l_v (v_move (t := .bool _) rfl) ?_
      refine l_gt rfl rfl (OpTo.of_v (v_move (t := .pointer _) rfl) ?_)
      refine l_gt rfl rfl (to_f1 (by kernel_rfl) (show _ = (Value.pointer _) from rfl) (CallsR.mono (Lost_c HB4) ?_))
      rintro _ w118 ⟨rfl, e118⟩
      have zs_e118 := e118.size
      replace E := E.trans (Ext.keep e118)
      replace HB1 := HB1.ext e118
      replace HS2 := HS2.ext e118
      replace HG9 := HG9.ext e118
      replace HB9 := HB9.ext e118
      replace HS11 := HS11.ext e118
      replace HB4 := HB4.ext e118
      replace HS18 := HS18.ext e118
      replace HP0 := HP0.ext e118
      replace HP1 := HP1.ext e118
      refine l_gt rfl rfl (OpTo.of_v (OpVat.as (b := true) (v_eql rfl rfl) (by first | rfl | (simp; done) | (simp; omega))) ?_)
      refine l_v (v_andT rfl rfl) ?_
      refine l_v (v_assign (t := .bool _) rfl) ?_
      refine l_nil ?_
      refine n_then ?_
      refine c_ret ?_
      refine ret1v rfl (by decide) (show _ = (Value.bool _) from rfl) ?_
      exact ⟨rfl, E⟩
end Go.Proofs.Ytaidpdjlchnonaa
