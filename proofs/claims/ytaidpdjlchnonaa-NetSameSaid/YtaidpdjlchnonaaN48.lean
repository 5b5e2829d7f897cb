/- A part of the proof: steps and lemmas for the walks through the given program. -/
import Derived.Test.YtaidpdjlchnonaaN47
namespace Go.Proofs.Ytaidpdjlchnonaa
open Go.Vc
set_option linter.unusedVariables false
set_option linter.unusedSimpArgs false
set_option maxRecDepth 100000

set_option maxHeartbeats 8000000 in
theorem do2_c {w : World} {n0 bw br lost : Nat} {ms : List Ms} {r : StpV} {a7 : Option Addr} {c7 : Nat} (hW : WR w n0 bw br ms lost) (HS7 : SlV tMs w (fun i => i < n0) (.slice a7 r.2.2.length c7) r.2.2) (hlo : lost ≤ 100000) (hk : r.1 = 2) : CallsR Try.prog 29 #[.pointer (some ⟨bw, 0, none⟩), .pointer (some ⟨br, 0, none⟩), .agg #[.int .i64 r.1, .int .i64 r.2.1, .slice a7 r.2.2.length c7]] w (DoP n0 bw br lost w) := by
  obtain ⟨hne, hb0, hr0, ⟨a1, c1, HB1, HS1⟩, ⟨a2, c2, HB2, HS2⟩, hmay, hlen⟩ := hW
  obtain ⟨n1, hn1⟩ : ∃ n, n = w.heap.size := ⟨_, rfl⟩
  have zl1 := HB1.lt
  have zl2 := HB2.lt
  replace HS1 := HS1.mono (F' := fun i => i ≠ bw ∧ i ≠ br ∧ i < n1) fun b hb h => ⟨h.1, h.2, by omega⟩
  replace HS2 := HS2.mono (F' := fun i => i ≠ bw ∧ i ≠ br ∧ i < n1) fun b hb h => ⟨h.1, h.2, by omega⟩
  have hm2 := HS2.len_max
  refine enter 281 Try.func29 rfl rfl (by simp) ?_
  refine c_seq ?_
  have E := Keep.refl (K := fun i => i = bw ∨ i = br) w
  refine wp_reg (by decide +kernel) ?_
  refine l_to (to_box (show _ = (Value.agg _) from rfl) ?_)
  rintro b5 w5 zb5 HB5 e5 z5
  have zs_e5 := e5.size
  replace E := E.trans (Ext.keep e5)
  replace HB1 := HB1.ext e5
  replace HB2 := HB2.ext e5
  replace HS1 := HS1.ext e5
  replace HS2 := HS2.ext e5
  try simp only [Value.cells] at HB5
  refine l_v (v_assign rfl) ?_
  refine l_v (v_assign rfl) ?_
  refine l_v (v_assign rfl) ?_
  refine l_nil ?_
  refine n_then ?_
  refine c_seq ?_
  refine wp_regd (NoK) (by kernel_rfl) (by decide +kernel) (by decide +kernel) ?_
  refine rt_v (fun vals w hR hd => v_fieldAddr (off := 1) (ft := 3) (by kernel_rfl) rfl) ?_
  refine rt_v (fun vals w hR hd => v_load (by kernel_rfl) (hd 0 rfl) (by first | exact (HB5.ext hR).pv 1 _ rfl | exact (HB2.ext hR).pv 1 _ rfl | exact (HB1.ext hR).pv 1 _ rfl | assumption)) ?_
  refine rt_v (fun vals w hR hd => v_geq (hd 1 rfl) rfl) ?_
  refine rt_v (fun vals w hR hd => v_move (t := .bool _) (hd 2 rfl)) ?_
  refine rt_g1 rfl (fun vals w hd => hd 3 rfl) (fun vals w hR hd hG => v_fieldAddr (off := 1) (ft := 3) (by kernel_rfl) rfl) ?_
  refine rt_g1 rfl (fun vals w hd => hd 3 rfl) (fun vals w hR hd hG => v_load (by kernel_rfl) (gd hG (hd 4 rfl)) (by first | exact (HB5.ext hR).pv 1 _ rfl | exact (HB2.ext hR).pv 1 _ rfl | exact (HB1.ext hR).pv 1 _ rfl | assumption)) ?_
  refine rt_g1 rfl (fun vals w hd => hd 3 rfl) (fun vals w hR hd hG => v_move (t := .pointer _) rfl) ?_
  refine rt_g1 rfl (fun vals w hd => hd 3 rfl) (fun vals w hR hd hG => v_nilCheck (gd hG (hd 6 rfl))) ?_
  refine rt_g1 rfl (fun vals w hd => hd 3 rfl) (fun vals w hR hd hG => v_fieldAddr (off := 0) (ft := 41) (by kernel_rfl) (gd hG (hd 7 rfl))) ?_
  refine rt_g1 rfl (fun vals w hd => hd 3 rfl) (fun vals w hR hd hG => v_load (by kernel_rfl) (gd hG (hd 8 rfl)) (by first | exact (HB5.ext hR).pv 0 _ rfl | exact (HB2.ext hR).pv 0 _ rfl | exact (HB1.ext hR).pv 0 _ rfl | assumption)) ?_
  refine rt_g1 rfl (fun vals w hd => hd 3 rfl) (fun vals w hR hd hG => v_len (et := 26) (by kernel_rfl) (gd hG (hd 9 rfl))) ?_
  refine rt_g1 rfl (fun vals w hd => hd 3 rfl) (fun vals w hR hd hG => v_lss (gd hG (hd 5 rfl)) (gd hG (hd 10 rfl))) ?_
  refine rt_v (fun vals w hR hd => v_and (hd 3 rfl) (hd 11 rfl)) ?_
  refine rt_v (fun vals w hR hd => v_assign (t := .bool _) (hd 12 rfl)) ?_
  refine rt_nil (fun w101 e101 => ?_)
  rintro _ rfl _ rfl _ rfl _ rfl _ rfl _ rfl _ rfl _ rfl _ rfl _ rfl _ rfl _ rfl _ rfl _ rfl
  have zs_e101 := e101.size
  replace E := E.trans (Ext.keep e101)
  replace HB1 := HB1.ext e101
  replace HB2 := HB2.ext e101
  replace HS1 := HS1.ext e101
  replace HS2 := HS2.ext e101
  replace HB5 := HB5.ext e101
  refine fin_nil ?_
  refine n_then ?_
  refine c_seq ?_
  refine c_seq ?_
  refine wp_reg (by decide +kernel) ?_
  refine l_v (v_fieldAddr (off := 0) (ft := 3) (by kernel_rfl) rfl) ?_
  refine l_v (v_load (by kernel_rfl) rfl (by first | exact HB5.pv 0 _ rfl | exact HB2.pv 0 _ rfl | exact HB1.pv 0 _ rfl | assumption)) ?_
  refine l_nil ?_
  refine n_then ?_
  refine c_block ?_
  refine c_seq ?_
  refine wp_reg (by decide +kernel) ?_
  refine l_v (v_eql rfl rfl) ?_
  refine l_v (v_assign (t := .bool _) rfl) ?_
  refine l_nil ?_
  refine n_then ?_
  refine c_cond rfl rfl (fun hk1 => ?_) (fun hk1 => ?_)
  · skip
    exact absurd (dtrue hk1) (by omega)
  · skip
    refine c_seq ?_
    refine wp_reg (by decide +kernel) ?_
    refine l_v (v_eql rfl rfl) ?_
    refine l_v (v_assign (t := .bool _) rfl) ?_
    refine l_nil ?_
    refine n_then ?_
    refine c_cond rfl rfl (fun hk2 => ?_) (fun hk2 => ?_)
    · skip
      by_cases hv : 0 ≤ r.2.1 ∧ r.2.1 < (ms.length : Int)
      · skip
        refine c_seq ?_
        obtain ⟨m, hxm, _⟩ := getE (l := ms) (i := r.2.1.toNat) (by omega)
        have hmm := hmay m (List.mem_of_getElem? hxm)
        have her := List.length_eraseIdx_of_lt (l := ms) (i := r.2.1.toNat) (by omega)
        refine wp_reg (by decide +kernel) ?_
        refine l_v (v_move (t := .pointer _) rfl) ?_
        refine l_v (v_fieldAddr (off := 1) (ft := 3) (by kernel_rfl) rfl) ?_
        refine l_v (v_load (by kernel_rfl) rfl (by first | exact HB5.pv 1 _ rfl | exact HB2.pv 1 _ rfl | exact HB1.pv 1 _ rfl | assumption)) ?_
        refine l_to (to_f2 (by kernel_rfl) (show _ = (Value.pointer _) from rfl) (show _ = (Value.int _ _) from rfl) (CallsR.mono (Take_c HB1 HS1 (fun i h => h.1) hlen hv.1 hxm hmm) ?_))
        rintro _ w8 ⟨⟨v8, rfl, HG8⟩, ⟨a8, c8, HB1, HS8⟩, k8⟩
        have zs_k8 := k8.size
        replace HS8 := HS8.mono (F' := fun i => i ≠ bw ∧ i ≠ br ∧ i < w8.heap.size) fun b hb h => by omega
        replace HG8 := HG8.mono (F' := fun i => n1 ≤ i ∧ i < w8.heap.size) fun b hb h => by omega
        obtain ⟨a18, c18, a19, c19, rfl, _, _, _⟩ := HG8.ms
        replace E := E.step k8 (by intro i hi he; (try dsimp only [NoK] at hi he ⊢); first | exact he.elim | omega | exact he)
        replace HB2 := HB2.keep k8 (by intro h; (try dsimp only at h); first | omega)
        replace HS1 := HS1.keep k8 (by intro i _ hi he; (try dsimp only [NoK, AllB] at hi he); first | exact hi.elim | exact he.elim | omega | (rcases hi with hi | hi <;> omega) | (rcases he with he | he <;> omega))
        replace HS2 := HS2.keep k8 (by intro i _ hi he; (try dsimp only [NoK, AllB] at hi he); first | exact hi.elim | exact he.elim | omega | (rcases hi with hi | hi <;> omega) | (rcases he with he | he <;> omega))
        replace HB5 := HB5.keep k8 (by intro h; (try dsimp only at h); first | omega)
        refine l_v (v_move (t := .tuple _) rfl) ?_
        refine l_v (v_extract (t := .agg _) rfl rfl) ?_
        refine l_v (v_extract (t := .int _ _) rfl rfl) ?_
        refine l_to (to_alloc (z := (.agg #[.int .i64 0, .int .i64 0, .int .i64 0, .int .i64 0, .int .i64 0, .int .i64 0, .int .i64 0, .int .i64 0, .slice none 0 0, .bool false, .slice none 0 0])) (by unfold kZero; kernel_rfl) ?_)
        rintro b10 w10 zb10 HB10 e10 z10
        have zs_e10 := e10.size
        replace E := E.trans (Ext.keep e10)
        replace HB2 := HB2.ext e10
        replace HS2 := HS2.ext e10
        replace HB5 := HB5.ext e10
        replace HG8 := HG8.ext e10
        replace HB1 := HB1.ext e10
        replace HS8 := HS8.ext e10
        try simp only [Value.cells] at HB10
        refine l_to (to_storeA (n := 11) rfl rfl (show _ = (Value.agg _) from rfl) (by kernel_rfl) rfl (by first | (simp [slice_one]; done) | (simp only [List.forall_mem_cons, List.cons_append, List.nil_append]; repeat' (first | exact rfl | apply And.intro | (intro u hu; cases hu; done)))) HB10 (by first | exact of_decide_eq_true rfl | (simp; done) | decide) ?_)
        rintro w102 HX102 k102 z102
        have zs_k102 := k102.size
        replace E := E.step k102 (by intro i hi he; (try dsimp only [NoK] at hi he ⊢); first | exact he.elim | omega | exact he)
        replace HB2 := HB2.keep k102 (by intro h; (try dsimp only at h); first | omega)
        replace HS2 := HS2.keep k102 (by intro i _ hi he; (try dsimp only [NoK, AllB] at hi he); first | exact hi.elim | exact he.elim | omega | (rcases hi with hi | hi <;> omega) | (rcases he with he | he <;> omega))
        replace HB5 := HB5.keep k102 (by intro h; (try dsimp only at h); first | omega)
        replace HG8 := HG8.keep k102 (by intro i _ hi he; (try dsimp only [NoK, AllB] at hi he); first | exact hi.elim | exact he.elim | omega | (rcases hi with hi | hi <;> omega) | (rcases he with he | he <;> omega))
        replace HB1 := HB1.keep k102 (by intro h; (try dsimp only at h); first | omega)
        replace HS8 := HS8.keep k102 (by intro i _ hi he; (try dsimp only [NoK, AllB] at hi he); first | exact hi.elim | exact he.elim | omega | (rcases hi with hi | hi <;> omega) | (rcases he with he | he <;> omega))
        replace HB10 := HX102
        clear HX102
        try simp only [List.set_cons_zero, List.set_cons_succ, setAt, List.take_zero, List.take_succ_cons, List.drop_zero, List.drop_succ_cons, List.nil_append, List.cons_append, List.append_nil, List.length_cons, List.length_nil, Nat.zero_add, Nat.reduceAdd, List.drop_nil] at HB10
        refine l_v (v_assign (t := .int _ _) rfl) ?_
        refine l_nil ?_
        refine n_then ?_
        refine c_seq ?_
        refine wp_reg (by decide +kernel) ?_
        refine l_v (v_move (t := .pointer _) rfl) ?_
        refine l_v (v_fieldAddr (off := 1) (ft := 3) (by kernel_rfl) rfl) ?_
        refine l_v (v_load (by kernel_rfl) rfl (by first | exact HB10.pv 1 _ rfl | exact HB1.pv 1 _ rfl | exact HB5.pv 1 _ rfl | exact HB2.pv 1 _ rfl | assumption)) ?_
        refine l_to (to_f2 (by kernel_rfl) (show _ = (Value.pointer _) from rfl) (show _ = (Value.int _ _) from rfl) (CallsR.mono (refTake_c HB2 HS2 (fun i h => h.2.1) hlen hv.1 hxm) ?_))
        rintro _ w11 ⟨⟨v11, rfl, HG11⟩, ⟨a11, c11, HB2, HS11⟩, k11⟩
        have zs_k11 := k11.size
        replace HS11 := HS11.mono (F' := fun i => i ≠ bw ∧ i ≠ br ∧ i < w11.heap.size) fun b hb h => by omega
        obtain ⟨a28, c28, a29, c29, rfl, _, _, _⟩ := HG11.ms
        replace E := E.step k11 (by intro i hi he; (try dsimp only [NoK] at hi he ⊢); first | exact he.elim | omega | exact he)
        replace HS2 := HS2.keep k11 (by intro i _ hi he; (try dsimp only [NoK, AllB] at hi he); first | exact hi.elim | exact he.elim | omega | (rcases hi with hi | hi <;> omega) | (rcases he with he | he <;> omega))
        replace HB5 := HB5.keep k11 (by intro h; (try dsimp only at h); first | omega)
        replace HG8 := HG8.keep k11 (by intro i _ hi he; (try dsimp only [NoK, AllB] at hi he); first | exact hi.elim | exact he.elim | omega | (rcases hi with hi | hi <;> omega) | (rcases he with he | he <;> omega))
        replace HB1 := HB1.keep k11 (by intro h; (try dsimp only at h); first | omega)
        replace HS8 := HS8.keep k11 (by intro i _ hi he; (try dsimp only [NoK, AllB] at hi he); first | exact hi.elim | exact he.elim | omega | (rcases hi with hi | hi <;> omega) | (rcases he with he | he <;> omega))
        replace HB10 := HB10.keep k11 (by intro h; (try dsimp only at h); first | omega)
        refine l_v (v_move (t := .tuple _) rfl) ?_
        refine l_v (v_extract (t := .agg _) rfl rfl) ?_
        refine l_v (v_extract (t := .bool _) rfl rfl) ?_
        refine l_to (to_alloc (z := (.agg #[.int .i64 0, .int .i64 0, .int .i64 0, .int .i64 0, .int .i64 0, .int .i64 0, .int .i64 0, .int .i64 0, .slice none 0 0, .bool false, .slice none 0 0])) (by unfold kZero; kernel_rfl) ?_)
        rintro b12 w12 zb12 HB12 e12 z12
        have zs_e12 := e12.size
        replace E := E.trans (Ext.keep e12)
        replace HB5 := HB5.ext e12
        replace HG8 := HG8.ext e12
        replace HB1 := HB1.ext e12
        replace HS8 := HS8.ext e12
        replace HB10 := HB10.ext e12
        replace HG11 := HG11.ext e12
        replace HB2 := HB2.ext e12
        replace HS11 := HS11.ext e12
        try simp only [Value.cells] at HB12
        refine l_to (to_storeA (n := 11) rfl rfl (show _ = (Value.agg _) from rfl) (by kernel_rfl) rfl (by first | (simp [slice_one]; done) | (simp only [List.forall_mem_cons, List.cons_append, List.nil_append]; repeat' (first | exact rfl | apply And.intro | (intro u hu; cases hu; done)))) HB12 (by first | exact of_decide_eq_true rfl | (simp; done) | decide) ?_)
        rintro w103 HX103 k103 z103
        have zs_k103 := k103.size
        replace E := E.step k103 (by intro i hi he; (try dsimp only [NoK] at hi he ⊢); first | exact he.elim | omega | exact he)
        replace HB5 := HB5.keep k103 (by intro h; (try dsimp only at h); first | omega)
        replace HG8 := HG8.keep k103 (by intro i _ hi he; (try dsimp only [NoK, AllB] at hi he); first | exact hi.elim | exact he.elim | omega | (rcases hi with hi | hi <;> omega) | (rcases he with he | he <;> omega))
        replace HB1 := HB1.keep k103 (by intro h; (try dsimp only at h); first | omega)
        replace HS8 := HS8.keep k103 (by intro i _ hi he; (try dsimp only [NoK, AllB] at hi he); first | exact hi.elim | exact he.elim | omega | (rcases hi with hi | hi <;> omega) | (rcases he with he | he <;> omega))
        replace HB10 := HB10.keep k103 (by intro h; (try dsimp only at h); first | omega)
        replace HG11 := HG11.keep k103 (by intro i _ hi he; (try dsimp only [NoK, AllB] at hi he); first | exact hi.elim | exact he.elim | omega | (rcases hi with hi | hi <;> omega) | (rcases he with he | he <;> omega))
        replace HB2 := HB2.keep k103 (by intro h; (try dsimp only at h); first | omega)
        replace HS11 := HS11.keep k103 (by intro i _ hi he; (try dsimp only [NoK, AllB] at hi he); first | exact hi.elim | exact he.elim | omega | (rcases hi with hi | hi <;> omega) | (rcases he with he | he <;> omega))
        replace HB12 := HX103
        clear HX103
        try simp only [List.set_cons_zero, List.set_cons_succ, setAt, List.take_zero, List.take_succ_cons, List.drop_zero, List.drop_succ_cons, List.nil_append, List.cons_append, List.append_nil, List.length_cons, List.length_nil, Nat.zero_add, Nat.reduceAdd, List.drop_nil] at HB12
        refine l_v (v_assign (t := .bool _) rfl) ?_
        refine l_nil ?_
        refine n_then ?_
        refine c_seq ?_
        refine wp_reg (by decide +kernel) ?_
        refine l_v (v_move (t := .pointer _) rfl) ?_
        refine l_v (v_move (t := .pointer _) rfl) ?_
        refine l_v (v_loadA (by kernel_rfl) rfl (by first | exact HB12.pv | exact HB2.pv | exact HB10.pv | exact HB1.pv | exact HB5.pv | assumption) rfl) ?_
        refine l_v (v_loadA (by kernel_rfl) rfl (by first | exact HB12.pv | exact HB2.pv | exact HB10.pv | exact HB1.pv | exact HB5.pv | assumption) rfl) ?_
        refine l_to (to_f2 (by kernel_rfl) (show _ = (Value.agg _) from rfl) (show _ = (Value.agg _) from rfl) (CallsR.mono (refSame_self HG8 HG11) ?_))
        rintro _ w104 ⟨rfl, e104⟩
        have zs_e104 := e104.size
        replace E := E.trans (Ext.keep e104)
        replace HB5 := HB5.ext e104
        replace HG8 := HG8.ext e104
        replace HB1 := HB1.ext e104
        replace HS8 := HS8.ext e104
        replace HB10 := HB10.ext e104
        replace HG11 := HG11.ext e104
        replace HB2 := HB2.ext e104
        replace HS11 := HS11.ext e104
        replace HB12 := HB12.ext e104
        refine l_v (v_move (t := .bool _) rfl) ?_
        refine l_gt rfl rfl (OpTo.of_v (v_move (t := .int _ _) rfl) ?_)
        refine l_gt rfl rfl (to_f1 (by kernel_rfl) (show _ = (Value.int _ _) from rfl) (CallsR.mono (num_c) ?_))
        rintro _ w105 ⟨rfl, e105⟩
        have zs_e105 := e105.size
        replace E := E.trans (Ext.keep e105)
        replace HB5 := HB5.ext e105
        replace HG8 := HG8.ext e105
        replace HB1 := HB1.ext e105
        replace HS8 := HS8.ext e105
        replace HB10 := HB10.ext e105
        replace HG11 := HG11.ext e105
        replace HB2 := HB2.ext e105
        replace HS11 := HS11.ext e105
        replace HB12 := HB12.ext e105
        refine l_gt rfl rfl (OpTo.of_v (OpVat.as (b := true) (v_eql rfl rfl) rfl) ?_)
        refine l_gt rfl rfl (OpTo.of_v (v_move (t := .bool _) rfl) ?_)
        refine l_gt rfl rfl (OpTo.of_v (OpVat.as (b := true) (v_beql (by kernel_rfl) rfl rfl) rfl) ?_)
        refine l_v (v_andT rfl rfl) ?_
        refine l_v (v_move (t := .bool _) rfl) ?_
        refine l_gt rfl rfl (OpTo.of_v (v_move (t := .bool _) rfl) ?_)
        refine l_gt rfl rfl (OpTo.of_v (v_move (t := .bool _) rfl) ?_)
        refine l_skip (u := .bool true) rfl rfl rfl ?_
        refine l_skip (u := .bool true) rfl rfl rfl ?_
        refine l_skip (u := .bool true) rfl rfl rfl ?_
        refine l_gt rfl rfl (OpTo.of_v (v_orC rfl) ?_)
        refine l_v (v_andT rfl rfl) ?_
        refine l_v (v_assign (t := .pointer _) rfl) ?_
        refine l_v (v_assign (t := .pointer _) rfl) ?_
        refine l_v (v_assign (t := .bool _) rfl) ?_
        refine l_nil ?_
        refine n_then ?_
        refine c_ret ?_
        refine r_blk ?_
        refine r_then ?_
        refine ret3v rfl (by decide) (by decide) (by decide) (show _ = (Value.pointer _) from rfl) (show _ = (Value.pointer _) from rfl) (show _ = (Value.bool _) from rfl) ?_
        exact ⟨⟨bw, ms.eraseIdx r.2.1.toNat, lost, by simp, ⟨hne, hb0, hr0, ⟨a8, c8, HB1, HS8.mono fun i _ h => by omega⟩, ⟨_, _, HB2, HS11.mono fun i _ h => by omega⟩, erase_may hmay, by omega⟩, by omega⟩, E⟩
      · skip
        refine c_seq ?_
        refine wp_reg (by decide +kernel) ?_
        refine l_v (v_move (t := .pointer _) rfl) ?_
        refine l_v (v_fieldAddr (off := 1) (ft := 3) (by kernel_rfl) rfl) ?_
        refine l_v (v_load (by kernel_rfl) rfl (by first | exact HB5.pv 1 _ rfl | exact HB2.pv 1 _ rfl | exact HB1.pv 1 _ rfl | assumption)) ?_
        refine l_to (to_f2 (by kernel_rfl) (show _ = (Value.pointer _) from rfl) (show _ = (Value.int _ _) from rfl) (CallsR.mono (Take_no HB1 (by omega)) ?_))
        rintro _ w8 ⟨rfl, e8⟩
        have zs_e8 := e8.size
        replace E := E.trans (Ext.keep e8)
        replace HB1 := HB1.ext e8
        replace HB2 := HB2.ext e8
        replace HS1 := HS1.ext e8
        replace HS2 := HS2.ext e8
        replace HB5 := HB5.ext e8
        refine l_v (v_move (t := .tuple _) rfl) ?_
        refine l_v (v_extract (t := .agg _) rfl rfl) ?_
        refine l_v (v_extract (t := .int _ _) rfl rfl) ?_
        refine l_to (to_alloc (z := (.agg #[.int .i64 0, .int .i64 0, .int .i64 0, .int .i64 0, .int .i64 0, .int .i64 0, .int .i64 0, .int .i64 0, .slice none 0 0, .bool false, .slice none 0 0])) (by unfold kZero; kernel_rfl) ?_)
        rintro b10 w10 zb10 HB10 e10 z10
        have zs_e10 := e10.size
        replace E := E.trans (Ext.keep e10)
        replace HB1 := HB1.ext e10
        replace HB2 := HB2.ext e10
        replace HS1 := HS1.ext e10
        replace HS2 := HS2.ext e10
        replace HB5 := HB5.ext e10
        try simp only [Value.cells] at HB10
        refine l_to (to_storeA (n := 11) rfl rfl (show _ = (Value.agg _) from rfl) (by kernel_rfl) rfl (by first | (simp [slice_one]; done) | (simp only [List.forall_mem_cons, List.cons_append, List.nil_append]; repeat' (first | exact rfl | apply And.intro | (intro u hu; cases hu; done)))) HB10 (by first | exact of_decide_eq_true rfl | (simp; done) | decide) ?_)
        rintro w106 HX106 k106 z106
        have zs_k106 := k106.size
        replace E := E.step k106 (by intro i hi he; (try dsimp only [NoK] at hi he ⊢); first | exact he.elim | omega | exact he)
        replace HB1 := HB1.keep k106 (by intro h; (try dsimp only at h); first | omega)
        replace HB2 := HB2.keep k106 (by intro h; (try dsimp only at h); first | omega)
        replace HS1 := HS1.keep k106 (by intro i _ hi he; (try dsimp only [NoK, AllB] at hi he); first | exact hi.elim | exact he.elim | omega | (rcases hi with hi | hi <;> omega) | (rcases he with he | he <;> omega))
        replace HS2 := HS2.keep k106 (by intro i _ hi he; (try dsimp only [NoK, AllB] at hi he); first | exact hi.elim | exact he.elim | omega | (rcases hi with hi | hi <;> omega) | (rcases he with he | he <;> omega))
        replace HB5 := HB5.keep k106 (by intro h; (try dsimp only at h); first | omega)
        replace HB10 := HX106
        clear HX106
        try simp only [List.set_cons_zero, List.set_cons_succ, setAt, List.take_zero, List.take_succ_cons, List.drop_zero, List.drop_succ_cons, List.nil_append, List.cons_append, List.append_nil, List.length_cons, List.length_nil, Nat.zero_add, Nat.reduceAdd, List.drop_nil] at HB10
        refine l_v (v_assign (t := .int _ _) rfl) ?_
        refine l_nil ?_
        refine n_then ?_
        refine c_seq ?_
        refine wp_reg (by decide +kernel) ?_
        refine l_v (v_move (t := .pointer _) rfl) ?_
        refine l_v (v_fieldAddr (off := 1) (ft := 3) (by kernel_rfl) rfl) ?_
        refine l_v (v_load (by kernel_rfl) rfl (by first | exact HB10.pv 1 _ rfl | exact HB5.pv 1 _ rfl | exact HB2.pv 1 _ rfl | exact HB1.pv 1 _ rfl | assumption)) ?_
        refine l_to (to_f2 (by kernel_rfl) (show _ = (Value.pointer _) from rfl) (show _ = (Value.int _ _) from rfl) (CallsR.mono (refTake_no HB2 (by omega)) ?_))
        rintro _ w11 ⟨rfl, e11⟩
        have zs_e11 := e11.size
        replace E := E.trans (Ext.keep e11)
        replace HB1 := HB1.ext e11
        replace HB2 := HB2.ext e11
        replace HS1 := HS1.ext e11
        replace HS2 := HS2.ext e11
        replace HB5 := HB5.ext e11
        replace HB10 := HB10.ext e11
        refine l_v (v_move (t := .tuple _) rfl) ?_
        refine l_v (v_extract (t := .agg _) rfl rfl) ?_
        refine l_v (v_extract (t := .bool _) rfl rfl) ?_
        refine l_to (to_alloc (z := (.agg #[.int .i64 0, .int .i64 0, .int .i64 0, .int .i64 0, .int .i64 0, .int .i64 0, .int .i64 0, .int .i64 0, .slice none 0 0, .bool false, .slice none 0 0])) (by unfold kZero; kernel_rfl) ?_)
        rintro b12 w12 zb12 HB12 e12 z12
        have zs_e12 := e12.size
        replace E := E.trans (Ext.keep e12)
        replace HB1 := HB1.ext e12
        replace HB2 := HB2.ext e12
        replace HS1 := HS1.ext e12
        replace HS2 := HS2.ext e12
        replace HB5 := HB5.ext e12
        replace HB10 := HB10.ext e12
        try simp only [Value.cells] at HB12
        refine l_to (to_storeA (n := 11) rfl rfl (show _ = (Value.agg _) from rfl) (by kernel_rfl) rfl (by first | (simp [slice_one]; done) | (simp only [List.forall_mem_cons, List.cons_append, List.nil_append]; repeat' (first | exact rfl | apply And.intro | (intro u hu; cases hu; done)))) HB12 (by first | exact of_decide_eq_true rfl | (simp; done) | decide) ?_)
        rintro w107 HX107 k107 z107
        have zs_k107 := k107.size
        replace E := E.step k107 (by intro i hi he; (try dsimp only [NoK] at hi he ⊢); first | exact he.elim | omega | exact he)
        replace HB1 := HB1.keep k107 (by intro h; (try dsimp only at h); first | omega)
        replace HB2 := HB2.keep k107 (by intro h; (try dsimp only at h); first | omega)
        replace HS1 := HS1.keep k107 (by intro i _ hi he; (try dsimp only [NoK, AllB] at hi he); first | exact hi.elim | exact he.elim | omega | (rcases hi with hi | hi <;> omega) | (rcases he with he | he <;> omega))
        replace HS2 := HS2.keep k107 (by intro i _ hi he; (try dsimp only [NoK, AllB] at hi he); first | exact hi.elim | exact he.elim | omega | (rcases hi with hi | hi <;> omega) | (rcases he with he | he <;> omega))
        replace HB5 := HB5.keep k107 (by intro h; (try dsimp only at h); first | omega)
        replace HB10 := HB10.keep k107 (by intro h; (try dsimp only at h); first | omega)
        replace HB12 := HX107
        clear HX107
        try simp only [List.set_cons_zero, List.set_cons_succ, setAt, List.take_zero, List.take_succ_cons, List.drop_zero, List.drop_succ_cons, List.nil_append, List.cons_append, List.append_nil, List.length_cons, List.length_nil, Nat.zero_add, Nat.reduceAdd, List.drop_nil] at HB12
        refine l_v (v_assign (t := .bool _) rfl) ?_
        refine l_nil ?_
        refine n_then ?_
        refine c_seq ?_
        refine wp_reg (by decide +kernel) ?_
        refine l_v (v_move (t := .pointer _) rfl) ?_
        refine l_v (v_move (t := .pointer _) rfl) ?_
        refine l_v (v_loadA (by kernel_rfl) rfl (by first | exact HB12.pv | exact HB10.pv | exact HB5.pv | exact HB2.pv | exact HB1.pv | assumption) rfl) ?_
        refine l_v (v_loadA (by kernel_rfl) rfl (by first | exact HB12.pv | exact HB10.pv | exact HB5.pv | exact HB2.pv | exact HB1.pv | assumption) rfl) ?_
        refine l_to (to_f2 (by kernel_rfl) (show _ = (Value.agg _) from rfl) (show _ = (Value.agg _) from rfl) (CallsR.mono (refSame_self (F := NoK) (G := NoK) zero_ag zero_ag) ?_))
        rintro _ w108 ⟨rfl, e108⟩
        have zs_e108 := e108.size
        replace E := E.trans (Ext.keep e108)
        replace HB1 := HB1.ext e108
        replace HB2 := HB2.ext e108
        replace HS1 := HS1.ext e108
        replace HS2 := HS2.ext e108
        replace HB5 := HB5.ext e108
        replace HB10 := HB10.ext e108
        replace HB12 := HB12.ext e108
        refine l_v (v_move (t := .bool _) rfl) ?_
        refine l_gt rfl rfl (OpTo.of_v (v_move (t := .int _ _) rfl) ?_)
        refine l_gt rfl rfl (to_f1 (by kernel_rfl) (show _ = (Value.int _ _) from rfl) (CallsR.mono (num_c) ?_))
        rintro _ w109 ⟨rfl, e109⟩
        have zs_e109 := e109.size
        replace E := E.trans (Ext.keep e109)
        replace HB1 := HB1.ext e109
        replace HB2 := HB2.ext e109
        replace HS1 := HS1.ext e109
        replace HS2 := HS2.ext e109
        replace HB5 := HB5.ext e109
        replace HB10 := HB10.ext e109
        replace HB12 := HB12.ext e109
        refine l_gt rfl rfl (OpTo.of_v (OpVat.as (b := false) (v_eql rfl rfl) rfl) ?_)
        refine l_gt rfl rfl (OpTo.of_v (v_move (t := .bool _) rfl) ?_)
        refine l_gt rfl rfl (OpTo.of_v (OpVat.as (b := true) (v_beql (by kernel_rfl) rfl rfl) rfl) ?_)
        refine l_v (v_andT rfl rfl) ?_
        refine l_v (v_move (t := .bool _) rfl) ?_
        refine l_gt rfl rfl (OpTo.of_v (v_move (t := .bool _) rfl) ?_)
        refine l_gt rfl rfl (OpTo.of_v (v_move (t := .bool _) rfl) ?_)
        refine l_gt rfl rfl (OpTo.of_v (v_move (t := .int _ _) rfl) ?_)
        refine l_gt rfl rfl (to_f1 (by kernel_rfl) (show _ = (Value.int _ _) from rfl) (CallsR.mono (num_c) ?_))
        rintro _ w110 ⟨rfl, e110⟩
        have zs_e110 := e110.size
        replace E := E.trans (Ext.keep e110)
        replace HB1 := HB1.ext e110
        replace HB2 := HB2.ext e110
        replace HS1 := HS1.ext e110
        replace HS2 := HS2.ext e110
        replace HB5 := HB5.ext e110
        replace HB10 := HB10.ext e110
        replace HB12 := HB12.ext e110
        refine l_gt rfl rfl (OpTo.of_v (OpVat.as (b := true) (v_eql rfl rfl) rfl) ?_)
        refine l_gt rfl rfl (OpTo.of_v (v_orT rfl rfl) ?_)
        refine l_v (v_andT rfl rfl) ?_
        refine l_v (v_assign (t := .pointer _) rfl) ?_
        refine l_v (v_assign (t := .pointer _) rfl) ?_
        refine l_v (v_assign (t := .bool _) rfl) ?_
        refine l_nil ?_
        refine n_then ?_
        refine c_ret ?_
        refine r_blk ?_
        refine r_then ?_
        refine ret3v rfl (by decide) (by decide) (by decide) (show _ = (Value.pointer _) from rfl) (show _ = (Value.pointer _) from rfl) (show _ = (Value.bool _) from rfl) ?_
        exact ⟨⟨bw, ms, lost, by simp, ⟨hne, hb0, hr0, ⟨a1, c1, HB1, HS1.mono fun i _ h => by omega⟩, ⟨_, _, HB2, HS2.mono fun i _ h => by omega⟩, hmay, hlen⟩, by omega⟩, E⟩
    · skip
      exact absurd hk (dfalse hk2)
end Go.Proofs.Ytaidpdjlchnonaa
