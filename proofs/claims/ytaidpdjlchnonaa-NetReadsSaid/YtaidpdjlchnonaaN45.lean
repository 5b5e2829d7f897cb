/- A part of the proof: steps and lemmas for the walks through the given program. -/
import Derived.Test.YtaidpdjlchnonaaN44
import Derived.Test.YtaidpdjlchnonaaN19
import Derived.Test.YtaidpdjlchnonaaVc37
namespace Go.Proofs.Ytaidpdjlchnonaa
open Go.Vc
set_option linter.unusedVariables false
set_option linter.unusedSimpArgs false
set_option maxRecDepth 100000

theorem csr_en {t : Int} {a : Option Addr} {n c : Nat} {cs : List Value} (h : CsR [.int .i64 t, .slice a n c] cs) : cs = [.int .i64 t, .slice a n c] := by
  match cs, h with
  | [x, y], ⟨h1, h2, _⟩ =>
    have e1 : x = .int .i64 t := by
      rcases h1 with h | ⟨p, q, h, _⟩
      · exact h.symm
      · cases h
    have e2 : y = .slice a n c := by
      rcases h2 with h | ⟨p, q, h, _⟩
      · exact h.symm
      · cases h
    rw [e1, e2]
  | [], h => exact h.elim
  | [_], h => exact h.2.elim
  | _ :: _ :: _ :: _, h => exact h.2.2.elim
theorem BvF.poke {w w' : World} {F : Nat → Prop} {a : Option Addr} {n c : Nat} {l : List UInt8} (h : BvF w F (.slice a n c) l) (p : Poke w w') (hl : l.length = n) : ∃ l' : List UInt8, l'.length = n ∧ BvF w' F (.slice a n c) l' := by
  obtain ⟨l', h'⟩ := pk_by _ _ _ _ _ _ h p (CsR.refl _)
  refine ⟨l', ?_, h'⟩
  have h2 : BvF w' F (.slice a n c) l' := h'
  obtain ⟨a', c', hs⟩ := h2.bv.shape
  cases hs; rfl
theorem tEnF_cells2 {w : World} {F : Nat → Prop} {cs : List Value} {r : EnV} (h : tEnF.rep w F cs r) : ∃ a c, cs = [.int .i64 r.1, .slice a r.2.length c] ∧ BvF w F (.slice a r.2.length c) r.2 := by
  obtain ⟨_, c2, rfl, ⟨rfl, _⟩, h2⟩ := h
  obtain ⟨a, c, rfl, _⟩ := byF_cells h2
  exact ⟨a, c, rfl, h2⟩
theorem AgV.imp {α : Type} {s t : Ty α} (h : Imp s t) {w : World} {F : Nat → Prop} {v : Value} {x : α} (hv : AgV s w F v x) : AgV t w F v x := by
  obtain ⟨cs, hcs, hr⟩ := hv; exact ⟨cs, hcs, h.2 _ _ _ _ hr⟩
set_option maxHeartbeats 8000000 in
theorem NetReads_c {w : World} {F0 : Nat → Prop} {v : Value} {l : List UInt8} (HS1 : Bv w F0 v l) : CallsR Try.prog 9 #[v] w (fun o w' => o = .bool true ∧ Ext w w') := by
  obtain ⟨a1, c1, rfl⟩ := HS1.shape
  refine enter 88 Try.func9 rfl rfl (by simp) ?_
  refine c_seq ?_
  have E := Keep.refl (K := NoK) w
  replace HS1 := HS1.all
  refine wp_reg (by decide +kernel) ?_
  refine l_v (v_assign rfl) ?_
  refine l_nil ?_
  refine n_then ?_
  refine c_seq ?_
  refine c_seq ?_
  refine wp_reg (by decide +kernel) ?_
  refine l_v (v_move (t := .slice _ _ _) rfl) ?_
  refine l_v (v_len (et := 5) (by kernel_rfl) rfl) ?_
  refine l_v (v_gtr rfl rfl) ?_
  refine l_nil ?_
  refine n_then ?_
  refine c_cond rfl rfl (fun hc => ?_) (fun hc => ?_)
  · skip
    refine c_seq ?_
    refine wp_reg (by decide +kernel) ?_
    refine l_to (to_f0 (by kernel_rfl) (CallsR.mono (known_c) ?_))
    rintro _ w101 ⟨rfl, e101⟩
    have zs_e101 := e101.size
    replace E := E.trans (Ext.keep e101)
    replace HS1 := HS1.ext e101
    refine l_v (v_assign (t := .bool _) rfl) ?_
    refine l_nil ?_
    refine n_then ?_
    refine c_ret ?_
    refine r_then ?_
    refine ret1v rfl (by decide) (show _ = (Value.bool _) from rfl) ?_
    exact ⟨rfl, E⟩
  · skip
    have hc := dfalse hc
    have hl : l.length ≤ 60000 := by omega
    refine c_skip ?_
    refine n_then ?_
    refine c_seq ?_
    refine wp_reg (by decide +kernel) ?_
    refine l_v (v_move (t := .slice _ _ _) rfl) ?_
    refine l_to (to_appNil (et := 5) (bytes := 1) (F := NoK) (by kernel_rfl) rfl (show _ = (Value.slice _ _ _) from rfl) HS1 (fun cs z h => h) (by omega) ?_)
    rintro v5 w5 HO5 e5
    have zs_e5 := e5.size
    obtain ⟨a5, c5, rfl⟩ := HO5.shape
    replace E := E.trans (Ext.keep e5)
    replace HS1 := HS1.ext e5
    have zo_HO5 := fun (b : Nat) h => HO5.own_lt (b := b) h
    refine l_to (to_slice1 (t := tU8) (et := 5) (bytes := 1) (by kernel_rfl) (by decide) (show _ = (Value.int _ _) from rfl) (rep_u8 (F := NoK) (119 : UInt8) rfl) ?_)
    rintro b6 w6 zb6 HO6 e6 z6
    have zs_e6 := e6.size
    replace E := E.trans (Ext.keep e6)
    replace HS1 := HS1.ext e6
    replace HO5 := HO5.ext e6
    have zo_HO6 := fun (b : Nat) h => HO6.own_lt (b := b) h
    refine l_to (to_append (et := 5) (bytes := 1) (by kernel_rfl) (show _ = (Value.slice _ _ _) from rfl) HO5 (show _ = (Value.slice _ _ _) from rfl) HO6.view (fun cs z h => h) (by first | omega | (simp; done) | (simp; omega)) (by simp only [maxLen]; first | omega | (simp; done) | (simp; omega)) (by omega) ?_)
    rintro a7 n7 c7 w7 HO7 hn7 k7 h7 i7
    have zs_k7 := k7.size
    replace E := E.step k7 (by intro i hi he; have he0 := he; (try dsimp only [NoK] at hi he ⊢); (try simp only [Value.ownBlock, Option.some.injEq] at he); first | exact he.elim | omega | exact he | (have := (HO5).own_lt he0; omega) | (have := zo_HO5 _ he0; omega) | (have := (HO5).own_lt he0; rcases hi with hi | hi <;> omega))
    replace HS1 := HS1.keep k7 (by intro i _ hi he; have he0 := he; (try dsimp only [NoK, AllB] at hi he); (try simp only [Value.ownBlock, Option.some.injEq] at he); first | exact hi.elim | exact he.elim | omega | (rcases hi with hi | hi <;> omega) | (rcases he with he | he <;> omega) | (have := (HO5).own_lt he0; omega) | (have := zo_HO5 _ he0; omega) | (have := (HO5).own_lt he0; rcases hi with hi | hi <;> omega))
    replace HO6 := HO6.keep k7 (by intro i ho he; have he0 := he; have ho0 := ho; (try dsimp only [NoK] at he); (try simp only [Value.ownBlock, Option.some.injEq, reduceCtorEq] at ho); (try simp only [Value.ownBlock, Option.some.injEq, reduceCtorEq] at he); first | exact he.elim | exact ho.elim | omega | (have := zo_HO6 _ ho0; omega) | (have := (HO5).own_lt he0; omega) | (have := zo_HO5 _ he0; omega) | (have := zo_HO6 _ ho0; have := (HO5).own_lt he0; omega)) (by intro i _ hi _ he; have he0 := he; have hi := hi; have he := he; (try dsimp only [NoK, AllB] at hi he); (try simp only [Value.ownBlock, Option.some.injEq, reduceCtorEq] at he); all_goals first | exact hi.elim | exact hi.1.elim | exact he.elim | omega | (rcases hi with hi | hi <;> omega) | (rcases he with he | he <;> omega) | (have := (HO5).own_lt he0; omega) | (have := zo_HO5 _ he0; omega) | (have := (HO5).own_lt he0; rcases hi with hi | hi <;> omega))
    have zo_HO7 := fun (b : Nat) h => HO7.own_lt (b := b) h
    have hn7 : n7 = l.length + 1 := by rw [hn7]; simp
    have HS7 : Bv w7 (fun b => b < w7.heap.size) (.slice a7 n7 c7) (l ++ [119]) := HO7.view.all
    obtain ⟨n1, hn1⟩ : ∃ n, n = w7.heap.size := ⟨_, rfl⟩
    have hcap7 := HS7.cap
    have hpre : ((l ++ [119]).take l.length).drop 0 = l := by simp
    have HS8 := HS7.sub (l := 0) (h := l.length) (by omega) (by simp)
    rw [hpre] at HS8
    refine l_v (v_assign (t := .slice _ _ _) rfl) ?_
    refine l_nil ?_
    refine n_then ?_
    refine c_seq ?_
    refine wp_reg (by decide +kernel) ?_
    refine l_v (v_move (t := .slice _ _ _) rfl) ?_
    refine l_v (v_move (t := .slice _ _ _) rfl) ?_
    refine l_v (v_len (et := 5) (by kernel_rfl) rfl) ?_
    refine l_v (v_slice (et := 5) (sz := 1) (l := 0) (h := l.length) (by kernel_rfl) (by kernel_rfl) rfl rfl ⟨.i64, ((show _ = Value.int _ _ from rfl)).trans (congrArg (Value.int _) (by omega))⟩ (by omega) (by omega)) ?_
    refine l_to (to_f1 (by kernel_rfl) (show _ = (Value.slice _ _ _) from rfl) (CallsR.mono (nReadF_c HS8 (by omega)) ?_))
    rintro _ w9 ⟨⟨x9, rfl, HG9⟩, e9⟩
    have zs_e9 := e9.size
    replace HG9 := HG9.mono (F' := fun i => n1 ≤ i ∧ i < w9.heap.size) fun b hb h => ⟨by omega, hb⟩
    obtain ⟨n2, hn2⟩ : ∃ n, n = w9.heap.size := ⟨_, rfl⟩
    rw [← hn2] at HG9
    obtain ⟨am, cm, az, cz, rfl, HSe, HFz, hw9⟩ := HG9.msG
    replace HFz : BvF w9 (fun i => n1 ≤ i ∧ i < n2) (.slice az (readN l).1.snap.length cz) (readN l).1.snap := HFz
    obtain ⟨m, hm⟩ : ∃ m, m = (readN l).1 := ⟨_, rfl⟩
    rw [← hm] at HSe HFz hw9 HG9 ⊢
    have hmx1 := HFz.bv.len_max
    have hmx2 := HSe.len_max
    have HG9' := AgV.imp (imp_tMsG imp_tEnF) HG9
    replace E := E.trans (Ext.keep e9)
    replace HS1 := HS1.ext e9
    replace HS7 := HS7.ext e9
    replace HS8 := HS8.ext e9
    refine l_v (v_move (t := .tuple _) rfl) ?_
    refine l_v (v_extract (t := .agg _) rfl rfl) ?_
    refine l_v (v_extract (t := .int _ _) rfl rfl) ?_
    refine l_to (to_alloc (z := (.agg #[.int .i64 0, .int .i64 0, .int .i64 0, .int .i64 0, .int .i64 0, .int .i64 0, .int .i64 0, .int .i64 0, .slice none 0 0, .bool false, .slice none 0 0])) (by unfold kZero; kernel_rfl) ?_)
    rintro b10 w10 zb10 HB10 e10 z10
    have zs_e10 := e10.size
    replace E := E.trans (Ext.keep e10)
    replace HS1 := HS1.ext e10
    replace HS7 := HS7.ext e10
    replace HSe := HSe.ext e10
    replace HFz := HFz.ext e10
    replace HG9' := HG9'.ext e10
    try simp only [Value.cells] at HB10
    refine l_to (to_storeA (n := 11) rfl rfl (show _ = (Value.agg _) from rfl) (by kernel_rfl) rfl (by first | (simp [slice_one]; done) | (simp only [List.forall_mem_cons, List.cons_append, List.nil_append]; repeat' (first | exact rfl | apply And.intro | (intro u hu; cases hu; done)))) HB10 (by first | exact of_decide_eq_true rfl | (simp; done) | decide) ?_)
    rintro w102 HX102 k102 z102
    have zs_k102 := k102.size
    replace E := E.step k102 (by intro i hi he; (try dsimp only [NoK] at hi he ⊢); first | exact he.elim | omega | exact he)
    replace HS1 := HS1.keep k102 (by intro i _ hi he; (try dsimp only [NoK, AllB] at hi he); first | exact hi.elim | exact he.elim | omega | (rcases hi with hi | hi <;> omega) | (rcases he with he | he <;> omega))
    replace HS7 := HS7.keep k102 (by intro i _ hi he; (try dsimp only [NoK, AllB] at hi he); first | exact hi.elim | exact he.elim | omega | (rcases hi with hi | hi <;> omega) | (rcases he with he | he <;> omega))
    replace HSe := HSe.keep k102 (by intro i _ hi he; (try dsimp only [NoK, AllB] at hi he); first | exact hi.elim | exact he.elim | omega | (rcases hi with hi | hi <;> omega) | (rcases he with he | he <;> omega))
    replace HFz := HFz.keep k102 (by first | exact fun h => h | (intro h; have he0 := h; have h := h; (try dsimp only at h); (try simp only [Value.ownBlock, Option.some.injEq] at h); (try simp only [add_block] at h); (try simp only [add_block] at he0); first | omega) | (intro i _ hi he; have he0 := he; have hi := hi; have he := he; (try dsimp only [NoK, AllB] at hi he); (try simp only [Value.ownBlock, Option.some.injEq] at he); first | exact hi.elim | exact he.elim | omega | (rcases hi with hi | hi <;> omega) | (rcases he with he | he <;> omega)))
    replace HG9' := HG9'.keep k102 (by intro i _ hi he; (try dsimp only [NoK, AllB] at hi he); first | exact hi.elim | exact he.elim | omega | (rcases hi with hi | hi <;> omega) | (rcases he with he | he <;> omega))
    replace HB10 := HX102
    clear HX102
    try simp only [List.set_cons_zero, List.set_cons_succ, setAt, List.take_zero, List.take_succ_cons, List.drop_zero, List.drop_succ_cons, List.nil_append, List.cons_append, List.append_nil, List.length_cons, List.length_nil, Nat.zero_add, Nat.reduceAdd, List.drop_nil] at HB10
    refine l_v (v_assign (t := .int _ _) rfl) ?_
    refine l_nil ?_
    refine n_then ?_
    refine c_seq ?_
    refine wp_reg (by decide +kernel) ?_
    refine l_v (v_move (t := .slice _ _ _) rfl) ?_
    refine l_to (to_f1 (by kernel_rfl) (show _ = (Value.slice _ _ _) from rfl) (CallsR.mono (refRead_c HS1 (by omega)) ?_))
    rintro _ w11 ⟨⟨x11, rfl, HG11⟩, e11⟩
    have zs_e11 := e11.size
    replace HG11 := HG11.mono (F' := fun i => i < w11.heap.size) fun b hb h => hb
    rw [← hm] at HG11
    obtain ⟨a12, c12, a13, c13, rfl, _, _, _⟩ := HG11.ms
    replace E := E.trans (Ext.keep e11)
    replace HS1 := HS1.ext e11
    replace HS7 := HS7.ext e11
    replace HSe := HSe.ext e11
    replace HFz := HFz.ext e11
    replace HG9' := HG9'.ext e11
    replace HB10 := HB10.ext e11
    refine l_v (v_move (t := .tuple _) rfl) ?_
    refine l_v (v_extract (t := .agg _) rfl rfl) ?_
    refine l_v (v_extract (t := .int _ _) rfl rfl) ?_
    refine l_to (to_alloc (z := (.agg #[.int .i64 0, .int .i64 0, .int .i64 0, .int .i64 0, .int .i64 0, .int .i64 0, .int .i64 0, .int .i64 0, .slice none 0 0, .bool false, .slice none 0 0])) (by unfold kZero; kernel_rfl) ?_)
    rintro b14 w14 zb14 HB14 e14 z14
    have zs_e14 := e14.size
    replace E := E.trans (Ext.keep e14)
    replace HS1 := HS1.ext e14
    replace HS7 := HS7.ext e14
    replace HSe := HSe.ext e14
    replace HFz := HFz.ext e14
    replace HG9' := HG9'.ext e14
    replace HB10 := HB10.ext e14
    replace HG11 := HG11.ext e14
    try simp only [Value.cells] at HB14
    refine l_to (to_storeA (n := 11) rfl rfl (show _ = (Value.agg _) from rfl) (by kernel_rfl) rfl (by first | (simp [slice_one]; done) | (simp only [List.forall_mem_cons, List.cons_append, List.nil_append]; repeat' (first | exact rfl | apply And.intro | (intro u hu; cases hu; done)))) HB14 (by first | exact of_decide_eq_true rfl | (simp; done) | decide) ?_)
    rintro w103 HX103 k103 z103
    have zs_k103 := k103.size
    replace E := E.step k103 (by intro i hi he; (try dsimp only [NoK] at hi he ⊢); first | exact he.elim | omega | exact he)
    replace HS1 := HS1.keep k103 (by intro i _ hi he; (try dsimp only [NoK, AllB] at hi he); first | exact hi.elim | exact he.elim | omega | (rcases hi with hi | hi <;> omega) | (rcases he with he | he <;> omega))
    replace HS7 := HS7.keep k103 (by intro i _ hi he; (try dsimp only [NoK, AllB] at hi he); first | exact hi.elim | exact he.elim | omega | (rcases hi with hi | hi <;> omega) | (rcases he with he | he <;> omega))
    replace HSe := HSe.keep k103 (by intro i _ hi he; (try dsimp only [NoK, AllB] at hi he); first | exact hi.elim | exact he.elim | omega | (rcases hi with hi | hi <;> omega) | (rcases he with he | he <;> omega))
    replace HFz := HFz.keep k103 (by first | exact fun h => h | (intro h; have he0 := h; have h := h; (try dsimp only at h); (try simp only [Value.ownBlock, Option.some.injEq] at h); (try simp only [add_block] at h); (try simp only [add_block] at he0); first | omega) | (intro i _ hi he; have he0 := he; have hi := hi; have he := he; (try dsimp only [NoK, AllB] at hi he); (try simp only [Value.ownBlock, Option.some.injEq] at he); first | exact hi.elim | exact he.elim | omega | (rcases hi with hi | hi <;> omega) | (rcases he with he | he <;> omega)))
    replace HG9' := HG9'.keep k103 (by intro i _ hi he; (try dsimp only [NoK, AllB] at hi he); first | exact hi.elim | exact he.elim | omega | (rcases hi with hi | hi <;> omega) | (rcases he with he | he <;> omega))
    replace HB10 := HB10.keep k103 (by intro h; (try dsimp only at h); first | omega)
    replace HG11 := HG11.keep k103 (by intro i _ hi he; (try dsimp only [NoK, AllB] at hi he); first | exact hi.elim | exact he.elim | omega | (rcases hi with hi | hi <;> omega) | (rcases he with he | he <;> omega))
    replace HB14 := HX103
    clear HX103
    try simp only [List.set_cons_zero, List.set_cons_succ, setAt, List.take_zero, List.take_succ_cons, List.drop_zero, List.drop_succ_cons, List.nil_append, List.cons_append, List.append_nil, List.length_cons, List.length_nil, Nat.zero_add, Nat.reduceAdd, List.drop_nil] at HB14
    refine l_v (v_assign (t := .int _ _) rfl) ?_
    refine l_nil ?_
    refine n_then ?_
    refine c_seq ?_
    refine c_seq ?_
    refine wp_reg (by decide +kernel) ?_
    refine l_v (v_loadA (by kernel_rfl) rfl (by first | exact HB14.pv | exact HB10.pv | assumption) rfl) ?_
    refine l_v (v_loadA (by kernel_rfl) rfl (by first | exact HB14.pv | exact HB10.pv | assumption) rfl) ?_
    refine l_to (to_f2 (by kernel_rfl) (show _ = (Value.agg _) from rfl) (show _ = (Value.agg _) from rfl) (CallsR.mono (refSame_self HG9' HG11) ?_))
    rintro _ w104 ⟨rfl, e104⟩
    have zs_e104 := e104.size
    replace E := E.trans (Ext.keep e104)
    replace HS1 := HS1.ext e104
    replace HS7 := HS7.ext e104
    replace HSe := HSe.ext e104
    replace HFz := HFz.ext e104
    replace HG9' := HG9'.ext e104
    replace HB10 := HB10.ext e104
    replace HG11 := HG11.ext e104
    replace HB14 := HB14.ext e104
    refine l_v (v_not rfl) ?_
    refine l_v (v_move (t := .bool _) rfl) ?_
    refine l_g1 rfl rfl (fun hG => v_move (t := .int _ _) rfl) ?_
    refine l_g1f rfl rfl (fun hG => to_f1 (by kernel_rfl) (gd hG rfl) (num_c)) ?_
    rintro w105 e105
    have zs_e105 := e105.size
    replace E := E.trans (Ext.keep e105)
    replace HS1 := HS1.ext e105
    replace HS7 := HS7.ext e105
    replace HSe := HSe.ext e105
    replace HFz := HFz.ext e105
    replace HG9' := HG9'.ext e105
    replace HB10 := HB10.ext e105
    replace HG11 := HG11.ext e105
    replace HB14 := HB14.ext e105
    refine l_g1 rfl rfl (fun hG => v_move (t := .int _ _) rfl) ?_
    refine l_g1 rfl rfl (fun hG => v_neq (gd hG rfl) (gd hG rfl)) ?_
    refine l_v (v_or rfl rfl) ?_
    refine l_nil ?_
    refine n_then ?_
    refine c_cond rfl rfl (fun hs => ?_) (fun hs => ?_)
    · skip
      simp at hs
    · skip
      refine c_skip ?_
      refine n_then ?_
      refine c_seq ?_
      refine c_seq ?_
      refine wp_reg (by decide +kernel) ?_
      refine l_v (v_assign rfl) ?_
      refine l_nil ?_
      refine n_then ?_
      refine c_block ?_
      refine c_loop (τ := Nat × List UInt8 × List EnV) [8, 42, 43, 44, 45, 46, 47, 48, 49, 50, 51, 52] (fun (i, s, es) => [(8, .int .i64 i)]) (fun (i, s, es) W => Ext w W ∧ Keep (fun i => n1 ≤ i ∧ i < n2) w105 W ∧ i ≤ m.snap.length ∧ s.length = m.snap.length ∧ es.length = m.ents.length ∧ BvF W (fun i => n1 ≤ i ∧ i < n2) (.slice az m.snap.length cz) s ∧ SlV tEnF W (fun i => n1 ≤ i ∧ i < n2) (.slice am m.ents.length cm) es) (fun (i, s, es) => m.snap.length - i) (0, m.snap, m.ents) (by exact ⟨rfl, trivial⟩) (by exact ⟨E, Keep.refl _, Nat.zero_le _, rfl, rfl, HFz, HSe⟩) ?_
      rintro ⟨i, s, es⟩ w106 j ⟨E, EL1, h1, hsl, hel, HFz, HSe⟩
      have zs_EL1 := EL1.size
      replace HS1 := HS1.keep EL1 (by intro i _ hi he; (try dsimp only [NoK, AllB] at hi he); first | exact hi.elim | exact he.elim | omega | (rcases hi with hi | hi <;> omega) | (rcases he with he | he <;> omega))
      replace HS7 := HS7.keep EL1 (by intro i _ hi he; (try dsimp only [NoK, AllB] at hi he); first | exact hi.elim | exact he.elim | omega | (rcases hi with hi | hi <;> omega) | (rcases he with he | he <;> omega))
      replace HB10 := HB10.keep EL1 (by intro h; (try dsimp only at h); first | omega)
      refine c_seq ?_
      refine c_seq ?_
      refine wp_reg (by decide +kernel) ?_
      refine l_v (v_move (t := .int _ _) rfl) ?_
      refine l_v (v_fieldAddr (off := 10) (ft := 24) (by kernel_rfl) rfl) ?_
      refine l_v (v_load (by kernel_rfl) rfl (by first | exact HB10.pv 10 _ rfl | assumption)) ?_
      refine l_v (v_len (et := 5) (by kernel_rfl) rfl) ?_
      refine l_v (v_lss rfl rfl) ?_
      refine l_nil ?_
      refine n_then ?_
      refine c_cond rfl rfl (fun hlt => ?_) (fun hlt => ?_)
      · skip
        have hlt := dtrue hlt
        obtain ⟨r, hx, _⟩ := getE (l := s) (i := i) (by omega)
        obtain ⟨q1, cs1, hq1, hF1, _, _, _⟩ := HFz.bv.el hx
        subst hq1
        refine c_skip ?_
        refine n_then ?_
        refine c_seq ?_
        refine c_block ?_
        refine wp_reg (by decide +kernel) ?_
        refine l_v (v_fieldAddr (off := 10) (ft := 24) (by kernel_rfl) rfl) ?_
        refine l_v (v_load (by kernel_rfl) rfl (by first | exact HB10.pv 10 _ rfl | assumption)) ?_
        refine l_v (v_move (t := .int _ _) rfl) ?_
        refine l_v (v_indexAddr (et := 5) (sz := 1) (k := i) (by kernel_rfl) (by kernel_rfl) rfl rfl (by first | rfl | omega) (by omega)) ?_
        refine l_to (to_poke (k := i) (z := 102) rfl rfl (show _ = (Value.int _ _) from rfl) (by kernel_rfl) HFz (by omega) ?_)
        rintro w20 p20 k20 z20
        have zs_k20 := k20.size
        obtain ⟨s2, hs2, HF20⟩ := BvF.poke HFz p20 hsl
        obtain ⟨es2, hl2, HS20⟩ := Pk.sl pk_tEnF HSe p20
        replace E := E.step k20 (by intro i hi he; (try dsimp only [NoK] at hi he ⊢); first | exact he.elim | omega | exact he)
        replace HS1 := HS1.keep k20 (by intro i _ hi he; (try dsimp only [NoK, AllB] at hi he); first | exact hi.elim | exact he.elim | omega | (rcases hi with hi | hi <;> omega) | (rcases he with he | he <;> omega))
        replace HS7 := HS7.keep k20 (by intro i _ hi he; (try dsimp only [NoK, AllB] at hi he); first | exact hi.elim | exact he.elim | omega | (rcases hi with hi | hi <;> omega) | (rcases he with he | he <;> omega))
        replace HB10 := HB10.keep k20 (by intro h; (try dsimp only at h); first | omega)
        replace EL1 := EL1.step k20 (by intro i hi he; (try dsimp only [NoK] at hi he ⊢); first | exact he.elim | omega | exact he)
        refine l_nil ?_
        refine n_blk ?_
        refine n_then ?_
        refine wp_reg (by decide +kernel) ?_
        refine l_v (v_move (t := .int _ _) rfl) ?_
        refine l_v (v_add rfl rfl (by first | exact wr_i64 (by omega) (by omega) | rfl)) ?_
        refine l_v (v_assign (t := .int _ _) rfl) ?_
        refine l_nil ?_
        refine n_then ?_
        refine ⟨(i + 1, s2, es2), _, rfl, by (repeat (first | exact Off.of_over _ _ _ | refine Off.upd ?_ (by decide) _ | refine Off.overs ?_ (by decide) _)), ⟨by first | rfl | exact congrArg (Value.int _) (by omega) | (simp; done), trivial⟩, ⟨E, EL1, ?_⟩, ?_⟩
        · skip
          exact ⟨by omega, hs2, by omega, HF20, HS20⟩
        · (dsimp only; omega)
      · skip
        refine c_exit ?_
        refine x_then ?_
        refine x_then ?_
        refine x_hit ?_
        refine n_then ?_
        refine c_seq ?_
        refine c_seq ?_
        refine wp_reg (by decide +kernel) ?_
        refine l_v (v_assign rfl) ?_
        refine l_nil ?_
        refine n_then ?_
        refine c_block ?_
        refine c_loop (τ := Nat × List EnV) [9, 10, 53, 54, 55, 56, 57, 58, 59, 60, 61, 62, 63, 64, 65, 66, 67, 68, 69, 70, 71, 72, 73, 74, 75, 76, 77, 78] (fun (i, es) => [(9, .int .i64 i)]) (fun (i, es) W => Ext w W ∧ Keep (fun i => n1 ≤ i ∧ i < n2) w106 W ∧ i ≤ m.ents.length ∧ es.length = m.ents.length ∧ SlV tEnF W (fun i => n1 ≤ i ∧ i < n2) (.slice am m.ents.length cm) es) (fun (i, es) => m.ents.length - i) (0, es) (by exact ⟨rfl, trivial⟩) (by exact ⟨E, Keep.refl _, Nat.zero_le _, hel, HSe⟩) ?_
        rintro ⟨i, es⟩ w107 j ⟨E, EL2, h1, hel, HSe⟩
        have zs_EL2 := EL2.size
        replace HS1 := HS1.keep EL2 (by intro i _ hi he; (try dsimp only [NoK, AllB] at hi he); first | exact hi.elim | exact he.elim | omega | (rcases hi with hi | hi <;> omega) | (rcases he with he | he <;> omega))
        replace HS7 := HS7.keep EL2 (by intro i _ hi he; (try dsimp only [NoK, AllB] at hi he); first | exact hi.elim | exact he.elim | omega | (rcases hi with hi | hi <;> omega) | (rcases he with he | he <;> omega))
        replace HB10 := HB10.keep EL2 (by intro h; (try dsimp only at h); first | omega)
        refine c_seq ?_
        refine c_seq ?_
        refine wp_reg (by decide +kernel) ?_
        refine l_v (v_move (t := .int _ _) rfl) ?_
        refine l_v (v_fieldAddr (off := 8) (ft := 23) (by kernel_rfl) rfl) ?_
        refine l_v (v_load (by kernel_rfl) rfl (by first | exact HB10.pv 8 _ rfl | assumption)) ?_
        refine l_v (v_len (et := 73) (by kernel_rfl) rfl) ?_
        refine l_v (v_lss rfl rfl) ?_
        refine l_nil ?_
        refine n_then ?_
        refine c_cond rfl rfl (fun hlt2 => ?_) (fun hlt2 => ?_)
        · skip
          have hlt2 := dtrue hlt2
          obtain ⟨r, hx, _⟩ := getE (l := es) (i := i) (by omega)
          obtain ⟨q1, cs1, hq1, hF1, _, HP1, hr1⟩ := HSe.el hx
          subst hq1
          obtain ⟨ad, cd, rfl, HFd⟩ := tEnF_cells2 hr1
          have hmx3 := HFd.bv.len_max
          refine c_skip ?_
          refine n_then ?_
          refine c_seq ?_
          refine c_block ?_
          refine c_seq ?_
          refine wp_reg (by decide +kernel) ?_
          refine l_v (v_assign rfl) ?_
          refine l_nil ?_
          refine n_then ?_
          refine c_block ?_
          refine c_loop (τ := Nat × List UInt8 × List EnV) [10, 60, 61, 62, 63, 64, 65, 66, 67, 68, 69, 70, 71, 72, 73, 74, 75, 76, 77, 78] (fun (k, d, es2) => [(10, .int .i64 k)]) (fun (k, d, es2) W => Ext w W ∧ Keep (fun i => n1 ≤ i ∧ i < n2) w107 W ∧ k ≤ r.2.length ∧ d.length = r.2.length ∧ es2.length = m.ents.length ∧ Pv W (q1.add (i * tEnF.sz)) [.int .i64 r.1, .slice ad r.2.length cd] ∧ BvF W (fun i => n1 ≤ i ∧ i < n2) (.slice ad r.2.length cd) d ∧ SlV tEnF W (fun i => n1 ≤ i ∧ i < n2) (.slice (some q1) m.ents.length cm) es2) (fun (k, d, es2) => r.2.length - k) (0, r.2, es) (by exact ⟨rfl, trivial⟩) (by exact ⟨E, Keep.refl _, Nat.zero_le _, rfl, hel, HP1, HFd, HSe⟩) ?_
          rintro ⟨k, d, es2⟩ w108 j ⟨E, EL3, h2, hdl, hel2, HP2, HFd, HSe2⟩
          have zs_EL3 := EL3.size
          replace HS1 := HS1.keep EL3 (by intro i _ hi he; (try dsimp only [NoK, AllB] at hi he); first | exact hi.elim | exact he.elim | omega | (rcases hi with hi | hi <;> omega) | (rcases he with he | he <;> omega))
          replace HS7 := HS7.keep EL3 (by intro i _ hi he; (try dsimp only [NoK, AllB] at hi he); first | exact hi.elim | exact he.elim | omega | (rcases hi with hi | hi <;> omega) | (rcases he with he | he <;> omega))
          replace HB10 := HB10.keep EL3 (by intro h; (try dsimp only at h); first | omega)
          replace EL2 := EL2.step EL3 (by intro i hi he; (try dsimp only [NoK] at hi he ⊢); first | exact he.elim | omega | exact he)
          refine c_seq ?_
          refine c_seq ?_
          refine wp_reg (by decide +kernel) ?_
          refine l_v (v_move (t := .int _ _) rfl) ?_
          refine l_v (v_fieldAddr (off := 8) (ft := 23) (by kernel_rfl) rfl) ?_
          refine l_v (v_load (by kernel_rfl) rfl (by first | exact HP2 8 _ rfl | exact HB10.pv 8 _ rfl | assumption)) ?_
          refine l_v (v_move (t := .int _ _) rfl) ?_
          refine l_v (v_indexAddr (et := 73) (sz := 2) (k := i) (by kernel_rfl) (by kernel_rfl) rfl rfl (by first | rfl | omega) (by omega)) ?_
          refine l_v (v_fieldAddr (off := 1) (ft := 24) (by kernel_rfl) rfl) ?_
          refine l_v (v_load (by kernel_rfl) rfl (by first | exact HP2 1 _ rfl | exact HB10.pv 1 _ rfl | assumption)) ?_
          refine l_v (v_len (et := 5) (by kernel_rfl) rfl) ?_
          refine l_v (v_lss rfl rfl) ?_
          refine l_nil ?_
          refine n_then ?_
          refine c_cond rfl rfl (fun hlt3 => ?_) (fun hlt3 => ?_)
          · skip
            have hlt3 := dtrue hlt3
            obtain ⟨r3, hx3, _⟩ := getE (l := d) (i := k) (by omega)
            obtain ⟨q3, cs3, hq3, hF3, _, _, _⟩ := HFd.bv.el hx3
            subst hq3
            refine c_skip ?_
            refine n_then ?_
            refine c_seq ?_
            refine c_block ?_
            refine wp_reg (by decide +kernel) ?_
            refine l_v (v_fieldAddr (off := 8) (ft := 23) (by kernel_rfl) rfl) ?_
            refine l_v (v_load (by kernel_rfl) rfl (by first | exact HP2 8 _ rfl | exact HB10.pv 8 _ rfl | assumption)) ?_
            refine l_v (v_move (t := .int _ _) rfl) ?_
            refine l_v (v_indexAddr (et := 73) (sz := 2) (k := i) (by kernel_rfl) (by kernel_rfl) rfl rfl (by first | rfl | omega) (by omega)) ?_
            refine l_v (v_fieldAddr (off := 1) (ft := 24) (by kernel_rfl) rfl) ?_
            refine l_v (v_load (by kernel_rfl) rfl (by first | exact HP2 1 _ rfl | exact HB10.pv 1 _ rfl | assumption)) ?_
            refine l_v (v_move (t := .int _ _) rfl) ?_
            refine l_v (v_indexAddr (et := 5) (sz := 1) (k := k) (by kernel_rfl) (by kernel_rfl) rfl rfl (by first | rfl | omega) (by omega)) ?_
            refine l_to (to_poke (k := k) (z := 102) rfl rfl (show _ = (Value.int _ _) from rfl) (by kernel_rfl) HFd (by omega) ?_)
            rintro w30 p30 k30 z30
            have zs_k30 := k30.size
            obtain ⟨d2, hd2, HF30⟩ := BvF.poke HFd p30 hdl
            obtain ⟨es3, hl3, HS30⟩ := Pk.sl pk_tEnF HSe2 p30
            obtain ⟨cs30, HP30, hc30⟩ := Pv.poke HP2 p30
            rw [csr_en hc30] at HP30
            replace E := E.step k30 (by intro i hi he; (try dsimp only [NoK] at hi he ⊢); first | exact he.elim | omega | exact he)
            replace HS1 := HS1.keep k30 (by intro i _ hi he; (try dsimp only [NoK, AllB] at hi he); first | exact hi.elim | exact he.elim | omega | (rcases hi with hi | hi <;> omega) | (rcases he with he | he <;> omega))
            replace HS7 := HS7.keep k30 (by intro i _ hi he; (try dsimp only [NoK, AllB] at hi he); first | exact hi.elim | exact he.elim | omega | (rcases hi with hi | hi <;> omega) | (rcases he with he | he <;> omega))
            replace HB10 := HB10.keep k30 (by intro h; (try dsimp only at h); first | omega)
            replace EL2 := EL2.step k30 (by intro i hi he; (try dsimp only [NoK] at hi he ⊢); first | exact he.elim | omega | exact he)
            replace EL3 := EL3.step k30 (by intro i hi he; (try dsimp only [NoK] at hi he ⊢); first | exact he.elim | omega | exact he)
            refine l_nil ?_
            refine n_blk ?_
            refine n_then ?_
            refine wp_reg (by decide +kernel) ?_
            refine l_v (v_move (t := .int _ _) rfl) ?_
            refine l_v (v_add rfl rfl (by first | exact wr_i64 (by omega) (by omega) | rfl)) ?_
            refine l_v (v_assign (t := .int _ _) rfl) ?_
            refine l_nil ?_
            refine n_then ?_
            refine ⟨(k + 1, d2, es3), _, rfl, by (repeat (first | exact Off.of_over _ _ _ | refine Off.upd ?_ (by decide) _ | refine Off.overs ?_ (by decide) _)), ⟨by first | rfl | exact congrArg (Value.int _) (by omega) | (simp; done), trivial⟩, ⟨E, EL3, ?_⟩, ?_⟩
            · skip
              exact ⟨by omega, hd2, by omega, HP30, HF30, HS30⟩
            · (dsimp only; omega)
          · skip
            refine c_exit ?_
            refine x_then ?_
            refine x_then ?_
            refine x_hit ?_
            refine n_blk ?_
            refine n_then ?_
            refine wp_reg (by decide +kernel) ?_
            refine l_v (v_move (t := .int _ _) rfl) ?_
            refine l_v (v_add rfl rfl (by first | exact wr_i64 (by omega) (by omega) | rfl)) ?_
            refine l_v (v_assign (t := .int _ _) rfl) ?_
            refine l_nil ?_
            refine n_then ?_
            refine ⟨(i + 1, es2), _, rfl, by (repeat (first | exact Off.of_over _ _ _ | refine Off.upd ?_ (by decide) _ | refine Off.overs ?_ (by decide) _)), ⟨by first | rfl | exact congrArg (Value.int _) (by omega) | (simp; done), trivial⟩, ⟨E, EL2, ?_⟩, ?_⟩
            · skip
              exact ⟨by omega, hel2, HSe2⟩
            · (dsimp only; omega)
        · skip
          refine c_exit ?_
          refine x_then ?_
          refine x_then ?_
          refine x_hit ?_
          refine n_then ?_
          refine c_seq ?_
          refine wp_reg (by decide +kernel) ?_
          refine l_v (v_move (t := .slice _ _ _) rfl) ?_
          refine l_v (v_b2s (et := 5) (by kernel_rfl) (by kernel_rfl) (by kernel_rfl) rfl (by first | exact HS7 | exact HS1 | assumption)) ?_
          refine l_v (v_move (t := .slice _ _ _) rfl) ?_
          refine l_v (v_b2s (et := 5) (by kernel_rfl) (by kernel_rfl) (by kernel_rfl) rfl (by first | exact HS7 | exact HS1 | assumption)) ?_
          refine l_v (v_scat rfl rfl (by first | omega | (simp; omega))) ?_
          refine l_v (v_seq rfl rfl) ?_
          refine l_v (v_move (t := .bool _) rfl) ?_
          refine l_g1f rfl rfl (fun hG => to_f0 (by kernel_rfl) (known_c)) ?_
          rintro w109 e109
          have zs_e109 := e109.size
          replace E := E.trans (Ext.keep e109)
          replace HS1 := HS1.ext e109
          replace HS7 := HS7.ext e109
          replace HB10 := HB10.ext e109
          refine l_v (v_and rfl rfl) ?_
          refine l_v (v_assign (t := .bool _) rfl) ?_
          refine l_nil ?_
          refine n_then ?_
          refine c_ret ?_
          refine ret1v rfl (by decide) (show _ = (Value.bool _) from rfl) ?_
          exact ⟨by simp, E⟩
end Go.Proofs.Ytaidpdjlchnonaa
