/- A part of the proof: steps and lemmas for the walks through the given program. -/
import Derived.Test.YtaidpdjlchnonaaN35
namespace Go.Proofs.Ytaidpdjlchnonaa
open Go.Vc
set_option linter.unusedVariables false
set_option linter.unusedSimpArgs false
set_option maxRecDepth 100000

theorem EqualFuncM_c {w : World} {F G : Nat → Prop} {v u : Value} {rs ss : List Ms} (HSr : SlV tMs w F v rs) (HSs : SlV tMs w G u ss) : CallsR Try.prog 74 #[v, u, .func (.func 28) #[] #[]] w (fun o w' => o = .bool (decide (rs = ss)) ∧ Ext w w') := by
  obtain ⟨a, c, rfl⟩ := HSr.shape
  obtain ⟨a2, c2, rfl⟩ := HSs.shape
  have hmx := HSr.len_max
  have hmx2 := HSs.len_max
  refine enter 32 Try.func74 rfl rfl (by simp) ?_
  refine c_seq ?_
  have E := Keep.refl (K := NoK) w
  replace HSr := HSr.all
  replace HSs := HSs.all
  refine wp_reg (by decide +kernel) ?_
  refine l_v (v_assign rfl) ?_
  refine l_nil ?_
  refine n_then ?_
  refine c_seq ?_
  refine c_seq ?_
  refine wp_reg (by decide +kernel) ?_
  refine l_v (v_move (t := .slice _ _ _) rfl) ?_
  refine l_v (v_len (et := 26) (by kernel_rfl) rfl) ?_
  refine l_v (v_move (t := .slice _ _ _) rfl) ?_
  refine l_v (v_len (et := 26) (by kernel_rfl) rfl) ?_
  refine l_v (v_neq rfl rfl) ?_
  refine l_nil ?_
  refine n_then ?_
  refine c_cond rfl rfl (fun hc => ?_) (fun hc => ?_)
  · skip
    refine c_seq ?_
    refine wp_reg (by decide +kernel) ?_
    refine l_v (v_assign rfl) ?_
    refine l_nil ?_
    refine n_then ?_
    refine c_ret ?_
    refine r_then ?_
    refine ret1v rfl (by decide) (show _ = (Value.bool _) from rfl) ?_
    refine ⟨?_, E⟩
    rw [decide_eq_false]
    intro h; subst h; simp at hc
  · skip
    have hlen : rs.length = ss.length := by simp at hc; omega
    refine c_skip ?_
    refine n_then ?_
    refine c_seq ?_
    refine c_seq ?_
    refine wp_reg (by decide +kernel) ?_
    refine l_v (v_move (t := .slice _ _ _) rfl) ?_
    refine l_v (v_len (et := 26) (by kernel_rfl) rfl) ?_
    refine l_v (v_move rfl) ?_
    refine l_nil ?_
    refine n_then ?_
    refine c_block ?_
    refine c_loop (τ := Nat) [6, 7, 8, 9, 17, 18, 19, 20, 21, 22, 23, 24, 25, 26, 27, 28, 29, 30, 31] (fun i => [(17, .int .i64 i)]) (fun i W => Ext w W ∧ Keep (NoK) w W ∧ i ≤ rs.length ∧ rs.take i = ss.take i) (fun i => rs.length - i) 0 (by exact ⟨rfl, trivial⟩) (by exact ⟨E, Keep.refl _, Nat.zero_le _, rfl⟩) ?_
    rintro i w101 j ⟨E, EL1, h1, h2⟩
    have zs_EL1 := EL1.size
    replace HSr := HSr.ext EL1
    replace HSs := HSs.ext EL1
    refine c_seq ?_
    refine wp_reg (by decide +kernel) ?_
    refine l_v (v_lss rfl rfl) ?_
    refine l_nil ?_
    refine n_then ?_
    refine c_seq ?_
    refine c_cond rfl rfl (fun hlt => ?_) (fun hlt => ?_)
    · skip
      have hlt := dtrue hlt
      obtain ⟨r, hx, hdr⟩ := getE (l := rs) (i := i) (by omega)
      obtain ⟨s, hy, hds⟩ := getE (l := ss) (i := i) (by omega)
      obtain ⟨q1, cs1, rfl, hq1, _, HP1, hr1⟩ := HSr.el hx
      obtain ⟨q2, cs2, rfl, hq2, _, HP2, hr2⟩ := HSs.el hy
      have HG5 : AgV tMs _ _ _ r := ⟨cs1, rfl, hr1⟩
      have HG6 : AgV tMs _ _ _ s := ⟨cs2, rfl, hr2⟩
      obtain ⟨b1, d1, b2, d2, rfl, _⟩ := tMs_cells hr1
      obtain ⟨b3, d3, b4, d4, rfl, _⟩ := tMs_cells hr2
      refine c_skip ?_
      refine n_then ?_
      refine c_seq ?_
      refine c_block ?_
      refine c_seq ?_
      refine wp_reg (by decide +kernel) ?_
      refine l_v (v_move (t := .int _ _) rfl) ?_
      refine l_v (v_indexAddr (et := 26) (sz := 11) (k := i) (by kernel_rfl) (by kernel_rfl) rfl rfl (by first | rfl | omega) (by omega)) ?_
      refine l_v (v_loadA (by kernel_rfl) rfl (by first | exact HP2 | exact HP1 | assumption) rfl) ?_
      refine l_to (to_alloc (z := (.agg #[.int .i64 0, .int .i64 0, .int .i64 0, .int .i64 0, .int .i64 0, .int .i64 0, .int .i64 0, .int .i64 0, .slice none 0 0, .bool false, .slice none 0 0])) (by unfold kZero; kernel_rfl) ?_)
      rintro b8 w8 zb8 HB8 e8 z8
      have zs_e8 := e8.size
      replace E := E.trans (Ext.keep e8)
      replace HSr := HSr.ext e8
      replace HSs := HSs.ext e8
      replace EL1 := EL1.trans (Ext.keep e8)
      replace HP1 := HP1.ext e8
      replace HP2 := HP2.ext e8
      replace HG5 := HG5.ext e8
      replace HG6 := HG6.ext e8
      try simp only [Value.cells] at HB8
      refine l_v (v_assign (t := .int _ _) rfl) ?_
      refine l_to (to_storeA (n := 11) rfl rfl (show _ = (Value.agg _) from rfl) (by kernel_rfl) rfl (by first | (simp [slice_one]; done) | (simp only [List.forall_mem_cons, List.cons_append, List.nil_append]; repeat' (first | exact rfl | apply And.intro | (intro u hu; cases hu; done)))) HB8 (by first | exact of_decide_eq_true rfl | (simp; done) | decide) ?_)
      rintro w102 HX102 k102 z102
      have zs_k102 := k102.size
      replace E := E.step k102 (by intro i hi he; (try dsimp only [NoK] at hi he ⊢); first | exact he.elim | omega | exact he)
      replace HSr := HSr.keep k102 (by intro i _ hi he; (try dsimp only [NoK, AllB] at hi he); first | exact hi.elim | exact he.elim | omega | (rcases hi with hi | hi <;> omega) | (rcases he with he | he <;> omega))
      replace HSs := HSs.keep k102 (by intro i _ hi he; (try dsimp only [NoK, AllB] at hi he); first | exact hi.elim | exact he.elim | omega | (rcases hi with hi | hi <;> omega) | (rcases he with he | he <;> omega))
      replace EL1 := EL1.step k102 (by intro i hi he; (try dsimp only [NoK] at hi he ⊢); first | exact he.elim | omega | exact he)
      replace HP1 := HP1.keep k102 (by intro h; (try dsimp only at h); (try simp only [add_block] at h); first | omega)
      replace HP2 := HP2.keep k102 (by intro h; (try dsimp only at h); (try simp only [add_block] at h); first | omega)
      replace HG5 := HG5.keep k102 (by intro i _ hi he; (try dsimp only [NoK, AllB] at hi he); first | exact hi.elim | exact he.elim | omega | (rcases hi with hi | hi <;> omega) | (rcases he with he | he <;> omega))
      replace HG6 := HG6.keep k102 (by intro i _ hi he; (try dsimp only [NoK, AllB] at hi he); first | exact hi.elim | exact he.elim | omega | (rcases hi with hi | hi <;> omega) | (rcases he with he | he <;> omega))
      replace HB8 := HX102
      clear HX102
      try simp only [List.set_cons_zero, List.set_cons_succ, setAt, List.take_zero, List.take_succ_cons, List.drop_zero, List.drop_succ_cons, List.nil_append, List.cons_append, List.append_nil, List.length_cons, List.length_nil, Nat.zero_add, Nat.reduceAdd, List.drop_nil] at HB8
      refine l_nil ?_
      refine n_then ?_
      refine c_seq ?_
      refine wp_reg (by decide +kernel) ?_
      refine l_v (v_move (t := .slice _ _ _) rfl) ?_
      refine l_v (v_move (t := .int _ _) rfl) ?_
      refine l_v (v_indexAddr (et := 26) (sz := 11) (k := i) (by kernel_rfl) (by kernel_rfl) rfl rfl (by first | rfl | omega) (by omega)) ?_
      refine l_v (v_loadA (by kernel_rfl) rfl (by first | exact HB8.pv | exact HP2 | exact HP1 | assumption) rfl) ?_
      refine l_to (to_alloc (z := (.agg #[.int .i64 0, .int .i64 0, .int .i64 0, .int .i64 0, .int .i64 0, .int .i64 0, .int .i64 0, .int .i64 0, .slice none 0 0, .bool false, .slice none 0 0])) (by unfold kZero; kernel_rfl) ?_)
      rintro b9 w9 zb9 HB9 e9 z9
      have zs_e9 := e9.size
      replace E := E.trans (Ext.keep e9)
      replace HSr := HSr.ext e9
      replace HSs := HSs.ext e9
      replace EL1 := EL1.trans (Ext.keep e9)
      replace HP1 := HP1.ext e9
      replace HP2 := HP2.ext e9
      replace HG5 := HG5.ext e9
      replace HG6 := HG6.ext e9
      replace HB8 := HB8.ext e9
      try simp only [Value.cells] at HB9
      refine l_to (to_storeA (n := 11) rfl rfl (show _ = (Value.agg _) from rfl) (by kernel_rfl) rfl (by first | (simp [slice_one]; done) | (simp only [List.forall_mem_cons, List.cons_append, List.nil_append]; repeat' (first | exact rfl | apply And.intro | (intro u hu; cases hu; done)))) HB9 (by first | exact of_decide_eq_true rfl | (simp; done) | decide) ?_)
      rintro w103 HX103 k103 z103
      have zs_k103 := k103.size
      replace E := E.step k103 (by intro i hi he; (try dsimp only [NoK] at hi he ⊢); first | exact he.elim | omega | exact he)
      replace HSr := HSr.keep k103 (by intro i _ hi he; (try dsimp only [NoK, AllB] at hi he); first | exact hi.elim | exact he.elim | omega | (rcases hi with hi | hi <;> omega) | (rcases he with he | he <;> omega))
      replace HSs := HSs.keep k103 (by intro i _ hi he; (try dsimp only [NoK, AllB] at hi he); first | exact hi.elim | exact he.elim | omega | (rcases hi with hi | hi <;> omega) | (rcases he with he | he <;> omega))
      replace EL1 := EL1.step k103 (by intro i hi he; (try dsimp only [NoK] at hi he ⊢); first | exact he.elim | omega | exact he)
      replace HP1 := HP1.keep k103 (by intro h; (try dsimp only at h); (try simp only [add_block] at h); first | omega)
      replace HP2 := HP2.keep k103 (by intro h; (try dsimp only at h); (try simp only [add_block] at h); first | omega)
      replace HG5 := HG5.keep k103 (by intro i _ hi he; (try dsimp only [NoK, AllB] at hi he); first | exact hi.elim | exact he.elim | omega | (rcases hi with hi | hi <;> omega) | (rcases he with he | he <;> omega))
      replace HG6 := HG6.keep k103 (by intro i _ hi he; (try dsimp only [NoK, AllB] at hi he); first | exact hi.elim | exact he.elim | omega | (rcases hi with hi | hi <;> omega) | (rcases he with he | he <;> omega))
      replace HB8 := HB8.keep k103 (by intro h; (try dsimp only at h); first | omega)
      replace HB9 := HX103
      clear HX103
      try simp only [List.set_cons_zero, List.set_cons_succ, setAt, List.take_zero, List.take_succ_cons, List.drop_zero, List.drop_succ_cons, List.nil_append, List.cons_append, List.append_nil, List.length_cons, List.length_nil, Nat.zero_add, Nat.reduceAdd, List.drop_nil] at HB9
      refine l_nil ?_
      refine n_then ?_
      refine c_seq ?_
      refine wp_reg (by decide +kernel) ?_
      refine l_v (v_move (t := .func _ _ _) rfl) ?_
      refine l_v (v_loadA (by kernel_rfl) rfl (by first | exact HB9.pv | exact HB8.pv | exact HP2 | exact HP1 | assumption) rfl) ?_
      refine l_v (v_loadA (by kernel_rfl) rfl (by first | exact HB9.pv | exact HB8.pv | exact HP2 | exact HP1 | assumption) rfl) ?_
      refine l_to (to_call2 (by kernel_rfl) rfl (show _ = (Value.agg _) from rfl) (show _ = (Value.agg _) from rfl) (CallsR.mono (Same_c HG5 HG6) ?_))
      rintro _ w10 ⟨rfl, e10⟩
      have zs_e10 := e10.size
      replace E := E.trans (Ext.keep e10)
      replace HSr := HSr.ext e10
      replace HSs := HSs.ext e10
      replace EL1 := EL1.trans (Ext.keep e10)
      replace HP1 := HP1.ext e10
      replace HP2 := HP2.ext e10
      replace HG5 := HG5.ext e10
      replace HG6 := HG6.ext e10
      replace HB8 := HB8.ext e10
      replace HB9 := HB9.ext e10
      refine l_v (v_not rfl) ?_
      refine l_nil ?_
      refine n_then ?_
      refine c_cond rfl rfl (fun h38 => ?_) (fun h38 => ?_)
      · skip
        refine c_seq ?_
        refine wp_reg (by decide +kernel) ?_
        refine l_v (v_assign rfl) ?_
        refine l_nil ?_
        refine n_then ?_
        refine c_ret ?_
        refine r_blk ?_
        refine r_then ?_
        refine r_then ?_
        refine r_blk ?_
        refine r_then ?_
        refine ret1v rfl (by decide) (show _ = (Value.bool _) from rfl) ?_
        refine ⟨?_, E⟩
        rw [decide_eq_false]
        rintro h; cases h
        rw [hx] at hy; cases hy
        simp at h38
      · skip
        refine c_skip ?_
        refine n_blk ?_
        refine n_then ?_
        refine wp_reg (by decide +kernel) ?_
        refine l_v (v_add rfl rfl (by first | exact wr_i64 (by omega) (by omega) | rfl)) ?_
        refine l_v (v_move (t := .int _ _) rfl) ?_
        refine l_nil ?_
        refine n_then ?_
        refine ⟨i + 1, _, rfl, by (repeat (first | exact Off.of_over _ _ _ | refine Off.upd ?_ (by decide) _ | refine Off.overs ?_ (by decide) _)), ⟨by first | rfl | exact congrArg (Value.int _) (by omega) | (simp; done), trivial⟩, ⟨E, EL1, ?_⟩, ?_⟩
        · skip
          refine ⟨by omega, ?_⟩
          have hs : r = s := by simpa using h38
          rw [List.take_add_one, List.take_add_one, hx, hy, h2, hs]
        · (dsimp only; omega)
    · skip
      have hlt := dfalse hlt
      refine c_exit ?_
      refine x_then ?_
      refine x_then ?_
      refine x_hit ?_
      refine n_then ?_
      refine c_seq ?_
      refine wp_reg (by decide +kernel) ?_
      refine l_v (v_assign rfl) ?_
      refine l_nil ?_
      refine n_then ?_
      refine c_ret ?_
      refine ret1v rfl (by decide) (show _ = (Value.bool _) from rfl) ?_
      refine ⟨?_, E⟩
      rw [List.take_of_length_le (by omega), List.take_of_length_le (by omega)] at h2
      rw [decide_eq_true h2]
theorem CloneM_c {w : World} {F : Nat → Prop} {v : Value} {l : List Ms} (HS1 : SlV tMs w F v l) (hn : l.length ≤ 1000000) : CallsR Try.prog 100 #[v] w (fun o w' => SlV tMs w' (fun i => F i ∨ w.heap.size ≤ i) o l ∧ Ext w w') := by
  replace HS1 := HS1.mono (F' := fun b => F b ∧ b < w.heap.size) fun b h1 h2 => ⟨h2, h1⟩
  obtain ⟨a1, c1, rfl⟩ := HS1.shape
  refine enter 8 Try.func100 rfl rfl (by simp) ?_
  refine c_seq ?_
  have E := Keep.refl (K := NoK) w
  refine wp_reg (by decide +kernel) ?_
  refine l_v (v_assign rfl) ?_
  refine l_nil ?_
  refine n_then ?_
  refine c_seq ?_
  refine c_seq ?_
  refine wp_reg (by decide +kernel) ?_
  refine l_v (v_move (t := .slice _ _ _) rfl) ?_
  refine l_v (v_sleneq (et := 26) (by kernel_rfl) rfl rfl) ?_
  refine l_nil ?_
  refine n_then ?_
  refine c_cond rfl rfl (fun hc => ?_) (fun hc => ?_)
  · skip
    refine c_seq ?_
    refine wp_reg (by decide +kernel) ?_
    refine l_v (v_assign rfl) ?_
    refine l_nil ?_
    refine n_then ?_
    refine c_ret ?_
    refine r_then ?_
    refine ret1v rfl (by decide) (show _ = (Value.slice _ _ _) from rfl) ?_
    have hn : a1 = none := by simpa using hc
    subst hn
    obtain ⟨a, c, hv, _, _, h3, _⟩ := HS1
    cases hv
    have : l = [] := List.eq_nil_of_length_eq_zero (by have := h3 rfl; omega)
    subst this
    exact ⟨SlV.nil _ _ _, E⟩
  · skip
    refine c_skip ?_
    refine n_then ?_
    refine c_seq ?_
    refine wp_reg (by decide +kernel) ?_
    refine l_to (to_slice0 (t := tMs) (et := 26) (bytes := 120) (by kernel_rfl) ?_)
    rintro b2 w2 zb2 HO2 e2 z2
    have zs_e2 := e2.size
    replace E := E.trans (Ext.keep e2)
    replace HS1 := HS1.ext e2
    have zo_HO2 := fun (b : Nat) h => HO2.own_lt (b := b) h
    refine l_v (v_move (t := .slice _ _ _) rfl) ?_
    refine l_to (to_append (et := 26) (bytes := 120) (by kernel_rfl) (show _ = (Value.slice _ _ _) from rfl) (HO2.mono (F' := F) fun _ _ h => h.elim) (show _ = (Value.slice _ _ _) from rfl) HS1 (deepF fun b _ hb => ⟨hb.1, fun ho => by have := HO2.own_lt ho; omega⟩) (by first | omega | (simp; done) | (simp; omega)) (by simp only [maxLen]; first | omega | (simp; done) | (simp; omega)) (by omega) ?_)
    rintro a3 n3 c3 w3 HO3 hn3 k3 h3 i3
    have zs_k3 := k3.size
    replace E := E.step k3 (by intro i hi he; have he0 := he; (try dsimp only [NoK] at hi he ⊢); (try simp only [Value.ownBlock, Option.some.injEq] at he); first | exact he.elim | omega | exact he | (have := ((HO2.mono (F' := F) fun _ _ h => h.elim)).own_lt he0; omega) | (have := zo_HO2 _ he0; omega) | (have := ((HO2.mono (F' := F) fun _ _ h => h.elim)).own_lt he0; rcases hi with hi | hi <;> omega))
    replace HS1 := HS1.keep k3 (by intro i _ hi he; have he0 := he; (try dsimp only [NoK, AllB] at hi he); (try simp only [Value.ownBlock, Option.some.injEq] at he); first | exact hi.elim | exact he.elim | omega | (rcases hi with hi | hi <;> omega) | (rcases he with he | he <;> omega) | (have := ((HO2.mono (F' := F) fun _ _ h => h.elim)).own_lt he0; omega) | (have := zo_HO2 _ he0; omega) | (have := ((HO2.mono (F' := F) fun _ _ h => h.elim)).own_lt he0; rcases hi with hi | hi <;> omega))
    have zo_HO3 := fun (b : Nat) h => HO3.own_lt (b := b) h
    refine l_v (v_assign (t := .slice _ _ _) rfl) ?_
    refine l_nil ?_
    refine n_then ?_
    refine c_ret ?_
    refine ret1v rfl (by decide) (show _ = (Value.slice _ _ _) from rfl) ?_
    exact ⟨HO3.view.mono fun i _ h => Or.elim h (fun h => .inr (by omega)) .inl, E⟩
theorem netSameWay_c {w : World} {F G : Nat → Prop} {b b2 c c2 : Nat} {a a2 : Option Addr} {ms ns : List Ms} {l l2 : Int} (HB1 : Blk w b [.bool true, .slice a ms.length c, .int .i64 l] 68) (HS1 : SlV tMs w F (.slice a ms.length c) ms) (HB2 : Blk w b2 [.bool true, .slice a2 ns.length c2, .int .i64 l2] 68) (HS2 : SlV tMs w G (.slice a2 ns.length c2) ns) : CallsR Try.prog 34 #[.pointer (some ⟨b, 0, none⟩), .pointer (some ⟨b2, 0, none⟩)] w (fun o w' => o = .bool (decide (ms = ns ∧ l = l2)) ∧ Ext w w') := by
  refine enter 38 Try.func34 rfl rfl (by simp) ?_
  refine c_seq ?_
  have E := Keep.refl (K := NoK) w
  replace HS1 := HS1.all
  replace HS2 := HS2.all
  refine wp_reg (by decide +kernel) ?_
  refine l_v (v_assign rfl) ?_
  refine l_nil ?_
  refine n_then ?_
  refine c_seq ?_
  refine c_seq ?_
  refine wp_reg (by decide +kernel) ?_
  refine l_v (v_move (t := .pointer _) rfl) ?_
  refine l_to (to_f1 (by kernel_rfl) (show _ = (Value.pointer _) from rfl) (CallsR.mono (there_c HB1) ?_))
  rintro _ w101 ⟨rfl, e101⟩
  have zs_e101 := e101.size
  replace E := E.trans (Ext.keep e101)
  replace HB1 := HB1.ext e101
  replace HS1 := HS1.ext e101
  replace HB2 := HB2.ext e101
  replace HS2 := HS2.ext e101
  refine l_v (v_not rfl) ?_
  refine l_v (v_move (t := .bool _) rfl) ?_
  refine l_g1 rfl rfl (fun hG => v_move (t := .pointer _) rfl) ?_
  refine l_g1f rfl rfl (fun hG => to_f1 (by kernel_rfl) (gd hG rfl) (there_c HB2)) ?_
  rintro w102 e102
  have zs_e102 := e102.size
  replace E := E.trans (Ext.keep e102)
  replace HB1 := HB1.ext e102
  replace HS1 := HS1.ext e102
  replace HB2 := HB2.ext e102
  replace HS2 := HS2.ext e102
  refine l_g1 rfl rfl (fun hG => v_not (gd hG rfl)) ?_
  refine l_v (v_or rfl rfl) ?_
  refine l_nil ?_
  refine n_then ?_
  refine c_cond rfl rfl (fun hc => ?_) (fun hc => ?_)
  · skip
    cases hc
  · skip
    by_cases hll : l = l2
    · skip
      refine c_skip ?_
      refine n_then ?_
      refine c_seq ?_
      refine wp_regd (NoK) (by kernel_rfl) (by decide +kernel) (by decide +kernel) ?_
      refine rt_v (fun vals w hR hd => v_move (t := .pointer _) rfl) ?_
      refine rt_v (fun vals w hR hd => v_nilCheck (hd 0 rfl)) ?_
      refine rt_v (fun vals w hR hd => v_fieldAddr (off := 2) (ft := 3) (by kernel_rfl) (hd 1 rfl)) ?_
      refine rt_v (fun vals w hR hd => v_load (by kernel_rfl) (hd 2 rfl) (by first | exact (HB2.ext hR).pv 2 _ rfl | exact (HB1.ext hR).pv 2 _ rfl | assumption)) ?_
      refine rt_v (fun vals w hR hd => v_move (t := .pointer _) rfl) ?_
      refine rt_v (fun vals w hR hd => v_nilCheck (hd 4 rfl)) ?_
      refine rt_v (fun vals w hR hd => v_fieldAddr (off := 2) (ft := 3) (by kernel_rfl) (hd 5 rfl)) ?_
      refine rt_v (fun vals w hR hd => v_load (by kernel_rfl) (hd 6 rfl) (by first | exact (HB2.ext hR).pv 2 _ rfl | exact (HB1.ext hR).pv 2 _ rfl | assumption)) ?_
      refine rt_v (fun vals w hR hd => OpVat.as (b := true) (v_eql (hd 3 rfl) (hd 7 rfl)) (decide_eq_true hll)) ?_
      refine rt_v (fun vals w hR hd => v_move (t := .bool _) (hd 8 rfl)) ?_
      refine rt_hv rfl (fun vals w hd => hd 9 rfl) (fun vals w hR hd => v_move (t := .pointer _) rfl) ?_
      refine rt_hv rfl (fun vals w hd => hd 9 rfl) (fun vals w hR hd => v_nilCheck (hd 10 rfl)) ?_
      refine rt_hv rfl (fun vals w hd => hd 9 rfl) (fun vals w hR hd => v_fieldAddr (off := 1) (ft := 41) (by kernel_rfl) (hd 11 rfl)) ?_
      refine rt_hv rfl (fun vals w hd => hd 9 rfl) (fun vals w hR hd => v_load (by kernel_rfl) (hd 12 rfl) (by first | exact (HB2.ext hR).pv 1 _ rfl | exact (HB1.ext hR).pv 1 _ rfl | assumption)) ?_
      refine rt_hv rfl (fun vals w hd => hd 9 rfl) (fun vals w hR hd => v_move (t := .pointer _) rfl) ?_
      refine rt_hv rfl (fun vals w hd => hd 9 rfl) (fun vals w hR hd => v_nilCheck (hd 14 rfl)) ?_
      refine rt_hv rfl (fun vals w hd => hd 9 rfl) (fun vals w hR hd => v_fieldAddr (off := 1) (ft := 41) (by kernel_rfl) (hd 15 rfl)) ?_
      refine rt_hv rfl (fun vals w hd => hd 9 rfl) (fun vals w hR hd => v_load (by kernel_rfl) (hd 16 rfl) (by first | exact (HB2.ext hR).pv 1 _ rfl | exact (HB1.ext hR).pv 1 _ rfl | assumption)) ?_
      refine rt_hvf rfl (fun vals w hd => hd 9 rfl) (fun vals w hR hd => to_f3 (by kernel_rfl) (hd 13 rfl) (hd 17 rfl) rfl (EqualFuncM_c (HS1.ext hR) (HS2.ext hR))) ?_
      refine rt_v (fun vals w hR hd => v_andT (hd 9 rfl) (hd 18 rfl)) ?_
      refine rt_v (fun vals w hR hd => v_assign (t := .bool _) (hd 19 rfl)) ?_
      refine rt_nil (fun w103 e103 => ?_)
      rintro _ rfl _ rfl _ rfl _ rfl _ rfl _ rfl _ rfl _ rfl _ rfl _ rfl _ rfl _ rfl _ rfl _ rfl _ rfl _ rfl _ rfl _ rfl _ rfl _ rfl _ rfl
      have zs_e103 := e103.size
      replace E := E.trans (Ext.keep e103)
      replace HB1 := HB1.ext e103
      replace HS1 := HS1.ext e103
      replace HB2 := HB2.ext e103
      replace HS2 := HS2.ext e103
      refine fin_nil ?_
      refine n_then ?_
      refine c_ret ?_
      refine ret1v rfl (by decide) (show _ = (Value.bool _) from rfl) ?_
      refine ⟨?_, E⟩
      simp [hll]
    · skip
      refine c_skip ?_
      refine n_then ?_
      refine c_seq ?_
      refine wp_regd (NoK) (by kernel_rfl) (by decide +kernel) (by decide +kernel) ?_
      refine rt_v (fun vals w hR hd => v_move (t := .pointer _) rfl) ?_
      refine rt_v (fun vals w hR hd => v_nilCheck (hd 0 rfl)) ?_
      refine rt_v (fun vals w hR hd => v_fieldAddr (off := 2) (ft := 3) (by kernel_rfl) (hd 1 rfl)) ?_
      refine rt_v (fun vals w hR hd => v_load (by kernel_rfl) (hd 2 rfl) (by first | exact (HB2.ext hR).pv 2 _ rfl | exact (HB1.ext hR).pv 2 _ rfl | assumption)) ?_
      refine rt_v (fun vals w hR hd => v_move (t := .pointer _) rfl) ?_
      refine rt_v (fun vals w hR hd => v_nilCheck (hd 4 rfl)) ?_
      refine rt_v (fun vals w hR hd => v_fieldAddr (off := 2) (ft := 3) (by kernel_rfl) (hd 5 rfl)) ?_
      refine rt_v (fun vals w hR hd => v_load (by kernel_rfl) (hd 6 rfl) (by first | exact (HB2.ext hR).pv 2 _ rfl | exact (HB1.ext hR).pv 2 _ rfl | assumption)) ?_
      refine rt_v (fun vals w hR hd => OpVat.as (b := false) (v_eql (hd 3 rfl) (hd 7 rfl)) (decide_eq_false hll)) ?_
      refine rt_v (fun vals w hR hd => v_move (t := .bool _) (hd 8 rfl)) ?_
      refine rt_skip (u := .bool false) rfl (fun vals w hd => hd 9 rfl) rfl ?_
      refine rt_skip (u := .bool false) rfl (fun vals w hd => hd 9 rfl) rfl ?_
      refine rt_skip (u := .bool false) rfl (fun vals w hd => hd 9 rfl) rfl ?_
      refine rt_skip (u := .bool false) rfl (fun vals w hd => hd 9 rfl) rfl ?_
      refine rt_skip (u := .bool false) rfl (fun vals w hd => hd 9 rfl) rfl ?_
      refine rt_skip (u := .bool false) rfl (fun vals w hd => hd 9 rfl) rfl ?_
      refine rt_skip (u := .bool false) rfl (fun vals w hd => hd 9 rfl) rfl ?_
      refine rt_skip (u := .bool false) rfl (fun vals w hd => hd 9 rfl) rfl ?_
      refine rt_skip (u := .bool false) rfl (fun vals w hd => hd 9 rfl) rfl ?_
      refine rt_v (fun vals w hR hd => v_andC (hd 9 rfl)) ?_
      refine rt_v (fun vals w hR hd => v_assign (t := .bool _) (hd 19 rfl)) ?_
      refine rt_nil (fun w104 e104 => ?_)
      rintro _ rfl _ rfl _ rfl _ rfl _ rfl _ rfl _ rfl _ rfl _ rfl _ rfl _ rfl _ rfl _ rfl _ rfl _ rfl _ rfl _ rfl _ rfl _ rfl _ rfl _ rfl
      have zs_e104 := e104.size
      replace E := E.trans (Ext.keep e104)
      replace HB1 := HB1.ext e104
      replace HS1 := HS1.ext e104
      replace HB2 := HB2.ext e104
      replace HS2 := HS2.ext e104
      refine fin_nil ?_
      refine n_then ?_
      refine c_ret ?_
      refine ret1v rfl (by decide) (show _ = (Value.bool _) from rfl) ?_
      refine ⟨?_, E⟩
      simp [hll]
theorem wayCopy_c {w : World} {F : Nat → Prop} {b c : Nat} {a : Option Addr} {ms : List Ms} {l : Int} (HB1 : Blk w b [.bool true, .slice a ms.length c, .int .i64 l] 68) (HS1 : SlV tMs w F (.slice a ms.length c) ms) (hlen : ms.length ≤ 1000000) : CallsR Try.prog 73 #[.pointer (some ⟨b, 0, none⟩)] w (fun o w' => (∃ b2 a2 c2, o = .pointer (some ⟨b2, 0, none⟩) ∧ w.heap.size ≤ b2 ∧ Blk w' b2 [.bool true, .slice a2 ms.length c2, .int .i64 l] 68 ∧ SlV tMs w' (fun i => (F i ∨ w.heap.size ≤ i) ∧ i ≠ b2) (.slice a2 ms.length c2) ms) ∧ Ext w w') := by
  obtain ⟨n0, hn0⟩ : ∃ n, n = w.heap.size := ⟨_, rfl⟩
  replace HS1 := HS1.mono (F' := fun i => F i ∧ i < n0) fun b hb h => ⟨h, by omega⟩
  refine enter 17 Try.func73 rfl rfl (by simp) ?_
  refine c_seq ?_
  have E := Keep.refl (K := NoK) w
  refine wp_reg (by decide +kernel) ?_
  refine l_v (v_assign rfl) ?_
  refine l_nil ?_
  refine n_then ?_
  refine c_seq ?_
  refine c_seq ?_
  refine wp_reg (by decide +kernel) ?_
  refine l_v (v_move (t := .pointer _) rfl) ?_
  refine l_to (to_f1 (by kernel_rfl) (show _ = (Value.pointer _) from rfl) (CallsR.mono (there_c HB1) ?_))
  rintro _ w101 ⟨rfl, e101⟩
  have zs_e101 := e101.size
  replace E := E.trans (Ext.keep e101)
  replace HB1 := HB1.ext e101
  replace HS1 := HS1.ext e101
  refine l_v (v_not rfl) ?_
  refine l_nil ?_
  refine n_then ?_
  refine c_cond rfl rfl (fun hc => ?_) (fun hc => ?_)
  · skip
    cases hc
  · skip
    refine c_skip ?_
    refine n_then ?_
    refine c_seq ?_
    refine wp_any (by kernel_rfl) ?_
    have e102 : Ext w101 { w101 with drawn := w101.drawn + 1 } := Keep.drawn _ _
    generalize hw102 : ({ w101 with drawn := w101.drawn + 1 } : World) = w102 at e102 ⊢
    clear hw102
    have zs_e102 := e102.size
    replace E := E.trans (Ext.keep e102)
    replace HB1 := HB1.ext e102
    replace HS1 := HS1.ext e102
    refine r_cut 10 rfl (by decide +kernel) (by decide +kernel) (by decide +kernel) ?_
    refine wp_regdW (NoK) (by decide +kernel) (by decide +kernel) ?_
    refine rt_v (fun vals w hR hd => v_move (t := .pointer _) rfl) ?_
    refine rt_v (fun vals w hR hd => v_nilCheck (hd 0 rfl)) ?_
    refine rt_v (fun vals w hR hd => v_fieldAddr (off := 1) (ft := 41) (by kernel_rfl) (hd 1 rfl)) ?_
    refine rt_v (fun vals w hR hd => v_load (by kernel_rfl) (hd 2 rfl) (by first | exact (HB1.ext hR).pv 1 _ rfl | assumption)) ?_
    refine rt_to (fun v W => SlV tMs W (fun i => F i ∨ n0 ≤ i) v ms) (fun v w w' h k => h.ext k) (fun vals w hR hd => to_f1 (by kernel_rfl) (hd 3 rfl) (CallsR.mono (CloneM_c (HS1.ext hR) hlen) fun v w1 ⟨h, e⟩ => ⟨e, h.mono fun i hi h9 => Or.elim h9 (fun h => .inl h.1) (fun h => .inr (by have := E.size; have := hR.size; omega))⟩)) ?_
    refine rt_v (fun vals w hR hd => v_move (t := .pointer _) rfl) ?_
    refine rt_v (fun vals w hR hd => v_nilCheck (hd 5 rfl)) ?_
    refine rt_v (fun vals w hR hd => v_fieldAddr (off := 2) (ft := 3) (by kernel_rfl) (hd 6 rfl)) ?_
    refine rt_v (fun vals w hR hd => v_load (by kernel_rfl) (hd 7 rfl) (by first | exact (HB1.ext hR).pv 2 _ rfl | assumption)) ?_
    refine rt_to (fun v W => ∃ u, v = .agg #[.bool true, u, .int .i64 l] ∧ SlV tMs W (fun i => F i ∨ n0 ≤ i) u ms) (fun v w w' h k => by obtain ⟨u, h1, h2⟩ := h; exact ⟨u, h1, h2.ext k⟩) (fun vals w hR hd => OpTo.of_v (v_build (pl := [(0, 1), (1, 1), (2, 1)]) (z := .agg #[.bool false, .slice none 0 0, .int .i64 0]) (zl := [.bool false, .slice none 0 0, .int .i64 0]) (ps := [(0, .bool true), (1, vals 4), (2, .int .i64 l)]) (by kernel_rfl) (by unfold kZero; kernel_rfl) rfl (parts3 rfl rfl (hd 8 rfl)) (cells := [.bool true, vals 4, .int .i64 l]) (by have h1 := SlV.one (show SlV tMs _ (fun i => F i ∨ n0 ≤ i) _ ms from hd 4 rfl); simp [fillL, one_cells h1, setAt, cells_int, cells_bool])) ⟨Keep.refl _, _, rfl, (show SlV tMs _ (fun i => F i ∨ n0 ≤ i) _ ms from hd 4 rfl)⟩) ?_
    refine rt_nil (fun w103 e103 => ?_)
    rintro _ rfl _ rfl _ rfl _ rfl v10 hs10 _ rfl _ rfl _ rfl _ rfl v15 ⟨u, rfl, HS10⟩
    have zs_e103 := e103.size
    obtain ⟨a10, c10, rfl⟩ := HS10.shape
    replace HS10 : SlV tMs _ (fun i => (F i ∨ n0 ≤ i) ∧ i < w103.heap.size) _ ms := HS10.mono fun i hi h => ⟨h, hi⟩
    replace E := E.trans (Ext.keep e103)
    replace HB1 := HB1.ext e103
    replace HS1 := HS1.ext e103
    refine fin_nil ?_
    refine n_then ?_
    refine r_cut 1 rfl (by decide +kernel) (by decide +kernel) (by decide +kernel) ?_
    refine r_one (by decide +kernel) rfl ?_
    refine l_to (to_box (show _ = (Value.agg _) from rfl) ?_)
    rintro b104 w104 zb104 HB104 e104 z104
    have zs_e104 := e104.size
    replace E := E.trans (Ext.keep e104)
    replace HB1 := HB1.ext e104
    replace HS1 := HS1.ext e104
    replace HS10 := HS10.ext e104
    try simp only [Value.cells] at HB104
    refine l_nil ?_
    refine n_then ?_
    refine r_one (by decide +kernel) rfl ?_
    refine l_v (v_assign (t := .pointer _) rfl) ?_
    refine l_nil ?_
    refine n_then ?_
    refine c_ret ?_
    refine ret1v rfl (by decide) (show _ = (Value.pointer _) from rfl) ?_
    exact ⟨⟨b104, a10, c10, rfl, by omega, HB104, HS10.mono fun i hi h => ⟨by rcases h.1 with h | h; exact .inl h; exact .inr (by omega), by have := h.2; omega⟩⟩, E⟩
end Go.Proofs.Ytaidpdjlchnonaa
