/- A part of the proof: steps and lemmas for the walks through the given program. -/
import Derived.Test.YtaidpdjlchnonaaN9
import Derived.Test.YtaidpdjlchnonaaGn
namespace Go.Proofs.Ytaidpdjlchnonaa
open Go.Vc
set_option linter.unusedVariables false
set_option linter.unusedSimpArgs false
set_option maxRecDepth 100000

theorem Send1_c {w : World} {F : Nat → Prop} {v : Value} {m : Ms} (HG1 : AgV tMs w F v m) : CallsR Try.prog 59 (#[v] ++ #[]) w (fun o w' => o = .bool (!mayN m) ∧ Ext w w') := by
  obtain ⟨a1, c1, a2, c2, rfl, HSe, HSs, hw⟩ := HG1.ms
  show CallsR _ _ #[_] _ _
  refine enter 6 Try.func59 rfl rfl (by simp) ?_
  refine c_seq ?_
  have E := Keep.refl (K := NoK) w
  replace HG1 := HG1.all
  refine wp_reg (by decide +kernel) ?_
  refine l_to (to_box (show _ = (Value.agg _) from rfl) ?_)
  rintro b1 w1 zb1 HB1 e1 z1
  have zs_e1 := e1.size
  replace E := E.trans (Ext.keep e1)
  replace HG1 := HG1.ext e1
  try simp only [Value.cells] at HB1
  refine l_v (v_assign rfl) ?_
  refine l_nil ?_
  refine n_then ?_
  refine c_seq ?_
  refine wp_reg (by decide +kernel) ?_
  refine l_v (v_loadA (by kernel_rfl) rfl (by first | exact HB1.pv | assumption) rfl) ?_
  refine l_to (to_f1 (by kernel_rfl) (show _ = (Value.agg _) from rfl) (CallsR.mono (May_c HG1) ?_))
  rintro _ w101 ⟨rfl, e101⟩
  have zs_e101 := e101.size
  replace E := E.trans (Ext.keep e101)
  replace HG1 := HG1.ext e101
  replace HB1 := HB1.ext e101
  refine l_v (v_not rfl) ?_
  refine l_v (v_assign (t := .bool _) rfl) ?_
  refine l_nil ?_
  refine n_then ?_
  refine c_ret ?_
  refine ret1v rfl (by decide) (show _ = (Value.bool _) from rfl) ?_
  exact ⟨rfl, E⟩
theorem Send_no {w : World} {F : Nat → Prop} {b : Nat} {x y v : Value} {ls : List Ms} (HB1 : Blk w b [.bool true, x, y] 68) (HS2 : SlV tMs w F v ls) (hls : ls.any (fun m => !mayN m) = true) : CallsR Try.prog 21 #[.pointer (some ⟨b, 0, none⟩), v] w (fun o w' => o = .tuple #[.int .i64 0, .int .i64 2] ∧ Ext w w') := by
  obtain ⟨a, c, rfl⟩ := HS2.shape
  refine enter 63 Try.func21 rfl rfl (by simp) ?_
  refine c_seq ?_
  have E := Keep.refl (K := NoK) w
  replace HS2 := HS2.all
  refine wp_reg (by decide +kernel) ?_
  refine l_v (v_assign rfl) ?_
  refine l_v (v_assign rfl) ?_
  refine l_nil ?_
  refine n_then ?_
  refine c_seq ?_
  refine c_block ?_
  refine c_seq ?_
  refine wp_reg (by decide +kernel) ?_
  refine l_v (v_move (t := .pointer _) rfl) ?_
  refine l_to (to_f1 (by kernel_rfl) (show _ = (Value.pointer _) from rfl) (CallsR.mono (there_c HB1) ?_))
  rintro _ w101 ⟨rfl, e101⟩
  have zs_e101 := e101.size
  replace E := E.trans (Ext.keep e101)
  replace HB1 := HB1.ext e101
  replace HS2 := HS2.ext e101
  refine l_v (v_not rfl) ?_
  refine l_v (v_assign (t := .bool _) rfl) ?_
  refine l_nil ?_
  refine n_then ?_
  refine c_cond rfl rfl (fun hc => ?_) (fun hc => ?_)
  · skip
    cases hc
  · skip
    refine c_seq ?_
    refine wp_reg (by decide +kernel) ?_
    refine l_v (v_move (t := .slice _ _ _) rfl) ?_
    refine l_to (to_f2 (by kernel_rfl) (show _ = (Value.slice _ _ _) from rfl) rfl (CallsR.mono (ContainsFuncM_c HS2 (by kernel_rfl) (fun W u r e h _ => Send1_c h)) ?_))
    rintro _ w102 ⟨rfl, e102⟩
    have zs_e102 := e102.size
    replace E := E.trans (Ext.keep e102)
    replace HB1 := HB1.ext e102
    replace HS2 := HS2.ext e102
    refine l_v (v_assign (t := .bool _) rfl) ?_
    refine l_nil ?_
    refine n_then ?_
    refine c_cond rfl rfl (fun hc2 => ?_) (fun hc2 => ?_)
    · skip
      refine c_seq ?_
      refine wp_reg (by decide +kernel) ?_
      refine l_v (v_assign rfl) ?_
      refine l_v (v_assign rfl) ?_
      refine l_nil ?_
      refine n_then ?_
      refine c_ret ?_
      refine r_blk ?_
      refine r_then ?_
      refine ret2v rfl (by decide) (by decide) (show _ = (Value.int _ _) from rfl) (show _ = (Value.int _ _) from rfl) ?_
      exact ⟨rfl, E⟩
    · skip
      rw [hls] at hc2; cases hc2
set_option maxHeartbeats 4000000 in
theorem Send_c {w : World} {F G : Nat → Prop} {b c : Nat} {a : Option Addr} {ms ls : List Ms} {lost : Int} {v : Value} (HB1 : Blk w b [.bool true, .slice a ms.length c, .int .i64 lost] 68) (HS1 : SlV tMs w G (.slice a ms.length c) ms) (HS2 : SlV tMs w F v ls)
    (hG : ∀ i, G i → i ≠ b) (hml : ms.length ≤ 256) (hll : ls.length ≤ 1000000) (hls : ∀ m ∈ ls, mayN m = true) (hlo : 0 ≤ lost ∧ lost ≤ 4611686018427387904) : CallsR Try.prog 21 #[.pointer (some ⟨b, 0, none⟩), v] w (fun o w' => o = .tuple #[.int .i64 (sendN ms ls : Nat), .int .i64 0] ∧
      (∃ a2 c2, Blk w' b [.bool true, .slice a2 (sendL ms ls).length c2, .int .i64 (lost + (sendN ms ls : Nat))] 68 ∧ SlV tMs w' (fun i => G i ∨ w.heap.size ≤ i) (.slice a2 (sendL ms ls).length c2) (sendL ms ls)) ∧ Keep (fun i => i = b) w w') := by
  obtain ⟨a3, c3, rfl⟩ := HS2.shape
  have hcap := HS1.cap
  have zl1 := HB1.lt
  have hll2 := sendL_len ms ls
  replace HS1 := HS1.mono (F' := fun i => G i ∧ i < w.heap.size) fun b hb h => ⟨h, hb⟩
  replace HS2 := HS2.mono (F' := fun i => F i ∧ i < w.heap.size) fun b hb h => ⟨h, hb⟩
  refine enter 63 Try.func21 rfl rfl (by simp) ?_
  refine c_seq ?_
  have E := Keep.refl (K := fun i => i = b) w
  refine wp_reg (by decide +kernel) ?_
  refine l_v (v_assign rfl) ?_
  refine l_v (v_assign rfl) ?_
  refine l_nil ?_
  refine n_then ?_
  refine c_seq ?_
  refine c_block ?_
  refine c_seq ?_
  refine wp_reg (by decide +kernel) ?_
  refine l_v (v_move (t := .pointer _) rfl) ?_
  refine l_to (to_f1 (by kernel_rfl) (show _ = (Value.pointer _) from rfl) (CallsR.mono (there_c HB1) ?_))
  rintro _ w101 ⟨rfl, e101⟩
  have zs_e101 := e101.size
  replace E := E.trans (Ext.keep e101)
  replace HB1 := HB1.ext e101
  replace HS1 := HS1.ext e101
  replace HS2 := HS2.ext e101
  refine l_v (v_not rfl) ?_
  refine l_v (v_assign (t := .bool _) rfl) ?_
  refine l_nil ?_
  refine n_then ?_
  refine c_cond rfl rfl (fun hc => ?_) (fun hc => ?_)
  · skip
    cases hc
  · skip
    refine c_seq ?_
    refine wp_reg (by decide +kernel) ?_
    refine l_v (v_move (t := .slice _ _ _) rfl) ?_
    refine l_to (to_f2 (by kernel_rfl) (show _ = (Value.slice _ _ _) from rfl) rfl (CallsR.mono (ContainsFuncM_c HS2 (by kernel_rfl) (fun W u r e h _ => Send1_c h)) ?_))
    rintro _ w102 ⟨rfl, e102⟩
    have zs_e102 := e102.size
    replace E := E.trans (Ext.keep e102)
    replace HB1 := HB1.ext e102
    replace HS1 := HS1.ext e102
    replace HS2 := HS2.ext e102
    refine l_v (v_assign (t := .bool _) rfl) ?_
    refine l_nil ?_
    refine n_then ?_
    refine c_cond rfl rfl (fun hc2 => ?_) (fun hc2 => ?_)
    · skip
      have := any_may hls; rw [this] at hc2; cases hc2
    · skip
      refine c_skip ?_
      refine n_blk ?_
      refine n_then ?_
      refine c_seq ?_
      refine wp_regd (NoK) (by kernel_rfl) (by decide +kernel) (by decide +kernel) ?_
      refine rt_v (fun vals w hR hd => v_move (t := .pointer _) rfl) ?_
      refine rt_v (fun vals w hR hd => v_nilCheck (hd 0 rfl)) ?_
      refine rt_v (fun vals w hR hd => v_fieldAddr (off := 1) (ft := 41) (by kernel_rfl) (hd 1 rfl)) ?_
      refine rt_v (fun vals w hR hd => v_load (by kernel_rfl) (hd 2 rfl) (by first | exact (HB1.ext hR).pv 1 _ rfl | assumption)) ?_
      refine rt_v (fun vals w hR hd => v_move (t := .pointer _) rfl) ?_
      refine rt_v (fun vals w hR hd => v_nilCheck (hd 4 rfl)) ?_
      refine rt_v (fun vals w hR hd => v_fieldAddr (off := 1) (ft := 41) (by kernel_rfl) (hd 5 rfl)) ?_
      refine rt_v (fun vals w hR hd => v_load (by kernel_rfl) (hd 6 rfl) (by first | exact (HB1.ext hR).pv 1 _ rfl | assumption)) ?_
      refine rt_v (fun vals w hR hd => v_len (et := 26) (by kernel_rfl) (hd 7 rfl)) ?_
      refine rt_v (fun vals w hR hd => v_move (t := .pointer _) rfl) ?_
      refine rt_v (fun vals w hR hd => v_nilCheck (hd 9 rfl)) ?_
      refine rt_v (fun vals w hR hd => v_fieldAddr (off := 1) (ft := 41) (by kernel_rfl) (hd 10 rfl)) ?_
      refine rt_v (fun vals w hR hd => v_load (by kernel_rfl) (hd 11 rfl) (by first | exact (HB1.ext hR).pv 1 _ rfl | assumption)) ?_
      refine rt_v (fun vals w hR hd => v_len (et := 26) (by kernel_rfl) (hd 12 rfl)) ?_
      refine rt_v (fun vals w hR hd => v_slice3 (et := 26) (sz := 11) (h := ms.length) (by kernel_rfl) (by kernel_rfl) (hd 3 rfl) (hd 8 rfl) (hd 13 rfl) (by omega)) ?_
      refine rt_v (fun vals w hR hd => v_assign (t := .slice _ _ _) (hd 14 rfl)) ?_
      refine rt_nil (fun w103 e103 => ?_)
      rintro _ rfl _ rfl _ rfl _ rfl _ rfl _ rfl _ rfl _ rfl _ rfl _ rfl _ rfl _ rfl _ rfl _ rfl _ rfl _ rfl
      have zs_e103 := e103.size
      replace E := E.trans (Ext.keep e103)
      replace HB1 := HB1.ext e103
      replace HS1 := HS1.ext e103
      replace HS2 := HS2.ext e103
      refine fin_nil ?_
      refine n_then ?_
      refine c_seq ?_
      refine c_seq ?_
      refine wp_reg (by decide +kernel) ?_
      refine l_v (v_move (t := .slice _ _ _) rfl) ?_
      refine l_v (v_len (et := 26) (by kernel_rfl) rfl) ?_
      refine l_v (v_move rfl) ?_
      refine l_nil ?_
      refine n_then ?_
      refine c_block ?_
      refine c_loop (τ := Nat × Option Addr × Nat × Nat) [6, 8, 34, 35, 36, 37, 38, 39, 40, 41, 42, 43] (fun (i, a, n, c) => [(6, .slice a n c), (34, .int .i64 i)]) (fun (i, a, n, c) W => Keep (fun i => i = b) w W ∧ Keep (fun b => w.heap.size ≤ b) w103 W ∧ i ≤ ls.length ∧ n = ms.length + i ∧ ((i = 0 ∧ c = n ∧ SlV tMs W (fun i => G i ∧ i < w.heap.size) (.slice a n n) ms) ∨ (0 < i ∧ OwV tMs 26 W w.heap.size (fun i => (G i ∨ w.heap.size ≤ i) ∧ i < W.heap.size) (.slice a n c) (ms ++ ls.take i)))) (fun (i, a, n, c) => ls.length - i) (0, a, ms.length, ms.length) (by exact ⟨rfl, rfl, trivial⟩) (by exact ⟨E, Keep.refl _, Nat.zero_le _, rfl, .inl ⟨rfl, rfl, HS1.full⟩⟩) ?_
      rintro ⟨i, a, n, c⟩ w104 j ⟨E, EL1, h1, h2, hD⟩
      have zs_EL1 := EL1.size
      replace HB1 := HB1.keep EL1 (by intro h; have he0 := h; (try dsimp only at h); (try simp only [Value.ownBlock, Option.some.injEq] at h); first | omega | (have he := he0; first | (rcases hi with hi | hi; (have := hG _ hi; omega); omega) | (have := hG _ hi; omega) | (have := hi.2; omega)))
      replace HS1 := HS1.keep EL1 (by intro i _ hi he; have he0 := he; (try dsimp only [NoK, AllB] at hi he); (try simp only [Value.ownBlock, Option.some.injEq] at he); first | exact hi.elim | exact he.elim | omega | (rcases hi with hi | hi <;> omega) | (rcases he with he | he <;> omega) | (first | (rcases hi with hi | hi; (have := hG _ hi; omega); omega) | (have := hG _ hi; omega) | (have := hi.2; omega)))
      replace HS2 := HS2.keep EL1 (by intro i _ hi he; have he0 := he; (try dsimp only [NoK, AllB] at hi he); (try simp only [Value.ownBlock, Option.some.injEq] at he); first | exact hi.elim | exact he.elim | omega | (rcases hi with hi | hi <;> omega) | (rcases he with he | he <;> omega) | (first | (rcases hi with hi | hi; (have := hG _ hi; omega); omega) | (have := hG _ hi; omega) | (have := hi.2; omega)))
      refine c_seq ?_
      refine wp_reg (by decide +kernel) ?_
      refine l_v (v_lss rfl rfl) ?_
      refine l_nil ?_
      refine n_then ?_
      refine c_seq ?_
      refine c_cond rfl rfl (fun hlt => ?_) (fun hlt => ?_)
      · skip
        have hlt := dtrue hlt
        obtain ⟨r, hx, hdr⟩ := getE (l := ls) (i := i) (by omega)
        have hmr := hls r (List.mem_of_getElem? hx)
        have htk : ms ++ ls.take (i + 1) = ms ++ ls.take i ++ [r] := by rw [List.take_add_one, hx, List.append_assoc]; rfl
        obtain ⟨q1, cs1, hq1, hF1, _, HP1, hr1⟩ := HS2.el hx
        subst hq1
        have HG5 : AgV tMs _ _ _ r := ⟨cs1, rfl, hr1⟩
        obtain ⟨b1, d1, b2, d2, rfl, _, _, _⟩ := tMs_cells hr1
        by_cases h0 : i = 0
        · skip
          refine c_skip ?_
          refine n_then ?_
          refine c_seq ?_
          refine c_block ?_
          refine c_seq ?_
          obtain ⟨_, hcn, HSv⟩ : i = 0 ∧ c = n ∧ SlV tMs _ (fun i => G i ∧ i < w.heap.size) (.slice a n n) ms := by rcases hD with h | h; exact h; omega
          subst hcn
          refine wp_reg (by decide +kernel) ?_
          refine l_v (v_indexAddr (et := 26) (sz := 11) (k := i) (by kernel_rfl) (by kernel_rfl) rfl rfl (by first | rfl | omega) (by omega)) ?_
          refine l_v (v_loadA (by kernel_rfl) rfl (by first | exact HP1 | exact HB1.pv | assumption) rfl) ?_
          refine l_to (to_alloc (z := (.agg #[.int .i64 0, .int .i64 0, .int .i64 0, .int .i64 0, .int .i64 0, .int .i64 0, .int .i64 0, .int .i64 0, .slice none 0 0, .bool false, .slice none 0 0])) (by unfold kZero; kernel_rfl) ?_)
          rintro b8 w8 zb8 HB8 e8 z8
          have zs_e8 := e8.size
          replace E := E.trans (Ext.keep e8)
          replace HB1 := HB1.ext e8
          replace HS1 := HS1.ext e8
          replace HS2 := HS2.ext e8
          replace EL1 := EL1.trans (Ext.keep e8)
          replace HP1 := HP1.ext e8
          replace HG5 := HG5.ext e8
          replace HSv := HSv.ext e8
          try simp only [Value.cells] at HB8
          refine l_to (to_storeA (n := 11) rfl rfl (show _ = (Value.agg _) from rfl) (by kernel_rfl) rfl (by first | (simp [slice_one]; done) | (simp only [List.forall_mem_cons, List.cons_append, List.nil_append]; repeat' (first | exact rfl | apply And.intro | (intro u hu; cases hu; done)))) HB8 (by first | exact of_decide_eq_true rfl | (simp; done) | decide) ?_)
          rintro w105 HX105 k105 z105
          have zs_k105 := k105.size
          replace E := E.step k105 (by intro i hi he; have he0 := he; (try dsimp only [NoK] at hi he ⊢); (try simp only [Value.ownBlock, Option.some.injEq] at he); first | exact he.elim | omega | exact he | (first | (rcases hi with hi | hi; (have := hG _ hi; omega); omega) | (have := hG _ hi; omega) | (have := hi.2; omega)))
          replace HB1 := HB1.keep k105 (by intro h; have he0 := h; (try dsimp only at h); (try simp only [Value.ownBlock, Option.some.injEq] at h); first | omega | (have he := he0; first | (rcases hi with hi | hi; (have := hG _ hi; omega); omega) | (have := hG _ hi; omega) | (have := hi.2; omega)))
          replace HS1 := HS1.keep k105 (by intro i _ hi he; have he0 := he; (try dsimp only [NoK, AllB] at hi he); (try simp only [Value.ownBlock, Option.some.injEq] at he); first | exact hi.elim | exact he.elim | omega | (rcases hi with hi | hi <;> omega) | (rcases he with he | he <;> omega) | (first | (rcases hi with hi | hi; (have := hG _ hi; omega); omega) | (have := hG _ hi; omega) | (have := hi.2; omega)))
          replace HS2 := HS2.keep k105 (by intro i _ hi he; have he0 := he; (try dsimp only [NoK, AllB] at hi he); (try simp only [Value.ownBlock, Option.some.injEq] at he); first | exact hi.elim | exact he.elim | omega | (rcases hi with hi | hi <;> omega) | (rcases he with he | he <;> omega) | (first | (rcases hi with hi | hi; (have := hG _ hi; omega); omega) | (have := hG _ hi; omega) | (have := hi.2; omega)))
          replace EL1 := EL1.step k105 (by intro i hi he; have he0 := he; (try dsimp only [NoK] at hi he ⊢); (try simp only [Value.ownBlock, Option.some.injEq] at he); first | exact he.elim | omega | exact he | (first | (rcases hi with hi | hi; (have := hG _ hi; omega); omega) | (have := hG _ hi; omega) | (have := hi.2; omega)))
          replace HG5 := HG5.keep k105 (by intro i _ hi he; have he0 := he; (try dsimp only [NoK, AllB] at hi he); (try simp only [Value.ownBlock, Option.some.injEq] at he); first | exact hi.elim | exact he.elim | omega | (rcases hi with hi | hi <;> omega) | (rcases he with he | he <;> omega) | (first | (rcases hi with hi | hi; (have := hG _ hi; omega); omega) | (have := hG _ hi; omega) | (have := hi.2; omega)))
          replace HSv := HSv.keep k105 (by intro i _ hi he; have he0 := he; (try dsimp only [NoK, AllB] at hi he); (try simp only [Value.ownBlock, Option.some.injEq] at he); first | exact hi.elim | exact he.elim | omega | (rcases hi with hi | hi <;> omega) | (rcases he with he | he <;> omega) | (first | (rcases hi with hi | hi; (have := hG _ hi; omega); omega) | (have := hG _ hi; omega) | (have := hi.2; omega)))
          replace HB8 := HX105
          clear HX105
          try simp only [List.set_cons_zero, List.set_cons_succ, setAt, List.take_zero, List.take_succ_cons, List.drop_zero, List.drop_succ_cons, List.nil_append, List.cons_append, List.append_nil, List.length_cons, List.length_nil, Nat.zero_add, Nat.reduceAdd, List.drop_nil] at HB8
          refine l_nil ?_
          refine n_then ?_
          refine wp_reg (by decide +kernel) ?_
          refine l_v (v_move (t := .slice _ _ _) rfl) ?_
          refine l_v (v_loadA (by kernel_rfl) rfl (by first | exact HB8.pv | exact HB1.pv | assumption) rfl) ?_
          refine l_to (to_f1 (by kernel_rfl) (show _ = (Value.agg _) from rfl) (CallsR.mono (clone_c HG5 hmr) ?_))
          rintro _ w9 ⟨HG9, e9⟩
          have zs_e9 := e9.size
          obtain ⟨a9, c9, a10, c10, rfl, HS9, HS10, hw9⟩ := HG9.ms
          replace E := E.trans (Ext.keep e9)
          replace HB1 := HB1.ext e9
          replace HS1 := HS1.ext e9
          replace HS2 := HS2.ext e9
          replace EL1 := EL1.trans (Ext.keep e9)
          replace HG5 := HG5.ext e9
          replace HSv := HSv.ext e9
          replace HB8 := HB8.ext e9
          refine l_to (to_slice1 (t := tMs) (et := 26) (bytes := 120) (by kernel_rfl) (by decide) (show _ = (Value.agg _) from rfl) (tMs_mk HS9 HS10 hw9) ?_)
          rintro b9 w10 zb9 HO9 e10 z9
          have zs_e10 := e10.size
          replace E := E.trans (Ext.keep e10)
          replace HB1 := HB1.ext e10
          replace HS1 := HS1.ext e10
          replace HS2 := HS2.ext e10
          replace EL1 := EL1.trans (Ext.keep e10)
          replace HG5 := HG5.ext e10
          replace HSv := HSv.ext e10
          replace HB8 := HB8.ext e10
          replace HG9 := HG9.ext e10
          replace HS9 := HS9.ext e10
          replace HS10 := HS10.ext e10
          have zo_HO9 := fun (b : Nat) h => HO9.own_lt (b := b) h
          refine l_to (to_appFull (et := 26) (bytes := 120) (G := fun i => (G i ∨ w.heap.size ≤ i)) (by kernel_rfl) (show _ = (Value.slice _ _ _) from rfl) HSv (show _ = (Value.slice _ _ _) from rfl) HO9.view (by simp) (fun b _ h => .inl h.1) (fun b _ h => .inr (Or.elim h (fun h => by omega) (fun h => by omega))) (by first | omega | (simp; done) | (simp; omega)) (by simp only [maxLen]; first | omega | (simp; done) | (simp; omega)) ?_)
          rintro b20 c20 w20 hb20 hb21 HO20 e20
          have zs_e20 := e20.size
          replace E := E.trans (Ext.keep e20)
          replace HB1 := HB1.ext e20
          replace HS1 := HS1.ext e20
          replace HS2 := HS2.ext e20
          replace EL1 := EL1.trans (Ext.keep e20)
          replace HSv := HSv.ext e20
          replace HO9 := HO9.ext e20
          have zo_HO20 := fun (b : Nat) h => HO20.own_lt (b := b) h
          refine l_v (v_assign (t := .slice _ _ _) rfl) ?_
          refine l_nil ?_
          refine n_blk ?_
          refine n_then ?_
          refine wp_reg (by decide +kernel) ?_
          refine l_v (v_add rfl rfl (by first | exact wr_i64 (by omega) (by omega) | rfl)) ?_
          refine l_v (v_move (t := .int _ _) rfl) ?_
          refine l_nil ?_
          refine n_then ?_
          refine ⟨(i + 1, some ⟨b20, 0, none⟩, (ms ++ [r]).length, c20), _, rfl, by (repeat (first | exact Off.of_over _ _ _ | refine Off.upd ?_ (by decide) _ | refine Off.overs ?_ (by decide) _)), ⟨by first | rfl | exact congrArg (Value.int _) (by omega) | (simp; done), by first | rfl | exact congrArg (Value.int _) (by omega) | (simp; done), trivial⟩, ⟨E, EL1, ?_⟩, ?_⟩
          · skip
            refine ⟨by omega, by simp; omega, .inr ⟨by omega, ?_⟩⟩
            rw [htk]; subst h0; rw [List.take_zero, List.append_nil]
            exact (HO20.base (by omega)).mono fun b hb h => ⟨h, hb⟩
          · (dsimp only; omega)
        · skip
          refine c_skip ?_
          refine n_then ?_
          refine c_seq ?_
          refine c_block ?_
          refine c_seq ?_
          obtain ⟨_, HOx⟩ : 0 < i ∧ OwV tMs 26 _ w.heap.size _ (.slice a n c) (ms ++ ls.take i) := by rcases hD with h | h; omega; exact h
          have hn0 : n = (ms ++ ls.take i).length := by rw [List.length_append, List.length_take]; omega
          have zo_HOx := fun (b : Nat) h => HOx.own_lt (b := b) h
          have zo_HOx := fun (b : Nat) h => HOx.own_lt (b := b) h
          refine wp_reg (by decide +kernel) ?_
          refine l_v (v_indexAddr (et := 26) (sz := 11) (k := i) (by kernel_rfl) (by kernel_rfl) rfl rfl (by first | rfl | omega) (by omega)) ?_
          refine l_v (v_loadA (by kernel_rfl) rfl (by first | exact HP1 | exact HB1.pv | assumption) rfl) ?_
          refine l_to (to_alloc (z := (.agg #[.int .i64 0, .int .i64 0, .int .i64 0, .int .i64 0, .int .i64 0, .int .i64 0, .int .i64 0, .int .i64 0, .slice none 0 0, .bool false, .slice none 0 0])) (by unfold kZero; kernel_rfl) ?_)
          rintro b8 w8 zb8 HB8 e8 z8
          have zs_e8 := e8.size
          replace E := E.trans (Ext.keep e8)
          replace HB1 := HB1.ext e8
          replace HS1 := HS1.ext e8
          replace HS2 := HS2.ext e8
          replace EL1 := EL1.trans (Ext.keep e8)
          replace HP1 := HP1.ext e8
          replace HG5 := HG5.ext e8
          replace HOx := HOx.ext e8
          try simp only [Value.cells] at HB8
          refine l_to (to_storeA (n := 11) rfl rfl (show _ = (Value.agg _) from rfl) (by kernel_rfl) rfl (by first | (simp [slice_one]; done) | (simp only [List.forall_mem_cons, List.cons_append, List.nil_append]; repeat' (first | exact rfl | apply And.intro | (intro u hu; cases hu; done)))) HB8 (by first | exact of_decide_eq_true rfl | (simp; done) | decide) ?_)
          rintro w106 HX106 k106 z106
          have zs_k106 := k106.size
          replace E := E.step k106 (by intro i hi he; have he0 := he; (try dsimp only [NoK] at hi he ⊢); (try simp only [Value.ownBlock, Option.some.injEq] at he); first | exact he.elim | omega | exact he | (first | (rcases hi with hi | hi; (have := hG _ hi; omega); omega) | (have := hG _ hi; omega) | (have := hi.2; omega)))
          replace HB1 := HB1.keep k106 (by intro h; have he0 := h; (try dsimp only at h); (try simp only [Value.ownBlock, Option.some.injEq] at h); first | omega | (have he := he0; first | (rcases hi with hi | hi; (have := hG _ hi; omega); omega) | (have := hG _ hi; omega) | (have := hi.2; omega)))
          replace HS1 := HS1.keep k106 (by intro i _ hi he; have he0 := he; (try dsimp only [NoK, AllB] at hi he); (try simp only [Value.ownBlock, Option.some.injEq] at he); first | exact hi.elim | exact he.elim | omega | (rcases hi with hi | hi <;> omega) | (rcases he with he | he <;> omega) | (first | (rcases hi with hi | hi; (have := hG _ hi; omega); omega) | (have := hG _ hi; omega) | (have := hi.2; omega)))
          replace HS2 := HS2.keep k106 (by intro i _ hi he; have he0 := he; (try dsimp only [NoK, AllB] at hi he); (try simp only [Value.ownBlock, Option.some.injEq] at he); first | exact hi.elim | exact he.elim | omega | (rcases hi with hi | hi <;> omega) | (rcases he with he | he <;> omega) | (first | (rcases hi with hi | hi; (have := hG _ hi; omega); omega) | (have := hG _ hi; omega) | (have := hi.2; omega)))
          replace EL1 := EL1.step k106 (by intro i hi he; have he0 := he; (try dsimp only [NoK] at hi he ⊢); (try simp only [Value.ownBlock, Option.some.injEq] at he); first | exact he.elim | omega | exact he | (first | (rcases hi with hi | hi; (have := hG _ hi; omega); omega) | (have := hG _ hi; omega) | (have := hi.2; omega)))
          replace HG5 := HG5.keep k106 (by intro i _ hi he; have he0 := he; (try dsimp only [NoK, AllB] at hi he); (try simp only [Value.ownBlock, Option.some.injEq] at he); first | exact hi.elim | exact he.elim | omega | (rcases hi with hi | hi <;> omega) | (rcases he with he | he <;> omega) | (first | (rcases hi with hi | hi; (have := hG _ hi; omega); omega) | (have := hG _ hi; omega) | (have := hi.2; omega)))
          replace HOx := HOx.keep k106 (by intro i ho he; have he0 := he; have ho0 := ho; (try dsimp only [NoK] at he); (try simp only [Value.ownBlock, Option.some.injEq, reduceCtorEq] at ho); (try simp only [Value.ownBlock, Option.some.injEq, reduceCtorEq] at he); first | exact he.elim | exact ho.elim | omega | (have := zo_HOx _ ho0; omega)) (by intro i _ hi _ he; have he0 := he; have hi := hi; have he := he; (try dsimp only [NoK, AllB] at hi he); (try simp only [Value.ownBlock, Option.some.injEq, reduceCtorEq] at he); all_goals first | exact hi.elim | exact hi.1.elim | exact he.elim | omega | (rcases hi with hi | hi <;> omega) | (rcases he with he | he <;> omega) | (first | (rcases hi with hi | hi; (have := hG _ hi; omega); omega) | (have := hG _ hi; omega) | (have := hi.2; omega)))
          replace HB8 := HX106
          clear HX106
          try simp only [List.set_cons_zero, List.set_cons_succ, setAt, List.take_zero, List.take_succ_cons, List.drop_zero, List.drop_succ_cons, List.nil_append, List.cons_append, List.append_nil, List.length_cons, List.length_nil, Nat.zero_add, Nat.reduceAdd, List.drop_nil] at HB8
          refine l_nil ?_
          refine n_then ?_
          refine wp_reg (by decide +kernel) ?_
          refine l_v (v_move (t := .slice _ _ _) rfl) ?_
          refine l_v (v_loadA (by kernel_rfl) rfl (by first | exact HB8.pv | exact HB1.pv | assumption) rfl) ?_
          refine l_to (to_f1 (by kernel_rfl) (show _ = (Value.agg _) from rfl) (CallsR.mono (clone_c HG5 hmr) ?_))
          rintro _ w9 ⟨HG9, e9⟩
          have zs_e9 := e9.size
          obtain ⟨a9, c9, a10, c10, rfl, HS9, HS10, hw9⟩ := HG9.ms
          replace E := E.trans (Ext.keep e9)
          replace HB1 := HB1.ext e9
          replace HS1 := HS1.ext e9
          replace HS2 := HS2.ext e9
          replace EL1 := EL1.trans (Ext.keep e9)
          replace HG5 := HG5.ext e9
          replace HOx := HOx.ext e9
          replace HB8 := HB8.ext e9
          refine l_to (to_slice1 (t := tMs) (et := 26) (bytes := 120) (by kernel_rfl) (by decide) (show _ = (Value.agg _) from rfl) (tMs_mk HS9 HS10 hw9) ?_)
          rintro b9 w10 zb9 HO9 e10 z9
          have zs_e10 := e10.size
          replace E := E.trans (Ext.keep e10)
          replace HB1 := HB1.ext e10
          replace HS1 := HS1.ext e10
          replace HS2 := HS2.ext e10
          replace EL1 := EL1.trans (Ext.keep e10)
          replace HG5 := HG5.ext e10
          replace HOx := HOx.ext e10
          replace HB8 := HB8.ext e10
          replace HG9 := HG9.ext e10
          replace HS9 := HS9.ext e10
          replace HS10 := HS10.ext e10
          have zo_HO9 := fun (b : Nat) h => HO9.own_lt (b := b) h
          have HOy := HOx.mono (F' := fun b => G b ∨ w.heap.size ≤ b) fun b _ h => h.1
          have zo_HOy := fun (b : Nat) h => HOy.own_lt (b := b) h
          have zo_HOy := zo_HOx
          refine l_to (to_append (et := 26) (bytes := 120) (by kernel_rfl) (show _ = (Value.slice _ _ _) from rfl) HOy (show _ = (Value.slice _ _ _) from rfl) HO9.view (deepF fun b hb hb2 => ⟨.inr (Or.elim hb2 (fun h => by omega) (fun h => by omega)), fun ho => by have := zo_HOx _ ho; exact Or.elim hb2 (fun h => by omega) (fun h => by omega)⟩) (by first | omega | (simp; done) | (simp; omega)) (by simp only [maxLen]; first | omega | (simp; done) | (simp; omega)) (by omega) ?_)
          rintro a20 n20 c20 w20 HO20 hn20 k20 h20 i20
          have zs_k20 := k20.size
          replace E := E.step k20 (by intro i hi he; have he0 := he; (try dsimp only [NoK] at hi he ⊢); (try simp only [Value.ownBlock, Option.some.injEq] at he); first | exact he.elim | omega | exact he | (have := (HOy).own_lt he0; omega) | (have := zo_HOy _ he0; omega) | (have := (HOy).own_lt he0; rcases hi with hi | hi <;> omega) | (first | (rcases hi with hi | hi; (have := hG _ hi; omega); omega) | (have := hG _ hi; omega) | (have := hi.2; omega)))
          replace HB1 := HB1.keep k20 (by intro h; have he0 := h; (try dsimp only at h); (try simp only [Value.ownBlock, Option.some.injEq] at h); first | omega | (have := (HOy).own_lt he0; omega) | (have := zo_HOy _ he0; omega) | (have he := he0; first | (rcases hi with hi | hi; (have := hG _ hi; omega); omega) | (have := hG _ hi; omega) | (have := hi.2; omega)))
          replace HS1 := HS1.keep k20 (by intro i _ hi he; have he0 := he; (try dsimp only [NoK, AllB] at hi he); (try simp only [Value.ownBlock, Option.some.injEq] at he); first | exact hi.elim | exact he.elim | omega | (rcases hi with hi | hi <;> omega) | (rcases he with he | he <;> omega) | (have := (HOy).own_lt he0; omega) | (have := zo_HOy _ he0; omega) | (have := (HOy).own_lt he0; rcases hi with hi | hi <;> omega) | (first | (rcases hi with hi | hi; (have := hG _ hi; omega); omega) | (have := hG _ hi; omega) | (have := hi.2; omega)))
          replace HS2 := HS2.keep k20 (by intro i _ hi he; have he0 := he; (try dsimp only [NoK, AllB] at hi he); (try simp only [Value.ownBlock, Option.some.injEq] at he); first | exact hi.elim | exact he.elim | omega | (rcases hi with hi | hi <;> omega) | (rcases he with he | he <;> omega) | (have := (HOy).own_lt he0; omega) | (have := zo_HOy _ he0; omega) | (have := (HOy).own_lt he0; rcases hi with hi | hi <;> omega) | (first | (rcases hi with hi | hi; (have := hG _ hi; omega); omega) | (have := hG _ hi; omega) | (have := hi.2; omega)))
          replace EL1 := EL1.step k20 (by intro i hi he; have he0 := he; (try dsimp only [NoK] at hi he ⊢); (try simp only [Value.ownBlock, Option.some.injEq] at he); first | exact he.elim | omega | exact he | (have := (HOy).own_lt he0; omega) | (have := zo_HOy _ he0; omega) | (have := (HOy).own_lt he0; rcases hi with hi | hi <;> omega) | (first | (rcases hi with hi | hi; (have := hG _ hi; omega); omega) | (have := hG _ hi; omega) | (have := hi.2; omega)))
          replace HO9 := HO9.keep k20 (by intro i ho he; have he0 := he; have ho0 := ho; (try dsimp only [NoK] at he); (try simp only [Value.ownBlock, Option.some.injEq, reduceCtorEq] at ho); (try simp only [Value.ownBlock, Option.some.injEq, reduceCtorEq] at he); first | exact he.elim | exact ho.elim | omega | (have := zo_HO9 _ ho0; omega) | (have := (HOy).own_lt he0; omega) | (have := zo_HOy _ he0; omega) | (have := zo_HO9 _ ho0; have := (HOy).own_lt he0; omega)) (by intro i _ hi _ he; have he0 := he; have hi := hi; have he := he; (try dsimp only [NoK, AllB] at hi he); (try simp only [Value.ownBlock, Option.some.injEq, reduceCtorEq] at he); all_goals first | exact hi.elim | exact hi.1.elim | exact he.elim | omega | (rcases hi with hi | hi <;> omega) | (rcases he with he | he <;> omega) | (have := (HOy).own_lt he0; omega) | (have := zo_HOy _ he0; omega) | (have := (HOy).own_lt he0; rcases hi with hi | hi <;> omega) | (first | (rcases hi with hi | hi; (have := hG _ hi; omega); omega) | (have := hG _ hi; omega) | (have := hi.2; omega)))
          have zo_HO20 := fun (b : Nat) h => HO20.own_lt (b := b) h
          refine l_v (v_assign (t := .slice _ _ _) rfl) ?_
          refine l_nil ?_
          refine n_blk ?_
          refine n_then ?_
          refine wp_reg (by decide +kernel) ?_
          refine l_v (v_add rfl rfl (by first | exact wr_i64 (by omega) (by omega) | rfl)) ?_
          refine l_v (v_move (t := .int _ _) rfl) ?_
          refine l_nil ?_
          refine n_then ?_
          refine ⟨(i + 1, a20, n20, c20), _, rfl, by (repeat (first | exact Off.of_over _ _ _ | refine Off.upd ?_ (by decide) _ | refine Off.overs ?_ (by decide) _)), ⟨by first | rfl | exact congrArg (Value.int _) (by omega) | (simp; done), by first | rfl | exact congrArg (Value.int _) (by omega) | (simp; done), trivial⟩, ⟨E, EL1, ?_⟩, ?_⟩
          · skip
            refine ⟨by omega, by rw [hn20, List.length_append, ← hn0]; simp; omega, .inr ⟨by omega, ?_⟩⟩
            rw [htk]
            exact HO20.mono fun b hb h => ⟨h, hb⟩
          · (dsimp only; omega)
      · skip
        have hlt := dfalse hlt
        have HS9 : SlV tMs w104 (fun i => G i ∨ w.heap.size ≤ i) (.slice a n c) (ms ++ ls) := by
          rcases hD with ⟨h0, hc, h⟩ | ⟨h0, h⟩
          · have hl0 : ls = [] := List.eq_nil_of_length_eq_zero (by omega)
            subst hl0 hc
            rw [List.append_nil]; exact h.mono fun _ _ h => .inl h.1
          · rw [List.take_of_length_le (by omega)] at h
            exact h.view.mono fun b hb h => by rcases h with h | h; exact .inr (by omega); exact h.1
        have hcap9 := HS9.cap
        have hmx : (if ((n : Int) - 256) > 0 then (n : Int) - 256 else 0) = ((sendN ms ls : Nat) : Int) := by unfold sendN; split <;> omega
        have hsl : sendN ms ls ≤ n := by unfold sendN; omega
        refine c_exit ?_
        refine x_then ?_
        refine x_then ?_
        refine x_hit ?_
        refine n_then ?_
        refine c_seq ?_
        refine wp_reg (by decide +kernel) ?_
        refine l_v (v_move (t := .slice _ _ _) rfl) ?_
        refine l_v (v_len (et := 26) (by kernel_rfl) rfl) ?_
        refine l_v (v_sub rfl rfl (by first | exact wr_i64 (by omega) (by omega) | rfl)) ?_
        refine l_v (vmax rfl rfl) ?_
        refine l_v (v_assign (t := .int _ _) rfl) ?_
        refine l_nil ?_
        refine n_then ?_
        refine c_seq ?_
        refine wp_reg (by decide +kernel) ?_
        refine l_v (v_move (t := .pointer _) rfl) ?_
        refine l_v (v_move (t := .slice _ _ _) rfl) ?_
        refine l_v (v_move (t := .int _ _) rfl) ?_
        refine l_v (v_slice (et := 26) (sz := 11) (l := sendN ms ls) (h := n) (by kernel_rfl) (by kernel_rfl) rfl ⟨.i64, ((show _ = Value.int _ _ from rfl)).trans (congrArg (Value.int _) (by omega))⟩ rfl (by omega) (by omega)) ?_
        refine l_v (v_nilCheck rfl) ?_
        refine l_v (v_fieldAddr (off := 1) (ft := 41) (by kernel_rfl) rfl) ?_
        refine l_to (to_store rfl rfl (show _ = (Value.slice _ _ _) from rfl) rfl (by kernel_rfl) HB1 (by simp) ?_)
        rintro w31 HB1 k31 z31
        have zs_k31 := k31.size
        try simp only [List.set_cons_zero, List.set_cons_succ] at HB1
        replace E := E.step k31 (by intro i hi he; have he0 := he; (try dsimp only [NoK] at hi he ⊢); (try simp only [Value.ownBlock, Option.some.injEq] at he); first | exact he.elim | omega | exact he | (first | (rcases hi with hi | hi; (have := hG _ hi; omega); omega) | (have := hG _ hi; omega) | (have := hi.2; omega)))
        replace HS9 := HS9.keep k31 (by intro i _ hi he; have he0 := he; (try dsimp only [NoK, AllB] at hi he); (try simp only [Value.ownBlock, Option.some.injEq] at he); first | exact hi.elim | exact he.elim | omega | (rcases hi with hi | hi <;> omega) | (rcases he with he | he <;> omega) | (first | (rcases hi with hi | hi; (have := hG _ hi; omega); omega) | (have := hG _ hi; omega) | (have := hi.2; omega)))
        refine l_nil ?_
        refine n_then ?_
        refine c_seq ?_
        refine wp_reg (by decide +kernel) ?_
        refine l_v (v_move (t := .pointer _) rfl) ?_
        refine l_v (v_nilCheck rfl) ?_
        refine l_v (v_fieldAddr (off := 2) (ft := 3) (by kernel_rfl) rfl) ?_
        refine l_v (v_load (by kernel_rfl) rfl (by first | exact HB1.pv 2 _ rfl | assumption)) ?_
        refine l_v (v_move (t := .int _ _) rfl) ?_
        refine l_v (v_add rfl rfl (by first | exact wr_i64 (by omega) (by omega) | rfl)) ?_
        refine l_v (v_nilCheck rfl) ?_
        refine l_v (v_fieldAddr (off := 2) (ft := 3) (by kernel_rfl) rfl) ?_
        refine l_to (to_store rfl rfl (show _ = (Value.int _ _) from rfl) rfl (by kernel_rfl) HB1 (by simp) ?_)
        rintro w32 HB1 k32 z32
        have zs_k32 := k32.size
        try simp only [List.set_cons_zero, List.set_cons_succ] at HB1
        replace E := E.step k32 (by intro i hi he; have he0 := he; (try dsimp only [NoK] at hi he ⊢); (try simp only [Value.ownBlock, Option.some.injEq] at he); first | exact he.elim | omega | exact he | (first | (rcases hi with hi | hi; (have := hG _ hi; omega); omega) | (have := hG _ hi; omega) | (have := hi.2; omega)))
        replace HS9 := HS9.keep k32 (by intro i _ hi he; have he0 := he; (try dsimp only [NoK, AllB] at hi he); (try simp only [Value.ownBlock, Option.some.injEq] at he); first | exact hi.elim | exact he.elim | omega | (rcases hi with hi | hi <;> omega) | (rcases he with he | he <;> omega) | (first | (rcases hi with hi | hi; (have := hG _ hi; omega); omega) | (have := hG _ hi; omega) | (have := hi.2; omega)))
        refine l_nil ?_
        refine n_then ?_
        refine c_seq ?_
        refine wp_reg (by decide +kernel) ?_
        refine l_v (v_move (t := .int _ _) rfl) ?_
        refine l_v (v_assign (t := .int _ _) rfl) ?_
        refine l_v (v_assign rfl) ?_
        refine l_nil ?_
        refine n_then ?_
        refine c_ret ?_
        refine ret2v rfl (by decide) (by decide) (show _ = (Value.int _ _) from rfl) (show _ = (Value.int _ _) from rfl) ?_
        rw [hmx] at HB1 ⊢
        have hs := HS9.sub (l := sendN ms ls) (h := n) hsl (by rw [List.length_append]; omega)
        rw [List.take_of_length_le (by rw [List.length_append]; omega)] at hs
        have hh : n - sendN ms ls = (sendL ms ls).length := by omega
        rw [hh] at HB1 hs
        exact ⟨rfl, ⟨_, _, HB1, hs⟩, E⟩
end Go.Proofs.Ytaidpdjlchnonaa
