/- A part of the proof: steps and lemmas for the walks through the given program. -/
import Derived.Test.YtaidpdjlchnonaaNb
import Derived.Test.YtaidpdjlchnonaaGn
import Derived.Test.YtaidpdjlchnonaaGd
namespace Go.Proofs.Ytaidpdjlchnonaa
open Go.Vc
set_option linter.unusedVariables false
set_option linter.unusedSimpArgs false
set_option maxRecDepth 100000

theorem Send1_c {w : World} {F : Nat → Prop} {v : Value} {m : Ms} (HG1 : AgV tMs w F v m) : CallsR Try.prog 59 (#[v] ++ #[]) w (fun o w' => o = .bool (!mayN m) ∧ Ext w w') := by
  obtain ⟨a1, c1, a2, c2, rfl, HSe, HSs, hw⟩ := HG1.ms
  show CallsR _ _ #[_] _ _
  refine enter 6 Try.func59 rfl rfl (by simp) ?_
  refine c_seq ?_
  have E := Keep.refl (K := NoK) w
  replace HG1 := HG1.all
  refine wp_reg (by decide +kernel) ?_
  refine l_to (to_box (show _ = (Value.agg _) from rfl) ?_)
  rintro b1 w1 zb1 HB1 e1 z1
  have zs_e1 := e1.size
  replace E := E.trans (Ext.keep e1)
  replace HG1 := HG1.ext e1
  try simp only [Value.cells] at HB1
  refine l_v (v_assign rfl) ?_
  refine l_nil ?_
  refine n_then ?_
  refine c_seq ?_
  refine wp_reg (by decide +kernel) ?_
  refine l_v (v_loadA (by kernel_rfl) rfl (by first | exact HB1.pv | assumption) rfl) ?_
  refine l_to (to_f1 (by kernel_rfl) (show _ = (Value.agg _) from rfl) (CallsR.mono (May_c HG1) ?_))
  rintro _ w101 ⟨rfl, e101⟩
  have zs_e101 := e101.size
  replace E := E.trans (Ext.keep e101)
  replace HG1 := HG1.ext e101
  replace HB1 := HB1.ext e101
  refine l_v (v_not rfl) ?_
  refine l_v (v_assign (t := .bool _) rfl) ?_
  refine l_nil ?_
  refine n_then ?_
  refine c_ret ?_
  refine ret1v rfl (by decide) (show _ = (Value.bool _) from rfl) ?_
  exact ⟨rfl, E⟩
theorem Send_no {w : World} {F : Nat → Prop} {b : Nat} {x y v : Value} {ls : List Ms} (HB1 : Blk w b [.bool true, x, y] 68) (HS2 : SlV tMs w F v ls) (hls : ls.any (fun m => !mayN m) = true) : CallsR Try.prog 21 #[.pointer (some ⟨b, 0, none⟩), v] w (fun o w' => o = .tuple #[.int .i64 0, .int .i64 2] ∧ Ext w w') := by
  obtain ⟨a, c, rfl⟩ := HS2.shape
  refine enter 63 Try.func21 rfl rfl (by simp) ?_
  refine c_seq ?_
  have E := Keep.refl (K := NoK) w
  replace HS2 := HS2.all
  refine wp_reg (by decide +kernel) ?_
  refine l_v (v_assign rfl) ?_
  refine l_v (v_assign rfl) ?_
  refine l_nil ?_
  refine n_then ?_
  refine c_seq ?_
  refine c_block ?_
  refine c_seq ?_
  refine wp_reg (by decide +kernel) ?_
  refine l_v (v_move (t := .pointer _) rfl) ?_
  refine l_to (to_f1 (by kernel_rfl) (show _ = (Value.pointer _) from rfl) (CallsR.mono (there_c HB1) ?_))
  rintro _ w101 ⟨rfl, e101⟩
  have zs_e101 := e101.size
  replace E := E.trans (Ext.keep e101)
  replace HB1 := HB1.ext e101
  replace HS2 := HS2.ext e101
  refine l_v (v_not rfl) ?_
  refine l_v (v_assign (t := .bool _) rfl) ?_
  refine l_nil ?_
  refine n_then ?_
  refine c_cond rfl rfl (fun hc => ?_) (fun hc => ?_)
  · skip
    cases hc
  · skip
    refine c_seq ?_
    refine wp_reg (by decide +kernel) ?_
    refine l_v (v_move (t := .slice _ _ _) rfl) ?_
    refine l_to (to_f2 (by kernel_rfl) (show _ = (Value.slice _ _ _) from rfl) rfl (CallsR.mono (ContainsFuncM_c HS2 (by kernel_rfl) (fun W u r e h _ => Send1_c h)) ?_))
    rintro _ w102 ⟨rfl, e102⟩
    have zs_e102 := e102.size
    replace E := E.trans (Ext.keep e102)
    replace HB1 := HB1.ext e102
    replace HS2 := HS2.ext e102
    refine l_v (v_assign (t := .bool _) rfl) ?_
    refine l_nil ?_
    refine n_then ?_
    refine c_cond rfl rfl (fun hc2 => ?_) (fun hc2 => ?_)
    · skip
      refine c_seq ?_
      refine wp_reg (by decide +kernel) ?_
      refine l_v (v_assign rfl) ?_
      refine l_v (v_assign rfl) ?_
      refine l_nil ?_
      refine n_then ?_
      refine c_ret ?_
      refine r_blk ?_
      refine r_then ?_
      refine ret2v rfl (by decide) (by decide) (show _ = (Value.int _ _) from rfl) (show _ = (Value.int _ _) from rfl) ?_
      exact ⟨rfl, E⟩
    · skip
      rw [hls] at hc2; cases hc2
set_option maxHeartbeats 4000000 in
theorem Send_c {w : World} {F G : Nat → Prop} {b c : Nat} {a : Option Addr} {ms ls : List Ms} {lost : Int} {v : Value} (HB1 : Blk w b [.bool true, .slice a ms.length c, .int .i64 lost] 68) (HS1 : SlV tMs w G (.slice a ms.length c) ms) (HS2 : SlV tMs w F v ls)
    (hG : ∀ i, G i → i ≠ b) (hml : ms.length ≤ 256) (hll : ls.length ≤ 1000000) (hls : ∀ m ∈ ls, mayN m = true) (hlo : 0 ≤ lost ∧ lost ≤ 4611686018427387904) : CallsR Try.prog 21 #[.pointer (some ⟨b, 0, none⟩), v] w (fun o w' => o = .tuple #[.int .i64 (sendN ms ls : Nat), .int .i64 0] ∧
      (∃ a2 c2, Blk w' b [.bool true, .slice a2 (sendL ms ls).length c2, .int .i64 (lost + (sendN ms ls : Nat))] 68 ∧ SlV tMs w' (fun i => G i ∨ w.heap.size ≤ i) (.slice a2 (sendL ms ls).length c2) (sendL ms ls)) ∧ Keep (fun i => i = b) w w') := by
  obtain ⟨a3, c3, rfl⟩ := HS2.shape
  have hcap := HS1.cap
  have zl1 := HB1.lt
  have hll2 := sendL_len ms ls
  replace HS1 := HS1.mono (F' := fun i => G i ∧ i < w.heap.size) fun b hb h => ⟨h, hb⟩
  replace HS2 := HS2.mono (F' := fun i => F i ∧ i < w.heap.size) fun b hb h => ⟨h, hb⟩
  refine enter 63 Try.func21 rfl rfl (by simp) ?_
  refine c_seq ?_
  have E := Keep.refl (K := fun i => i = b) w
  refine wp_reg (by decide +kernel) ?_
  refine l_v (v_assign rfl) ?_
  refine l_v (v_assign rfl) ?_
  refine l_nil ?_
  refine n_then ?_
  refine c_seq ?_
  refine c_block ?_
  refine c_seq ?_
  refine wp_reg (by decide +kernel) ?_
  refine l_v (v_move (t := .pointer _) rfl) ?_
  refine l_to (to_f1 (by kernel_rfl) (show _ = (Value.pointer _) from rfl) (CallsR.mono (there_c HB1) ?_))
  rintro _ w101 ⟨rfl, e101⟩
  have zs_e101 := e101.size
  replace E := E.trans (Ext.keep e101)
  replace HB1 := HB1.ext e101
  replace HS1 := HS1.ext e101
  replace HS2 := HS2.ext e101
  refine l_v (v_not rfl) ?_
  refine l_v (v_assign (t := .bool _) rfl) ?_
  refine l_nil ?_
  refine n_then ?_
  refine c_cond rfl rfl (fun hc => ?_) (fun hc => ?_)
  · skip
    cases hc
  · skip
    refine c_seq ?_
    refine wp_reg (by decide +kernel) ?_
    refine l_v (v_move (t := .slice _ _ _) rfl) ?_
    refine l_to (to_f2 (by kernel_rfl) (show _ = (Value.slice _ _ _) from rfl) rfl (CallsR.mono (ContainsFuncM_c HS2 (by kernel_rfl) (fun W u r e h _ => Send1_c h)) ?_))
    rintro _ w102 ⟨rfl, e102⟩
    have zs_e102 := e102.size
    replace E := E.trans (Ext.keep e102)
    replace HB1 := HB1.ext e102
    replace HS1 := HS1.ext e102
    replace HS2 := HS2.ext e102
    refine l_v (v_assign (t := .bool _) rfl) ?_
    refine l_nil ?_
    refine n_then ?_
    refine c_cond rfl rfl (fun hc2 => ?_) (fun hc2 => ?_)
    · skip
      have := any_may hls; rw [this] at hc2; cases hc2
    · skip
      refine c_skip ?_
      refine n_blk ?_
      refine n_then ?_
      refine c_seq ?_
      refine wp_regd (NoK) (by kernel_rfl) (by decide +kernel) (by decide +kernel) ?_
      refine rt_v (fun vals w hR hd => v_move (t := .pointer _) rfl) ?_
      refine rt_v (fun vals w hR hd => v_nilCheck (hd 0 rfl)) ?_
      refine rt_v (fun vals w hR hd => v_fieldAddr (off := 1) (ft := 41) (by kernel_rfl) (hd 1 rfl)) ?_
      refine rt_v (fun vals w hR hd => v_load (by kernel_rfl) (hd 2 rfl) (by first | exact (HB1.ext hR).pv 1 _ rfl | assumption)) ?_
      refine rt_v (fun vals w hR hd => v_move (t := .pointer _) rfl) ?_
      refine rt_v (fun vals w hR hd => v_nilCheck (hd 4 rfl)) ?_
      refine rt_v (fun vals w hR hd => v_fieldAddr (off := 1) (ft := 41) (by kernel_rfl) (hd 5 rfl)) ?_
      refine rt_v (fun vals w hR hd => v_load (by kernel_rfl) (hd 6 rfl) (by first | exact (HB1.ext hR).pv 1 _ rfl | assumption)) ?_
      refine rt_v (fun vals w hR hd => v_len (et := 26) (by kernel_rfl) (hd 7 rfl)) ?_
      refine rt_v (fun vals w hR hd => v_move (t := .pointer _) rfl) ?_
      refine rt_v (fun vals w hR hd => v_nilCheck (hd 9 rfl)) ?_
      refine rt_v (fun vals w hR hd => v_fieldAddr (off := 1) (ft := 41) (by kernel_rfl) (hd 10 rfl)) ?_
      refine rt_v (fun vals w hR hd => v_load (by kernel_rfl) (hd 11 rfl) (by first | exact (HB1.ext hR).pv 1 _ rfl | assumption)) ?_
      refine rt_v (fun vals w hR hd => v_len (et := 26) (by kernel_rfl) (hd 12 rfl)) ?_
      refine rt_v (fun vals w hR hd => v_slice3 (et := 26) (sz := 11) (h := ms.length) (by kernel_rfl) (by kernel_rfl) (hd 3 rfl) (hd 8 rfl) (hd 13 rfl) (by omega)) ?_
      refine rt_v (fun vals w hR hd => v_assign (t := .slice _ _ _) (hd 14 rfl)) ?_
      refine rt_nil (fun w103 e103 => ?_)
      rintro _ rfl _ rfl _ rfl _ rfl _ rfl _ rfl _ rfl _ rfl _ rfl _ rfl _ rfl _ rfl _ rfl _ rfl _ rfl _ rfl
      have zs_e103 := e103.size
      replace E := E.trans (Ext.keep e103)
      replace HB1 := HB1.ext e103
      replace HS1 := HS1.ext e103
      replace HS2 := HS2.ext e103
      refine fin_nil ?_
      refine n_then ?_
      refine c_seq ?_
      refine c_seq ?_
      refine wp_reg (by decide +kernel) ?_
      refine l_v (v_move (t := .slice _ _ _) rfl) ?_
      refine l_v (v_len (et := 26) (by kernel_rfl) rfl) ?_
      refine l_v (v_move rfl) ?_
      refine l_nil ?_
      refine n_then ?_
      refine c_block ?_
      refine c_loop (τ := Nat × Option Addr × Nat × Nat) [6, 8, 34, 35, 36, 37, 38, 39, 40, 41, 42, 43] (fun (i, a, n, c) => [(6, .slice a n c), (34, .int .i64 i)]) (fun (i, a, n, c) W => Keep (fun i => i = b) w W ∧ Keep (fun b => w.heap.size ≤ b) w103 W ∧ i ≤ ls.length ∧ n = ms.length + i ∧ ((i = 0 ∧ c = n ∧ SlV tMs W (fun i => G i ∧ i < w.heap.size) (.slice a n n) ms) ∨ (0 < i ∧ OwV tMs 26 W w.heap.size (fun i => (G i ∨ w.heap.size ≤ i) ∧ i < W.heap.size) (.slice a n c) (ms ++ ls.take i)))) (fun (i, a, n, c) => ls.length - i) (0, a, ms.length, ms.length) (by exact ⟨rfl, rfl, trivial⟩) (by exact ⟨E, Keep.refl _, Nat.zero_le _, rfl, .inl ⟨rfl, rfl, HS1.full⟩⟩) ?_
      rintro ⟨i, a, n, c⟩ w104 j ⟨E, EL1, h1, h2, hD⟩
      have zs_EL1 := EL1.size
      replace HB1 := HB1.keep EL1 (by intro h; have he0 := h; (try dsimp only at h); (try simp only [Value.ownBlock, Option.some.injEq] at h); first | omega | (have he := he0; first | (rcases hi with hi | hi; (have := hG _ hi; omega); omega) | (have := hG _ hi; omega) | (have := hi.2; omega)))
      replace HS1 := HS1.keep EL1 (by intro i _ hi he; have he0 := he; (try dsimp only [NoK, AllB] at hi he); (try simp only [Value.ownBlock, Option.some.injEq] at he); first | exact hi.elim | exact he.elim | omega | (rcases hi with hi | hi <;> omega) | (rcases he with he | he <;> omega) | (first | (rcases hi with hi | hi; (have := hG _ hi; omega); omega) | (have := hG _ hi; omega) | (have := hi.2; omega)))
      replace HS2 := HS2.keep EL1 (by intro i _ hi he; have he0 := he; (try dsimp only [NoK, AllB] at hi he); (try simp only [Value.ownBlock, Option.some.injEq] at he); first | exact hi.elim | exact he.elim | omega | (rcases hi with hi | hi <;> omega) | (rcases he with he | he <;> omega) | (first | (rcases hi with hi | hi; (have := hG _ hi; omega); omega) | (have := hG _ hi; omega) | (have := hi.2; omega)))
      refine c_seq ?_
      refine wp_reg (by decide +kernel) ?_
      refine l_v (v_lss rfl rfl) ?_
      refine l_nil ?_
      refine n_then ?_
      refine c_seq ?_
      refine c_cond rfl rfl (fun hlt => ?_) (fun hlt => ?_)
      · skip
        have hlt := dtrue hlt
        obtain ⟨r, hx, hdr⟩ := getE (l := ls) (i := i) (by omega)
        have hmr := hls r (List.mem_of_getElem? hx)
        have htk : ms ++ ls.take (i + 1) = ms ++ ls.take i ++ [r] := by rw [List.take_add_one, hx, List.append_assoc]; rfl
        obtain ⟨q1, cs1, hq1, hF1, _, HP1, hr1⟩ := HS2.el hx
        subst hq1
        have HG5 : AgV tMs _ _ _ r := ⟨cs1, rfl, hr1⟩
        obtain ⟨b1, d1, b2, d2, rfl, _, _, _⟩ := tMs_cells hr1
        by_cases h0 : i = 0
        · skip
          refine c_skip ?_
          refine n_then ?_
          refine c_seq ?_
          refine c_block ?_
          refine c_seq ?_
          obtain ⟨_, hcn, HSv⟩ : i = 0 ∧ c = n ∧ SlV tMs _ (fun i => G i ∧ i < w.heap.size) (.slice a n n) ms := by rcases hD with h | h; exact h; omega
          subst hcn
          refine wp_reg (by decide +kernel) ?_
          refine l_v (v_indexAddr (et := 26) (sz := 11) (k := i) (by kernel_rfl) (by kernel_rfl) rfl rfl (by first | rfl | omega) (by omega)) ?_
          refine l_v (v_loadA (by kernel_rfl) rfl (by first | exact HP1 | exact HB1.pv | assumption) rfl) ?_
          refine l_to (to_alloc (z := (.agg #[.int .i64 0, .int .i64 0, .int .i64 0, .int .i64 0, .int .i64 0, .int .i64 0, .int .i64 0, .int .i64 0, .slice none 0 0, .bool false, .slice none 0 0])) (by unfold kZero; kernel_rfl) ?_)
          rintro b8 w8 zb8 HB8 e8 z8
          have zs_e8 := e8.size
          replace E := E.trans (Ext.keep e8)
          replace HB1 := HB1.ext e8
          replace HS1 := HS1.ext e8
          replace HS2 := HS2.ext e8
          replace EL1 := EL1.trans (Ext.keep e8)
          replace HP1 := HP1.ext e8
          replace HG5 := HG5.ext e8
          replace HSv := HSv.ext e8
          try simp only [Value.cells] at HB8
          refine l_to (to_storeA (n := 11) rfl rfl (show _ = (Value.agg _) from rfl) (by kernel_rfl) rfl (by first | (simp [slice_one]; done) | (simp only [List.forall_mem_cons, List.cons_append, List.nil_append]; repeat' (first | exact rfl | apply And.intro | (intro u hu; cases hu; done)))) HB8 (by first | exact of_decide_eq_true rfl | (simp; done) | decide) ?_)
          rintro w105 HX105 k105 z105
          have zs_k105 := k105.size
          replace E := E.step k105 (by intro i hi he; have he0 := he; (try dsimp only [NoK] at hi he ⊢); (try simp only [Value.ownBlock, Option.some.injEq] at he); first | exact he.elim | omega | exact he | (first | (rcases hi with hi | hi; (have := hG _ hi; omega); omega) | (have := hG _ hi; omega) | (have := hi.2; omega)))
          replace HB1 := HB1.keep k105 (by intro h; have he0 := h; (try dsimp only at h); (try simp only [Value.ownBlock, Option.some.injEq] at h); first | omega | (have he := he0; first | (rcases hi with hi | hi; (have := hG _ hi; omega); omega) | (have := hG _ hi; omega) | (have := hi.2; omega)))
          replace HS1 := HS1.keep k105 (by intro i _ hi he; have he0 := he; (try dsimp only [NoK, AllB] at hi he); (try simp only [Value.ownBlock, Option.some.injEq] at he); first | exact hi.elim | exact he.elim | omega | (rcases hi with hi | hi <;> omega) | (rcases he with he | he <;> omega) | (first | (rcases hi with hi | hi; (have := hG _ hi; omega); omega) | (have := hG _ hi; omega) | (have := hi.2; omega)))
          replace HS2 := HS2.keep k105 (by intro i _ hi he; have he0 := he; (try dsimp only [NoK, AllB] at hi he); (try simp only [Value.ownBlock, Option.some.injEq] at he); first | exact hi.elim | exact he.elim | omega | (rcases hi with hi | hi <;> omega) | (rcases he with he | he <;> omega) | (first | (rcases hi with hi | hi; (have := hG _ hi; omega); omega) | (have := hG _ hi; omega) | (have := hi.2; omega)))
          replace EL1 := EL1.step k105 (by intro i hi he; have he0 := he; (try dsimp only [NoK] at hi he ⊢); (try simp only [Value.ownBlock, Option.some.injEq] at he); first | exact he.elim | omega | exact he | (first | (rcases hi with hi | hi; (have := hG _ hi; omega); omega) | (have := hG _ hi; omega) | (have := hi.2; omega)))
          replace HG5 := HG5.keep k105 (by intro i _ hi he; have he0 := he; (try dsimp only [NoK, AllB] at hi he); (try simp only [Value.ownBlock, Option.some.injEq] at he); first | exact hi.elim | exact he.elim | omega | (rcases hi with hi | hi <;> omega) | (rcases he with he | he <;> omega) | (first | (rcases hi with hi | hi; (have := hG _ hi; omega); omega) | (have := hG _ hi; omega) | (have := hi.2; omega)))
          replace HSv := HSv.keep k105 (by intro i _ hi he; have he0 := he; (try dsimp only [NoK, AllB] at hi he); (try simp only [Value.ownBlock, Option.some.injEq] at he); first | exact hi.elim | exact he.elim | omega | (rcases hi with hi | hi <;> omega) | (rcases he with he | he <;> omega) | (first | (rcases hi with hi | hi; (have := hG _ hi; omega); omega) | (have := hG _ hi; omega) | (have := hi.2; omega)))
          replace HB8 := HX105
          clear HX105
          try simp only [List.set_cons_zero, List.set_cons_succ, setAt, List.take_zero, List.take_succ_cons, List.drop_zero, List.drop_succ_cons, List.nil_append, List.cons_append, List.append_nil, List.length_cons, List.length_nil, Nat.zero_add, Nat.reduceAdd, List.drop_nil] at HB8
          refine l_nil ?_
          refine n_then ?_
          refine wp_reg (by decide +kernel) ?_
          refine l_v (v_move (t := .slice _ _ _) rfl) ?_
          refine l_v (v_loadA (by kernel_rfl) rfl (by first | exact HB8.pv | exact HB1.pv | assumption) rfl) ?_
          refine l_to (to_f1 (by kernel_rfl) (show _ = (Value.agg _) from rfl) (CallsR.mono (clone_c HG5 hmr) ?_))
          rintro _ w9 ⟨HG9, e9⟩
          have zs_e9 := e9.size
          obtain ⟨a9, c9, a10, c10, rfl, HS9, HS10, hw9⟩ := HG9.ms
          replace E := E.trans (Ext.keep e9)
          replace HB1 := HB1.ext e9
          replace HS1 := HS1.ext e9
          replace HS2 := HS2.ext e9
          replace EL1 := EL1.trans (Ext.keep e9)
          replace HG5 := HG5.ext e9
          replace HSv := HSv.ext e9
          replace HB8 := HB8.ext e9
          refine l_to (to_slice1 (t := tMs) (et := 26) (bytes := 120) (by kernel_rfl) (by decide) (show _ = (Value.agg _) from rfl) (tMs_mk HS9 HS10 hw9) ?_)
          rintro b9 w10 zb9 HO9 e10 z9
          have zs_e10 := e10.size
          replace E := E.trans (Ext.keep e10)
          replace HB1 := HB1.ext e10
          replace HS1 := HS1.ext e10
          replace HS2 := HS2.ext e10
          replace EL1 := EL1.trans (Ext.keep e10)
          replace HG5 := HG5.ext e10
          replace HSv := HSv.ext e10
          replace HB8 := HB8.ext e10
          replace HG9 := HG9.ext e10
          replace HS9 := HS9.ext e10
          replace HS10 := HS10.ext e10
          have zo_HO9 := fun (b : Nat) h => HO9.own_lt (b := b) h
          refine l_to (to_appFull (et := 26) (bytes := 120) (G := fun i => (G i ∨ w.heap.size ≤ i)) (by kernel_rfl) (show _ = (Value.slice _ _ _) from rfl) HSv (show _ = (Value.slice _ _ _) from rfl) HO9.view (by simp) (fun b _ h => .inl h.1) (fun b _ h => .inr (Or.elim h (fun h => by omega) (fun h => by omega))) (by first | omega | (simp; done) | (simp; omega)) (by simp only [maxLen]; first | omega | (simp; done) | (simp; omega)) ?_)
          rintro b20 c20 w20 hb20 hb21 HO20 e20
          have zs_e20 := e20.size
          replace E := E.trans (Ext.keep e20)
          replace HB1 := HB1.ext e20
          replace HS1 := HS1.ext e20
          replace HS2 := HS2.ext e20
          replace EL1 := EL1.trans (Ext.keep e20)
          replace HSv := HSv.ext e20
          replace HO9 := HO9.ext e20
          have zo_HO20 := fun (b : Nat) h => HO20.own_lt (b := b) h
          refine l_v (v_assign (t := .slice _ _ _) rfl) ?_
          refine l_nil ?_
          refine n_blk ?_
          refine n_then ?_
          refine wp_reg (by decide +kernel) ?_
          refine l_v (v_add rfl rfl (by first | exact wr_i64 (by omega) (by omega) | rfl)) ?_
          refine l_v (v_move (t := .int _ _) rfl) ?_
          refine l_nil ?_
          refine n_then ?_
          refine ⟨(i + 1, some ⟨b20, 0, none⟩, (ms ++ [r]).length, c20), _, rfl, by (repeat (first | exact Off.of_over _ _ _ | refine Off.upd ?_ (by decide) _ | refine Off.overs ?_ (by decide) _)), ⟨by first | rfl | exact congrArg (Value.int _) (by omega) | (simp; done), by first | rfl | exact congrArg (Value.int _) (by omega) | (simp; done), trivial⟩, ⟨E, EL1, ?_⟩, ?_⟩
          · skip
            refine ⟨by omega, by simp; omega, .inr ⟨by omega, ?_⟩⟩
            rw [htk]; subst h0; rw [List.take_zero, List.append_nil]
            exact (HO20.base (by omega)).mono fun b hb h => ⟨h, hb⟩
          · (dsimp only; omega)
        · skip
          refine c_skip ?_
          refine n_then ?_
          refine c_seq ?_
          refine c_block ?_
          refine c_seq ?_
          obtain ⟨_, HOx⟩ : 0 < i ∧ OwV tMs 26 _ w.heap.size _ (.slice a n c) (ms ++ ls.take i) := by rcases hD with h | h; omega; exact h
          have hn0 : n = (ms ++ ls.take i).length := by rw [List.length_append, List.length_take]; omega
          have zo_HOx := fun (b : Nat) h => HOx.own_lt (b := b) h
          have zo_HOx := fun (b : Nat) h => HOx.own_lt (b := b) h
          refine wp_reg (by decide +kernel) ?_
          refine l_v (v_indexAddr (et := 26) (sz := 11) (k := i) (by kernel_rfl) (by kernel_rfl) rfl rfl (by first | rfl | omega) (by omega)) ?_
          refine l_v (v_loadA (by kernel_rfl) rfl (by first | exact HP1 | exact HB1.pv | assumption) rfl) ?_
          refine l_to (to_alloc (z := (.agg #[.int .i64 0, .int .i64 0, .int .i64 0, .int .i64 0, .int .i64 0, .int .i64 0, .int .i64 0, .int .i64 0, .slice none 0 0, .bool false, .slice none 0 0])) (by unfold kZero; kernel_rfl) ?_)
          rintro b8 w8 zb8 HB8 e8 z8
          have zs_e8 := e8.size
          replace E := E.trans (Ext.keep e8)
          replace HB1 := HB1.ext e8
          replace HS1 := HS1.ext e8
          replace HS2 := HS2.ext e8
          replace EL1 := EL1.trans (Ext.keep e8)
          replace HP1 := HP1.ext e8
          replace HG5 := HG5.ext e8
          replace HOx := HOx.ext e8
          try simp only [Value.cells] at HB8
          refine l_to (to_storeA (n := 11) rfl rfl (show _ = (Value.agg _) from rfl) (by kernel_rfl) rfl (by first | (simp [slice_one]; done) | (simp only [List.forall_mem_cons, List.cons_append, List.nil_append]; repeat' (first | exact rfl | apply And.intro | (intro u hu; cases hu; done)))) HB8 (by first | exact of_decide_eq_true rfl | (simp; done) | decide) ?_)
          rintro w106 HX106 k106 z106
          have zs_k106 := k106.size
          replace E := E.step k106 (by intro i hi he; have he0 := he; (try dsimp only [NoK] at hi he ⊢); (try simp only [Value.ownBlock, Option.some.injEq] at he); first | exact he.elim | omega | exact he | (first | (rcases hi with hi | hi; (have := hG _ hi; omega); omega) | (have := hG _ hi; omega) | (have := hi.2; omega)))
          replace HB1 := HB1.keep k106 (by intro h; have he0 := h; (try dsimp only at h); (try simp only [Value.ownBlock, Option.some.injEq] at h); first | omega | (have he := he0; first | (rcases hi with hi | hi; (have := hG _ hi; omega); omega) | (have := hG _ hi; omega) | (have := hi.2; omega)))
          replace HS1 := HS1.keep k106 (by intro i _ hi he; have he0 := he; (try dsimp only [NoK, AllB] at hi he); (try simp only [Value.ownBlock, Option.some.injEq] at he); first | exact hi.elim | exact he.elim | omega | (rcases hi with hi | hi <;> omega) | (rcases he with he | he <;> omega) | (first | (rcases hi with hi | hi; (have := hG _ hi; omega); omega) | (have := hG _ hi; omega) | (have := hi.2; omega)))
          replace HS2 := HS2.keep k106 (by intro i _ hi he; have he0 := he; (try dsimp only [NoK, AllB] at hi he); (try simp only [Value.ownBlock, Option.some.injEq] at he); first | exact hi.elim | exact he.elim | omega | (rcases hi with hi | hi <;> omega) | (rcases he with he | he <;> omega) | (first | (rcases hi with hi | hi; (have := hG _ hi; omega); omega) | (have := hG _ hi; omega) | (have := hi.2; omega)))
          replace EL1 := EL1.step k106 (by intro i hi he; have he0 := he; (try dsimp only [NoK] at hi he ⊢); (try simp only [Value.ownBlock, Option.some.injEq] at he); first | exact he.elim | omega | exact he | (first | (rcases hi with hi | hi; (have := hG _ hi; omega); omega) | (have := hG _ hi; omega) | (have := hi.2; omega)))
          replace HG5 := HG5.keep k106 (by intro i _ hi he; have he0 := he; (try dsimp only [NoK, AllB] at hi he); (try simp only [Value.ownBlock, Option.some.injEq] at he); first | exact hi.elim | exact he.elim | omega | (rcases hi with hi | hi <;> omega) | (rcases he with he | he <;> omega) | (first | (rcases hi with hi | hi; (have := hG _ hi; omega); omega) | (have := hG _ hi; omega) | (have := hi.2; omega)))
          replace HOx := HOx.keep k106 (by intro i ho he; have he0 := he; have ho0 := ho; (try dsimp only [NoK] at he); (try simp only [Value.ownBlock, Option.some.injEq, reduceCtorEq] at ho); (try simp only [Value.ownBlock, Option.some.injEq, reduceCtorEq] at he); first | exact he.elim | exact ho.elim | omega | (have := zo_HOx _ ho0; omega)) (by intro i _ hi _ he; have he0 := he; have hi := hi; have he := he; (try dsimp only [NoK, AllB] at hi he); (try simp only [Value.ownBlock, Option.some.injEq, reduceCtorEq] at he); all_goals first | exact hi.elim | exact hi.1.elim | exact he.elim | omega | (rcases hi with hi | hi <;> omega) | (rcases he with he | he <;> omega) | (first | (rcases hi with hi | hi; (have := hG _ hi; omega); omega) | (have := hG _ hi; omega) | (have := hi.2; omega)))
          replace HB8 := HX106
          clear HX106
          try simp only [List.set_cons_zero, List.set_cons_succ, setAt, List.take_zero, List.take_succ_cons, List.drop_zero, List.drop_succ_cons, List.nil_append, List.cons_append, List.append_nil, List.length_cons, List.length_nil, Nat.zero_add, Nat.reduceAdd, List.drop_nil] at HB8
          refine l_nil ?_
          refine n_then ?_
          refine wp_reg (by decide +kernel) ?_
          refine l_v (v_move (t := .slice _ _ _) rfl) ?_
          refine l_v (v_loadA (by kernel_rfl) rfl (by first | exact HB8.pv | exact HB1.pv | assumption) rfl) ?_
          refine l_to (to_f1 (by kernel_rfl) (show _ = (Value.agg _) from rfl) (CallsR.mono (clone_c HG5 hmr) ?_))
          rintro _ w9 ⟨HG9, e9⟩
          have zs_e9 := e9.size
          obtain ⟨a9, c9, a10, c10, rfl, HS9, HS10, hw9⟩ := HG9.ms
          replace E := E.trans (Ext.keep e9)
          replace HB1 := HB1.ext e9
          replace HS1 := HS1.ext e9
          replace HS2 := HS2.ext e9
          replace EL1 := EL1.trans (Ext.keep e9)
          replace HG5 := HG5.ext e9
          replace HOx := HOx.ext e9
          replace HB8 := HB8.ext e9
          refine l_to (to_slice1 (t := tMs) (et := 26) (bytes := 120) (by kernel_rfl) (by decide) (show _ = (Value.agg _) from rfl) (tMs_mk HS9 HS10 hw9) ?_)
          rintro b9 w10 zb9 HO9 e10 z9
          have zs_e10 := e10.size
          replace E := E.trans (Ext.keep e10)
          replace HB1 := HB1.ext e10
          replace HS1 := HS1.ext e10
          replace HS2 := HS2.ext e10
          replace EL1 := EL1.trans (Ext.keep e10)
          replace HG5 := HG5.ext e10
          replace HOx := HOx.ext e10
          replace HB8 := HB8.ext e10
          replace HG9 := HG9.ext e10
          replace HS9 := HS9.ext e10
          replace HS10 := HS10.ext e10
          have zo_HO9 := fun (b : Nat) h => HO9.own_lt (b := b) h
          have HOy := HOx.mono (F' := fun b => G b ∨ w.heap.size ≤ b) fun b _ h => h.1
          have zo_HOy := fun (b : Nat) h => HOy.own_lt (b := b) h
          have zo_HOy := zo_HOx
          refine l_to (to_append (et := 26) (bytes := 120) (by kernel_rfl) (show _ = (Value.slice _ _ _) from rfl) HOy (show _ = (Value.slice _ _ _) from rfl) HO9.view (deepF fun b hb hb2 => ⟨.inr (Or.elim hb2 (fun h => by omega) (fun h => by omega)), fun ho => by have := zo_HOx _ ho; exact Or.elim hb2 (fun h => by omega) (fun h => by omega)⟩) (by first | omega | (simp; done) | (simp; omega)) (by simp only [maxLen]; first | omega | (simp; done) | (simp; omega)) (by omega) ?_)
          rintro a20 n20 c20 w20 HO20 hn20 k20 h20 i20
          have zs_k20 := k20.size
          replace E := E.step k20 (by intro i hi he; have he0 := he; (try dsimp only [NoK] at hi he ⊢); (try simp only [Value.ownBlock, Option.some.injEq] at he); first | exact he.elim | omega | exact he | (have := (HOy).own_lt he0; omega) | (have := zo_HOy _ he0; omega) | (have := (HOy).own_lt he0; rcases hi with hi | hi <;> omega) | (first | (rcases hi with hi | hi; (have := hG _ hi; omega); omega) | (have := hG _ hi; omega) | (have := hi.2; omega)))
          replace HB1 := HB1.keep k20 (by intro h; have he0 := h; (try dsimp only at h); (try simp only [Value.ownBlock, Option.some.injEq] at h); first | omega | (have := (HOy).own_lt he0; omega) | (have := zo_HOy _ he0; omega) | (have he := he0; first | (rcases hi with hi | hi; (have := hG _ hi; omega); omega) | (have := hG _ hi; omega) | (have := hi.2; omega)))
          replace HS1 := HS1.keep k20 (by intro i _ hi he; have he0 := he; (try dsimp only [NoK, AllB] at hi he); (try simp only [Value.ownBlock, Option.some.injEq] at he); first | exact hi.elim | exact he.elim | omega | (rcases hi with hi | hi <;> omega) | (rcases he with he | he <;> omega) | (have := (HOy).own_lt he0; omega) | (have := zo_HOy _ he0; omega) | (have := (HOy).own_lt he0; rcases hi with hi | hi <;> omega) | (first | (rcases hi with hi | hi; (have := hG _ hi; omega); omega) | (have := hG _ hi; omega) | (have := hi.2; omega)))
          replace HS2 := HS2.keep k20 (by intro i _ hi he; have he0 := he; (try dsimp only [NoK, AllB] at hi he); (try simp only [Value.ownBlock, Option.some.injEq] at he); first | exact hi.elim | exact he.elim | omega | (rcases hi with hi | hi <;> omega) | (rcases he with he | he <;> omega) | (have := (HOy).own_lt he0; omega) | (have := zo_HOy _ he0; omega) | (have := (HOy).own_lt he0; rcases hi with hi | hi <;> omega) | (first | (rcases hi with hi | hi; (have := hG _ hi; omega); omega) | (have := hG _ hi; omega) | (have := hi.2; omega)))
          replace EL1 := EL1.step k20 (by intro i hi he; have he0 := he; (try dsimp only [NoK] at hi he ⊢); (try simp only [Value.ownBlock, Option.some.injEq] at he); first | exact he.elim | omega | exact he | (have := (HOy).own_lt he0; omega) | (have := zo_HOy _ he0; omega) | (have := (HOy).own_lt he0; rcases hi with hi | hi <;> omega) | (first | (rcases hi with hi | hi; (have := hG _ hi; omega); omega) | (have := hG _ hi; omega) | (have := hi.2; omega)))
          replace HO9 := HO9.keep k20 (by intro i ho he; have he0 := he; have ho0 := ho; (try dsimp only [NoK] at he); (try simp only [Value.ownBlock, Option.some.injEq, reduceCtorEq] at ho); (try simp only [Value.ownBlock, Option.some.injEq, reduceCtorEq] at he); first | exact he.elim | exact ho.elim | omega | (have := zo_HO9 _ ho0; omega) | (have := (HOy).own_lt he0; omega) | (have := zo_HOy _ he0; omega) | (have := zo_HO9 _ ho0; have := (HOy).own_lt he0; omega)) (by intro i _ hi _ he; have he0 := he; have hi := hi; have he := he; (try dsimp only [NoK, AllB] at hi he); (try simp only [Value.ownBlock, Option.some.injEq, reduceCtorEq] at he); all_goals first | exact hi.elim | exact hi.1.elim | exact he.elim | omega | (rcases hi with hi | hi <;> omega) | (rcases he with he | he <;> omega) | (have := (HOy).own_lt he0; omega) | (have := zo_HOy _ he0; omega) | (have := (HOy).own_lt he0; rcases hi with hi | hi <;> omega) | (first | (rcases hi with hi | hi; (have := hG _ hi; omega); omega) | (have := hG _ hi; omega) | (have := hi.2; omega)))
          have zo_HO20 := fun (b : Nat) h => HO20.own_lt (b := b) h
          refine l_v (v_assign (t := .slice _ _ _) rfl) ?_
          refine l_nil ?_
          refine n_blk ?_
          refine n_then ?_
          refine wp_reg (by decide +kernel) ?_
          refine l_v (v_add rfl rfl (by first | exact wr_i64 (by omega) (by omega) | rfl)) ?_
          refine l_v (v_move (t := .int _ _) rfl) ?_
          refine l_nil ?_
          refine n_then ?_
          refine ⟨(i + 1, a20, n20, c20), _, rfl, by (repeat (first | exact Off.of_over _ _ _ | refine Off.upd ?_ (by decide) _ | refine Off.overs ?_ (by decide) _)), ⟨by first | rfl | exact congrArg (Value.int _) (by omega) | (simp; done), by first | rfl | exact congrArg (Value.int _) (by omega) | (simp; done), trivial⟩, ⟨E, EL1, ?_⟩, ?_⟩
          · skip
            refine ⟨by omega, by rw [hn20, List.length_append, ← hn0]; simp; omega, .inr ⟨by omega, ?_⟩⟩
            rw [htk]
            exact HO20.mono fun b hb h => ⟨h, hb⟩
          · (dsimp only; omega)
      · skip
        have hlt := dfalse hlt
        have HS9 : SlV tMs w104 (fun i => G i ∨ w.heap.size ≤ i) (.slice a n c) (ms ++ ls) := by
          rcases hD with ⟨h0, hc, h⟩ | ⟨h0, h⟩
          · have hl0 : ls = [] := List.eq_nil_of_length_eq_zero (by omega)
            subst hl0 hc
            rw [List.append_nil]; exact h.mono fun _ _ h => .inl h.1
          · rw [List.take_of_length_le (by omega)] at h
            exact h.view.mono fun b hb h => by rcases h with h | h; exact .inr (by omega); exact h.1
        have hcap9 := HS9.cap
        have hmx : (if ((n : Int) - 256) > 0 then (n : Int) - 256 else 0) = ((sendN ms ls : Nat) : Int) := by unfold sendN; split <;> omega
        have hsl : sendN ms ls ≤ n := by unfold sendN; omega
        refine c_exit ?_
        refine x_then ?_
        refine x_then ?_
        refine x_hit ?_
        refine n_then ?_
        refine c_seq ?_
        refine wp_reg (by decide +kernel) ?_
        refine l_v (v_move (t := .slice _ _ _) rfl) ?_
        refine l_v (v_len (et := 26) (by kernel_rfl) rfl) ?_
        refine l_v (v_sub rfl rfl (by first | exact wr_i64 (by omega) (by omega) | rfl)) ?_
        refine l_v (vmax rfl rfl) ?_
        refine l_v (v_assign (t := .int _ _) rfl) ?_
        refine l_nil ?_
        refine n_then ?_
        refine c_seq ?_
        refine wp_reg (by decide +kernel) ?_
        refine l_v (v_move (t := .pointer _) rfl) ?_
        refine l_v (v_move (t := .slice _ _ _) rfl) ?_
        refine l_v (v_move (t := .int _ _) rfl) ?_
        refine l_v (v_slice (et := 26) (sz := 11) (l := sendN ms ls) (h := n) (by kernel_rfl) (by kernel_rfl) rfl ⟨.i64, ((show _ = Value.int _ _ from rfl)).trans (congrArg (Value.int _) (by omega))⟩ rfl (by omega) (by omega)) ?_
        refine l_v (v_nilCheck rfl) ?_
        refine l_v (v_fieldAddr (off := 1) (ft := 41) (by kernel_rfl) rfl) ?_
        refine l_to (to_store rfl rfl (show _ = (Value.slice _ _ _) from rfl) rfl (by kernel_rfl) HB1 (by simp) ?_)
        rintro w31 HB1 k31 z31
        have zs_k31 := k31.size
        try simp only [List.set_cons_zero, List.set_cons_succ] at HB1
        replace E := E.step k31 (by intro i hi he; have he0 := he; (try dsimp only [NoK] at hi he ⊢); (try simp only [Value.ownBlock, Option.some.injEq] at he); first | exact he.elim | omega | exact he | (first | (rcases hi with hi | hi; (have := hG _ hi; omega); omega) | (have := hG _ hi; omega) | (have := hi.2; omega)))
        replace HS9 := HS9.keep k31 (by intro i _ hi he; have he0 := he; (try dsimp only [NoK, AllB] at hi he); (try simp only [Value.ownBlock, Option.some.injEq] at he); first | exact hi.elim | exact he.elim | omega | (rcases hi with hi | hi <;> omega) | (rcases he with he | he <;> omega) | (first | (rcases hi with hi | hi; (have := hG _ hi; omega); omega) | (have := hG _ hi; omega) | (have := hi.2; omega)))
        refine l_nil ?_
        refine n_then ?_
        refine c_seq ?_
        refine wp_reg (by decide +kernel) ?_
        refine l_v (v_move (t := .pointer _) rfl) ?_
        refine l_v (v_nilCheck rfl) ?_
        refine l_v (v_fieldAddr (off := 2) (ft := 3) (by kernel_rfl) rfl) ?_
        refine l_v (v_load (by kernel_rfl) rfl (by first | exact HB1.pv 2 _ rfl | assumption)) ?_
        refine l_v (v_move (t := .int _ _) rfl) ?_
        refine l_v (v_add rfl rfl (by first | exact wr_i64 (by omega) (by omega) | rfl)) ?_
        refine l_v (v_nilCheck rfl) ?_
        refine l_v (v_fieldAddr (off := 2) (ft := 3) (by kernel_rfl) rfl) ?_
        refine l_to (to_store rfl rfl (show _ = (Value.int _ _) from rfl) rfl (by kernel_rfl) HB1 (by simp) ?_)
        rintro w32 HB1 k32 z32
        have zs_k32 := k32.size
        try simp only [List.set_cons_zero, List.set_cons_succ] at HB1
        replace E := E.step k32 (by intro i hi he; have he0 := he; (try dsimp only [NoK] at hi he ⊢); (try simp only [Value.ownBlock, Option.some.injEq] at he); first | exact he.elim | omega | exact he | (first | (rcases hi with hi | hi; (have := hG _ hi; omega); omega) | (have := hG _ hi; omega) | (have := hi.2; omega)))
        replace HS9 := HS9.keep k32 (by intro i _ hi he; have he0 := he; (try dsimp only [NoK, AllB] at hi he); (try simp only [Value.ownBlock, Option.some.injEq] at he); first | exact hi.elim | exact he.elim | omega | (rcases hi with hi | hi <;> omega) | (rcases he with he | he <;> omega) | (first | (rcases hi with hi | hi; (have := hG _ hi; omega); omega) | (have := hG _ hi; omega) | (have := hi.2; omega)))
        refine l_nil ?_
        refine n_then ?_
        refine c_seq ?_
        refine wp_reg (by decide +kernel) ?_
        refine l_v (v_move (t := .int _ _) rfl) ?_
        refine l_v (v_assign (t := .int _ _) rfl) ?_
        refine l_v (v_assign rfl) ?_
        refine l_nil ?_
        refine n_then ?_
        refine c_ret ?_
        refine ret2v rfl (by decide) (by decide) (show _ = (Value.int _ _) from rfl) (show _ = (Value.int _ _) from rfl) ?_
        rw [hmx] at HB1 ⊢
        have hs := HS9.sub (l := sendN ms ls) (h := n) hsl (by rw [List.length_append]; omega)
        rw [List.take_of_length_le (by rw [List.length_append]; omega)] at hs
        have hh : n - sendN ms ls = (sendL ms ls).length := by omega
        rw [hh] at HB1 hs
        exact ⟨rfl, ⟨_, _, HB1, hs⟩, E⟩
end Go.Proofs.Ytaidpdjlchnonaa

namespace Go.Proofs.Ytaidpdjlchnonaa
open Go.Vc
set_option linter.unusedVariables false
set_option linter.unusedSimpArgs false
set_option maxRecDepth 100000

theorem GrowM_c {w : World} {n : Nat} (hn : n ≤ 1000000) : CallsR Try.prog 97 #[.slice none 0 0, .int .i64 n] w (fun o w' => OwV tMs 26 w' w.heap.size NoK o [] ∧ Ext w w') := by
  refine enter 27 Try.func97 rfl rfl (by simp) ?_
  refine c_seq ?_
  have E := Keep.refl (K := NoK) w
  refine wp_reg (by decide +kernel) ?_
  refine l_v (v_assign rfl) ?_
  refine l_nil ?_
  refine n_then ?_
  refine c_seq ?_
  refine c_seq ?_
  refine wp_reg (by decide +kernel) ?_
  refine l_v (v_move (t := .int _ _) rfl) ?_
  refine l_v (v_lss rfl rfl) ?_
  refine l_nil ?_
  refine n_then ?_
  refine c_cond rfl rfl (fun hc => ?_) (fun hc => ?_)
  · skip
    have := dtrue hc; omega
  · skip
    refine c_skip ?_
    refine n_then ?_
    refine c_seq ?_
    refine c_seq ?_
    refine wp_reg (by decide +kernel) ?_
    refine l_v (v_move (t := .int _ _) rfl) ?_
    refine l_v (v_move (t := .slice _ _ _) rfl) ?_
    refine l_v (v_cap (et := 26) (by kernel_rfl) rfl) ?_
    refine l_v (v_move (t := .slice _ _ _) rfl) ?_
    refine l_v (v_len (et := 26) (by kernel_rfl) rfl) ?_
    refine l_v (v_sub rfl rfl (by first | exact wr_i64 (by omega) (by omega) | rfl)) ?_
    refine l_v (v_sub rfl rfl (by first | exact wr_i64 (by omega) (by omega) | rfl)) ?_
    refine l_v (v_assign (t := .int _ _) rfl) ?_
    refine l_nil ?_
    refine n_then ?_
    refine c_seq ?_
    refine wp_reg (by decide +kernel) ?_
    refine l_v (v_move (t := .int _ _) rfl) ?_
    refine l_v (v_gtr rfl rfl) ?_
    refine l_nil ?_
    refine n_then ?_
    refine c_cond rfl rfl (fun hp => ?_) (fun hp => ?_)
    · skip
      have hp0 : 0 < n := by have := dtrue hp; omega
      refine wp_reg (by decide +kernel) ?_
      refine l_v (v_move (t := .slice _ _ _) rfl) ?_
      refine l_v (v_move (t := .slice _ _ _) rfl) ?_
      refine l_v (v_cap (et := 26) (by kernel_rfl) rfl) ?_
      refine l_v (v_slicePre (et := 26) (sz := 11) (h := 0) (by kernel_rfl) (by kernel_rfl) rfl rfl (by first | rfl | omega) (by omega)) ?_
      refine l_v (v_move (t := .int _ _) rfl) ?_
      refine l_to (to_appendZ (t := tMs) (k := n) (kn := .i64) (et := 26) (bytes := 120) (by kernel_rfl) (by kernel_rfl) rfl (show _ = Value.int .i64 (n : Int) from congrArg (Value.int _) (by simp)) (hp0) (by omega) (by simp only [maxLen]; omega) ?_)
      rintro b5 c5 w5 zb5 HO5 e5 z5
      have zs_e5 := e5.size
      replace E := E.trans (Ext.keep e5)
      have zo_HO5 := fun (b : Nat) h => HO5.own_lt (b := b) h
      refine l_v (v_move (t := .slice _ _ _) rfl) ?_
      refine l_v (v_len (et := 26) (by kernel_rfl) rfl) ?_
      refine l_v (v_slicePre (et := 26) (sz := 11) (h := 0) (by kernel_rfl) (by kernel_rfl) rfl rfl (by first | rfl | omega) (by omega)) ?_
      refine l_v (v_assign (t := .slice _ _ _) rfl) ?_
      refine l_nil ?_
      refine n_then ?_
      refine c_seq ?_
      refine wp_reg (by decide +kernel) ?_
      refine l_v (v_move (t := .slice _ _ _) rfl) ?_
      refine l_v (v_assign (t := .slice _ _ _) rfl) ?_
      refine l_nil ?_
      refine n_then ?_
      refine c_ret ?_
      refine ret1v rfl (by decide) (show _ = (Value.slice _ _ _) from rfl) ?_
      exact ⟨HO5.base (by omega), E⟩
    · skip
      refine c_skip ?_
      refine n_then ?_
      refine c_seq ?_
      refine wp_reg (by decide +kernel) ?_
      refine l_v (v_move (t := .slice _ _ _) rfl) ?_
      refine l_v (v_assign (t := .slice _ _ _) rfl) ?_
      refine l_nil ?_
      refine n_then ?_
      refine c_ret ?_
      refine ret1v rfl (by decide) (show _ = (Value.slice _ _ _) from rfl) ?_
      exact ⟨OwV.nil _ _ _ _ _, E⟩
theorem ConcatM_c {w : World} {F : Nat → Prop} {v : Value} {ls : List (List Ms)} (HS1 : SlV (tSl tMs) w F v ls) (hn : ls.length ≤ 1000) (hl : ls.flatten.length ≤ 1000000) : CallsR Try.prog 62 #[v] w (fun o w' => SlV tMs w' (fun i => F i ∨ w.heap.size ≤ i) o ls.flatten ∧ Ext w w') := by
  obtain ⟨a1, c1, rfl⟩ := HS1.shape
  replace HS1 := HS1.mono (F' := fun i => F i ∧ i < w.heap.size) fun b hb h => ⟨h, hb⟩
  have hpre : ∀ i, (ls.take i).flatten.length ≤ ls.flatten.length := fun i => by
    have : ls.flatten = (ls.take i).flatten ++ (ls.drop i).flatten := by rw [← List.flatten_append, List.take_append_drop]
    rw [this, List.length_append]; omega
  have hstep : ∀ i x, ls[i]? = some x → (ls.take (i + 1)).flatten = (ls.take i).flatten ++ x := fun i x hx => by rw [List.take_add_one, hx]; simp
  refine enter 36 Try.func62 rfl rfl (by simp) ?_
  refine c_seq ?_
  have E := Keep.refl (K := NoK) w
  refine wp_reg (by decide +kernel) ?_
  refine l_v (v_assign rfl) ?_
  refine l_nil ?_
  refine n_then ?_
  refine c_seq ?_
  refine wp_reg (by decide +kernel) ?_
  refine l_v (v_assign rfl) ?_
  refine l_nil ?_
  refine n_then ?_
  refine c_seq ?_
  refine c_seq ?_
  refine wp_reg (by decide +kernel) ?_
  refine l_v (v_move (t := .slice _ _ _) rfl) ?_
  refine l_v (v_len (et := 41) (by kernel_rfl) rfl) ?_
  refine l_v (v_move rfl) ?_
  refine l_nil ?_
  refine n_then ?_
  refine c_block ?_
  refine c_loop (τ := Nat) [3, 5, 11, 12, 13, 14, 15, 16, 17, 18, 19, 20, 21, 22] (fun i => [(3, .int .i64 ((ls.take i).flatten.length : Nat)), (11, .int .i64 i)]) (fun i W => Ext w W ∧ Keep (NoK) w W ∧ i ≤ ls.length) (fun i => ls.length - i) 0 (by exact ⟨rfl, rfl, trivial⟩) (by exact ⟨E, Keep.refl _, Nat.zero_le _⟩) ?_
  rintro i w101 j ⟨E, EL1, h1⟩
  have zs_EL1 := EL1.size
  replace HS1 := HS1.ext EL1
  refine c_seq ?_
  refine wp_reg (by decide +kernel) ?_
  refine l_v (v_lss rfl rfl) ?_
  refine l_nil ?_
  refine n_then ?_
  refine c_seq ?_
  refine c_cond rfl rfl (fun hlt => ?_) (fun hlt => ?_)
  · skip
    have hlt := dtrue hlt
    obtain ⟨x, hx, _⟩ := getE (l := ls) (i := i) (by omega)
    have hs := congrArg List.length (hstep i x hx)
    rw [List.length_append] at hs
    have hp1 := hpre (i + 1)
    refine c_skip ?_
    refine n_then ?_
    refine c_seq ?_
    refine c_block ?_
    refine c_seq ?_
    refine wp_reg (by decide +kernel) ?_
    refine l_to (to_index (et := 41) (by kernel_rfl) (by kernel_rfl) (show _ = (Value.slice _ _ _) from rfl) HS1 (show _ = (Value.int _ _) from rfl) rfl hx ?_)
    rintro q cs hF HPq hr
    obtain ⟨u, rfl, HSu⟩ := hr
    obtain ⟨a2, c2, rfl⟩ := HSu.shape
    refine l_v (v_load (by kernel_rfl) rfl (by first | exact pv_1 HPq | assumption)) ?_
    refine l_v (v_assign (t := .slice _ _ _) rfl) ?_
    refine l_nil ?_
    refine n_then ?_
    refine c_seq ?_
    refine wp_reg (by decide +kernel) ?_
    refine l_v (v_move (t := .int _ _) rfl) ?_
    refine l_v (v_move (t := .slice _ _ _) rfl) ?_
    refine l_v (v_len (et := 26) (by kernel_rfl) rfl) ?_
    refine l_v (v_add rfl rfl (by first | exact wr_i64 (by omega) (by omega) | rfl)) ?_
    refine l_v (v_assign (t := .int _ _) rfl) ?_
    refine l_nil ?_
    refine n_then ?_
    refine c_seq ?_
    refine wp_reg (by decide +kernel) ?_
    refine l_v (v_move (t := .int _ _) rfl) ?_
    refine l_v (v_lss rfl rfl) ?_
    refine l_nil ?_
    refine n_then ?_
    refine c_cond rfl rfl (fun hneg => ?_) (fun hneg => ?_)
    · skip
      have := dtrue hneg; omega
    · skip
      refine c_skip ?_
      refine n_blk ?_
      refine n_then ?_
      refine wp_reg (by decide +kernel) ?_
      refine l_v (v_add rfl rfl (by first | exact wr_i64 (by omega) (by omega) | rfl)) ?_
      refine l_v (v_move (t := .int _ _) rfl) ?_
      refine l_nil ?_
      refine n_then ?_
      refine ⟨i + 1, _, rfl, by (repeat (first | exact Off.of_over _ _ _ | refine Off.upd ?_ (by decide) _ | refine Off.overs ?_ (by decide) _)), ⟨by first | rfl | exact congrArg (Value.int _) (by omega) | (simp; done), by first | rfl | exact congrArg (Value.int _) (by omega) | (simp; done), trivial⟩, ⟨E, EL1, ?_⟩, ?_⟩
      · skip
        omega
      · (dsimp only; omega)
  · skip
    refine c_exit ?_
    refine x_then ?_
    refine x_then ?_
    refine x_hit ?_
    refine n_then ?_
    refine c_seq ?_
    refine wp_reg (by decide +kernel) ?_
    refine l_v (v_move (t := .int _ _) rfl) ?_
    refine l_to (to_f2 (by kernel_rfl) (show _ = (Value.slice _ _ _) from rfl) (show _ = (Value.int _ _) from rfl) (CallsR.mono (GrowM_c (by have := hpre i; omega)) ?_))
    rintro v6 w6 ⟨HO6, e6⟩
    have zs_e6 := e6.size
    replace E := E.trans (Ext.keep e6)
    replace HS1 := HS1.ext e6
    have zo_HO6 := fun (b : Nat) h => HO6.own_lt (b := b) h
    obtain ⟨a6, c6, rfl⟩ := HO6.shape
    refine l_v (v_assign (t := .slice _ _ _) rfl) ?_
    refine l_nil ?_
    refine n_then ?_
    refine c_seq ?_
    refine c_seq ?_
    refine wp_reg (by decide +kernel) ?_
    refine l_v (v_move (t := .slice _ _ _) rfl) ?_
    refine l_v (v_len (et := 41) (by kernel_rfl) rfl) ?_
    refine l_v (v_move rfl) ?_
    refine l_nil ?_
    refine n_then ?_
    refine c_block ?_
    refine c_loop (τ := Nat × Value) [6, 8, 27, 28, 29, 30, 31, 32, 33, 34] (fun (i, v) => [(6, v), (27, .int .i64 i)]) (fun (i, v) W => Ext w W ∧ Keep (fun b => w.heap.size ≤ b) w6 W ∧ i ≤ ls.length ∧ OwV tMs 26 W w.heap.size (fun i => F i ∧ i < w.heap.size) v (ls.take i).flatten) (fun (i, v) => ls.length - i) (0, _) (by exact ⟨rfl, rfl, trivial⟩) (by exact ⟨E, Keep.refl _, Nat.zero_le _, (HO6.base (by omega)).mono (fun _ _ h => h.elim)⟩) ?_
    rintro ⟨i, v⟩ w102 j ⟨E, EL2, h3, HOv⟩
    have zs_EL2 := EL2.size
    replace HS1 := HS1.keep EL2 (by intro i _ hi he; (try dsimp only [NoK, AllB] at hi he); first | exact hi.elim | exact he.elim | omega | (rcases hi with hi | hi <;> omega) | (rcases he with he | he <;> omega))
    have zo_HOv := fun (b : Nat) h => HOv.own_lt (b := b) h
    refine c_seq ?_
    refine wp_reg (by decide +kernel) ?_
    refine l_v (v_lss rfl rfl) ?_
    refine l_nil ?_
    refine n_then ?_
    refine c_seq ?_
    refine c_cond rfl rfl (fun hlt2 => ?_) (fun hlt2 => ?_)
    · skip
      have hlt2 := dtrue hlt2
      obtain ⟨x, hx, _⟩ := getE (l := ls) (i := i) (by omega)
      have hs := congrArg List.length (hstep i x hx)
      rw [List.length_append] at hs
      have hp1 := hpre (i + 1)
      refine c_skip ?_
      refine n_then ?_
      refine c_seq ?_
      refine c_block ?_
      refine c_seq ?_
      refine wp_reg (by decide +kernel) ?_
      refine l_to (to_index (et := 41) (by kernel_rfl) (by kernel_rfl) (show _ = (Value.slice _ _ _) from rfl) HS1 (show _ = (Value.int _ _) from rfl) rfl hx ?_)
      rintro q cs hF HPq hr
      obtain ⟨u, rfl, HSu⟩ := hr
      obtain ⟨a2, c2, rfl⟩ := HSu.shape
      obtain ⟨a3, c3, rfl⟩ := HOv.shape
      refine l_v (v_load (by kernel_rfl) rfl (by first | exact pv_1 HPq | assumption)) ?_
      refine l_v (v_assign (t := .slice _ _ _) rfl) ?_
      refine l_nil ?_
      refine n_then ?_
      refine wp_reg (by decide +kernel) ?_
      refine l_v (v_move (t := .slice _ _ _) rfl) ?_
      refine l_v (v_move (t := .slice _ _ _) rfl) ?_
      refine l_to (to_append (et := 26) (bytes := 120) (by kernel_rfl) (show _ = (Value.slice _ _ _) from rfl) HOv (show _ = (Value.slice _ _ _) from rfl) HSu (deepF fun b _ hb => ⟨hb, fun ho => by have := HOv.own_lt ho; omega⟩) (by first | omega | (simp; done) | (simp; omega)) (by simp only [maxLen]; first | omega | (simp; done) | (simp; omega)) (by omega) ?_)
      rintro a9 n9 c9 w9 HO9 hn9 k9 h9 i9
      have zs_k9 := k9.size
      replace E := E.step k9 (by intro i hi he; have he0 := he; (try dsimp only [NoK] at hi he ⊢); (try simp only [Value.ownBlock, Option.some.injEq] at he); first | exact he.elim | omega | exact he | (have := (HOv).own_lt he0; omega) | (have := zo_HOv _ he0; omega) | (have := (HOv).own_lt he0; rcases hi with hi | hi <;> omega))
      replace HS1 := HS1.keep k9 (by intro i _ hi he; have he0 := he; (try dsimp only [NoK, AllB] at hi he); (try simp only [Value.ownBlock, Option.some.injEq] at he); first | exact hi.elim | exact he.elim | omega | (rcases hi with hi | hi <;> omega) | (rcases he with he | he <;> omega) | (have := (HOv).own_lt he0; omega) | (have := zo_HOv _ he0; omega) | (have := (HOv).own_lt he0; rcases hi with hi | hi <;> omega))
      replace EL2 := EL2.step k9 (by intro i hi he; have he0 := he; (try dsimp only [NoK] at hi he ⊢); (try simp only [Value.ownBlock, Option.some.injEq] at he); first | exact he.elim | omega | exact he | (have := (HOv).own_lt he0; omega) | (have := zo_HOv _ he0; omega) | (have := (HOv).own_lt he0; rcases hi with hi | hi <;> omega))
      replace HPq := HPq.keep k9 (by intro h; have he0 := h; (try dsimp only at h); (try simp only [Value.ownBlock, Option.some.injEq] at h); (try simp only [add_block] at h); (try simp only [add_block] at he0); first | omega | (have := (HOv).own_lt he0; omega) | (have := zo_HOv _ he0; omega))
      replace HSu := HSu.keep k9 (by intro i _ hi he; have he0 := he; (try dsimp only [NoK, AllB] at hi he); (try simp only [Value.ownBlock, Option.some.injEq] at he); first | exact hi.elim | exact he.elim | omega | (rcases hi with hi | hi <;> omega) | (rcases he with he | he <;> omega) | (have := (HOv).own_lt he0; omega) | (have := zo_HOv _ he0; omega) | (have := (HOv).own_lt he0; rcases hi with hi | hi <;> omega))
      have zo_HO9 := fun (b : Nat) h => HO9.own_lt (b := b) h
      refine l_v (v_assign (t := .slice _ _ _) rfl) ?_
      refine l_nil ?_
      refine n_blk ?_
      refine n_then ?_
      refine wp_reg (by decide +kernel) ?_
      refine l_v (v_add rfl rfl (by first | exact wr_i64 (by omega) (by omega) | rfl)) ?_
      refine l_v (v_move (t := .int _ _) rfl) ?_
      refine l_nil ?_
      refine n_then ?_
      refine ⟨(i + 1, .slice a9 n9 c9), _, rfl, by (repeat (first | exact Off.of_over _ _ _ | refine Off.upd ?_ (by decide) _ | refine Off.overs ?_ (by decide) _)), ⟨by first | rfl | exact congrArg (Value.int _) (by omega) | (simp; done), by first | rfl | exact congrArg (Value.int _) (by omega) | (simp; done), trivial⟩, ⟨E, EL2, ?_⟩, ?_⟩
      · skip
        exact ⟨by omega, by rw [hstep i x hx]; exact HO9⟩
      · (dsimp only; omega)
    · skip
      obtain ⟨a4, c4, rfl⟩ := HOv.shape
      refine c_exit ?_
      refine x_then ?_
      refine x_then ?_
      refine x_hit ?_
      refine n_then ?_
      refine c_seq ?_
      refine wp_reg (by decide +kernel) ?_
      refine l_v (v_move (t := .slice _ _ _) rfl) ?_
      refine l_v (v_assign (t := .slice _ _ _) rfl) ?_
      refine l_nil ?_
      refine n_then ?_
      refine c_ret ?_
      refine ret1v rfl (by decide) (show _ = (Value.slice _ _ _) from rfl) ?_
      have h := dfalse hlt2
      have e1 : ls.take i = ls := List.take_of_length_le (by omega)
      rw [e1] at HOv ⊢
      exact ⟨HOv.view.mono fun b _ h => Or.elim h (fun h => .inr h) (fun h => .inl h.1), E⟩
theorem Take_no {w : World} {b c : Nat} {a : Option Addr} {k : Nat} {y : Value} {n : Int} (HB1 : Blk w b [.bool true, .slice a k c, y] 68) (hn : n < 0 ∨ (k : Int) ≤ n) : CallsR Try.prog 22 #[.pointer (some ⟨b, 0, none⟩), .int .i64 n] w (fun o w' => o = .tuple #[.agg #[.int .i64 0, .int .i64 0, .int .i64 0, .int .i64 0, .int .i64 0, .int .i64 0, .int .i64 0, .int .i64 0, .slice none 0 0, .bool false, .slice none 0 0], .int .i64 2] ∧ Ext w w') := by
  have zl1 := HB1.lt
  refine enter 36 Try.func22 rfl rfl (by simp) ?_
  refine c_seq ?_
  have E := Keep.refl (K := NoK) w
  refine wp_reg (by decide +kernel) ?_
  refine l_to (to_alloc (z := (.agg #[.int .i64 0, .int .i64 0, .int .i64 0, .int .i64 0, .int .i64 0, .int .i64 0, .int .i64 0, .int .i64 0, .slice none 0 0, .bool false, .slice none 0 0])) (by unfold kZero; kernel_rfl) ?_)
  rintro b2 w2 zb2 HB2 e2 z2
  have zs_e2 := e2.size
  replace E := E.trans (Ext.keep e2)
  replace HB1 := HB1.ext e2
  try simp only [Value.cells] at HB2
  refine l_v (v_assign rfl) ?_
  refine l_nil ?_
  refine n_then ?_
  refine c_seq ?_
  refine wp_reg (by decide +kernel) ?_
  refine l_v (v_move (t := .pointer _) rfl) ?_
  refine l_v (v_move (t := .int _ _) rfl) ?_
  refine l_to (to_f2 (by kernel_rfl) (show _ = (Value.pointer _) from rfl) (show _ = (Value.int _ _) from rfl) (CallsR.mono (At_no HB1 hn) ?_))
  rintro _ w3 ⟨rfl, e3⟩
  have zs_e3 := e3.size
  replace E := E.trans (Ext.keep e3)
  replace HB1 := HB1.ext e3
  replace HB2 := HB2.ext e3
  refine l_v (v_move (t := .tuple _) rfl) ?_
  refine l_v (v_extract (t := .agg _) rfl rfl) ?_
  refine l_v (v_extract (t := .int _ _) rfl rfl) ?_
  refine l_to (to_alloc (z := (.agg #[.int .i64 0, .int .i64 0, .int .i64 0, .int .i64 0, .int .i64 0, .int .i64 0, .int .i64 0, .int .i64 0, .slice none 0 0, .bool false, .slice none 0 0])) (by unfold kZero; kernel_rfl) ?_)
  rintro b4 w4 zb4 HB4 e4 z4
  have zs_e4 := e4.size
  replace E := E.trans (Ext.keep e4)
  replace HB1 := HB1.ext e4
  replace HB2 := HB2.ext e4
  try simp only [Value.cells] at HB4
  refine l_to (to_storeA (n := 11) rfl rfl (show _ = (Value.agg _) from rfl) (by kernel_rfl) rfl (by first | (simp [slice_one]; done) | (simp only [List.forall_mem_cons, List.cons_append, List.nil_append]; repeat' (first | exact rfl | apply And.intro | (intro u hu; cases hu; done)))) HB4 (by first | exact of_decide_eq_true rfl | (simp; done) | decide) ?_)
  rintro w101 HX101 k101 z101
  have zs_k101 := k101.size
  replace E := E.step k101 (by intro i hi he; (try dsimp only [NoK] at hi he ⊢); first | exact he.elim | omega | exact he)
  replace HB1 := HB1.keep k101 (by intro h; (try dsimp only at h); first | omega)
  replace HB2 := HB2.keep k101 (by intro h; (try dsimp only at h); first | omega)
  replace HB4 := HX101
  clear HX101
  try simp only [List.set_cons_zero, List.set_cons_succ, setAt, List.take_zero, List.take_succ_cons, List.drop_zero, List.drop_succ_cons, List.nil_append, List.cons_append, List.append_nil, List.length_cons, List.length_nil, Nat.zero_add, Nat.reduceAdd, List.drop_nil] at HB4
  refine l_v (v_assign (t := .int _ _) rfl) ?_
  refine l_nil ?_
  refine n_then ?_
  refine c_seq ?_
  refine c_seq ?_
  refine wp_reg (by decide +kernel) ?_
  refine l_v (v_move (t := .int _ _) rfl) ?_
  refine l_v (v_eql rfl rfl) ?_
  refine l_nil ?_
  refine n_then ?_
  refine c_cond rfl rfl (fun hc => ?_) (fun hc => ?_)
  · skip
    cases hc
  · skip
    refine c_skip ?_
    refine n_then ?_
    refine c_seq ?_
    refine wp_reg (by decide +kernel) ?_
    refine l_v (v_loadA (by kernel_rfl) rfl (by first | exact HB4.pv | exact HB2.pv | exact HB1.pv | assumption) rfl) ?_
    refine l_v (v_move (t := .int _ _) rfl) ?_
    refine l_to (to_storeA (n := 11) rfl rfl (show _ = (Value.agg _) from rfl) (by kernel_rfl) rfl (by first | (simp [slice_one]; done) | (simp only [List.forall_mem_cons, List.cons_append, List.nil_append]; repeat' (first | exact rfl | apply And.intro | (intro u hu; cases hu; done)))) HB2 (by first | exact of_decide_eq_true rfl | (simp; done) | decide) ?_)
    rintro w102 HX102 k102 z102
    have zs_k102 := k102.size
    replace E := E.step k102 (by intro i hi he; (try dsimp only [NoK] at hi he ⊢); first | exact he.elim | omega | exact he)
    replace HB1 := HB1.keep k102 (by intro h; (try dsimp only at h); first | omega)
    replace HB4 := HB4.keep k102 (by intro h; (try dsimp only at h); first | omega)
    replace HB2 := HX102
    clear HX102
    try simp only [List.set_cons_zero, List.set_cons_succ, setAt, List.take_zero, List.take_succ_cons, List.drop_zero, List.drop_succ_cons, List.nil_append, List.cons_append, List.append_nil, List.length_cons, List.length_nil, Nat.zero_add, Nat.reduceAdd, List.drop_nil] at HB2
    refine l_v (v_assign (t := .int _ _) rfl) ?_
    refine l_nil ?_
    refine n_then ?_
    refine c_ret ?_
    refine ret2cv (n := 11) rfl (by decide) (by decide) rfl (by kernel_rfl) HB2.pv rfl (show _ = (Value.int _ _) from rfl) ?_
    exact ⟨rfl, E⟩
set_option maxHeartbeats 4000000 in
theorem Take_c {w : World} {G : Nat → Prop} {b c : Nat} {a : Option Addr} {ms : List Ms} {y : Value} {n : Int} {m : Ms} (HB1 : Blk w b [.bool true, .slice a ms.length c, y] 68) (HS1 : SlV tMs w G (.slice a ms.length c) ms) (hG : ∀ i, G i → i ≠ b) (hml : ms.length ≤ 256) (h0 : 0 ≤ n) (hx : ms[n.toNat]? = some m) (hm : mayN m = true) : CallsR Try.prog 22 #[.pointer (some ⟨b, 0, none⟩), .int .i64 n] w (fun o w' => (∃ v, o = .tuple #[v, .int .i64 0] ∧ AgV tMs w' (fun b => w.heap.size ≤ b) v m) ∧
      (∃ a2 c2, Blk w' b [.bool true, .slice a2 (ms.eraseIdx n.toNat).length c2, y] 68 ∧ SlV tMs w' (fun i => G i ∨ w.heap.size ≤ i) (.slice a2 (ms.eraseIdx n.toNat).length c2) (ms.eraseIdx n.toNat)) ∧ Keep (fun i => i = b) w w') := by
  have hlt := (List.getElem?_eq_some_iff.1 hx).1
  have hcap := HS1.cap
  have zl1 := HB1.lt
  obtain ⟨n0, hn0⟩ : ∃ n, n = w.heap.size := ⟨_, rfl⟩
  replace HS1 := HS1.mono (F' := fun i => G i ∧ i < n0) fun b hb h => ⟨h, by omega⟩
  refine enter 36 Try.func22 rfl rfl (by simp) ?_
  refine c_seq ?_
  have E := Keep.refl (K := fun i => i = b) w
  refine wp_reg (by decide +kernel) ?_
  refine l_to (to_alloc (z := (.agg #[.int .i64 0, .int .i64 0, .int .i64 0, .int .i64 0, .int .i64 0, .int .i64 0, .int .i64 0, .int .i64 0, .slice none 0 0, .bool false, .slice none 0 0])) (by unfold kZero; kernel_rfl) ?_)
  rintro b2 w2 zb2 HB2 e2 z2
  have zs_e2 := e2.size
  replace E := E.trans (Ext.keep e2)
  replace HB1 := HB1.ext e2
  replace HS1 := HS1.ext e2
  try simp only [Value.cells] at HB2
  refine l_v (v_assign rfl) ?_
  refine l_nil ?_
  refine n_then ?_
  refine c_seq ?_
  refine wp_reg (by decide +kernel) ?_
  refine l_v (v_move (t := .pointer _) rfl) ?_
  refine l_v (v_move (t := .int _ _) rfl) ?_
  refine l_to (to_f2 (by kernel_rfl) (show _ = (Value.pointer _) from rfl) (show _ = (Value.int _ _) from rfl) (CallsR.mono (At_c HB1 HS1 h0 hx hm) ?_))
  rintro _ w3 ⟨⟨v3, rfl, HG3⟩, e3⟩
  have zs_e3 := e3.size
  replace HG3 := HG3.mono (F' := fun b => w2.heap.size ≤ b ∧ b < w3.heap.size) fun b hb h => ⟨h, hb⟩
  obtain ⟨a9, c9, a10, c10, rfl, _, _, _⟩ := HG3.ms
  replace E := E.trans (Ext.keep e3)
  replace HB1 := HB1.ext e3
  replace HS1 := HS1.ext e3
  replace HB2 := HB2.ext e3
  refine l_v (v_move (t := .tuple _) rfl) ?_
  refine l_v (v_extract (t := .agg _) rfl rfl) ?_
  refine l_v (v_extract (t := .int _ _) rfl rfl) ?_
  refine l_to (to_alloc (z := (.agg #[.int .i64 0, .int .i64 0, .int .i64 0, .int .i64 0, .int .i64 0, .int .i64 0, .int .i64 0, .int .i64 0, .slice none 0 0, .bool false, .slice none 0 0])) (by unfold kZero; kernel_rfl) ?_)
  rintro b4 w4 zb4 HB4 e4 z4
  have zs_e4 := e4.size
  replace E := E.trans (Ext.keep e4)
  replace HB1 := HB1.ext e4
  replace HS1 := HS1.ext e4
  replace HB2 := HB2.ext e4
  replace HG3 := HG3.ext e4
  try simp only [Value.cells] at HB4
  refine l_to (to_storeA (n := 11) rfl rfl (show _ = (Value.agg _) from rfl) (by kernel_rfl) rfl (by first | (simp [slice_one]; done) | (simp only [List.forall_mem_cons, List.cons_append, List.nil_append]; repeat' (first | exact rfl | apply And.intro | (intro u hu; cases hu; done)))) HB4 (by first | exact of_decide_eq_true rfl | (simp; done) | decide) ?_)
  rintro w101 HX101 k101 z101
  have zs_k101 := k101.size
  replace E := E.step k101 (by intro i hi he; have he0 := he; (try dsimp only [NoK] at hi he ⊢); (try simp only [Value.ownBlock, Option.some.injEq] at he); first | exact he.elim | omega | exact he | (first | (rcases hi with hi | hi; (have := hG _ hi.1; omega); omega) | (have := hG _ hi.1; omega) | (have := hi.2; omega)))
  replace HB1 := HB1.keep k101 (by intro h; have he0 := h; (try dsimp only at h); (try simp only [Value.ownBlock, Option.some.injEq] at h); first | omega | (have he := he0; first | (rcases hi with hi | hi; (have := hG _ hi.1; omega); omega) | (have := hG _ hi.1; omega) | (have := hi.2; omega)))
  replace HS1 := HS1.keep k101 (by intro i _ hi he; have he0 := he; (try dsimp only [NoK, AllB] at hi he); (try simp only [Value.ownBlock, Option.some.injEq] at he); first | exact hi.elim | exact he.elim | omega | (rcases hi with hi | hi <;> omega) | (rcases he with he | he <;> omega) | (first | (rcases hi with hi | hi; (have := hG _ hi.1; omega); omega) | (have := hG _ hi.1; omega) | (have := hi.2; omega)))
  replace HB2 := HB2.keep k101 (by intro h; have he0 := h; (try dsimp only at h); (try simp only [Value.ownBlock, Option.some.injEq] at h); first | omega | (have he := he0; first | (rcases hi with hi | hi; (have := hG _ hi.1; omega); omega) | (have := hG _ hi.1; omega) | (have := hi.2; omega)))
  replace HG3 := HG3.keep k101 (by intro i _ hi he; have he0 := he; (try dsimp only [NoK, AllB] at hi he); (try simp only [Value.ownBlock, Option.some.injEq] at he); first | exact hi.elim | exact he.elim | omega | (rcases hi with hi | hi <;> omega) | (rcases he with he | he <;> omega) | (first | (rcases hi with hi | hi; (have := hG _ hi.1; omega); omega) | (have := hG _ hi.1; omega) | (have := hi.2; omega)))
  replace HB4 := HX101
  clear HX101
  try simp only [List.set_cons_zero, List.set_cons_succ, setAt, List.take_zero, List.take_succ_cons, List.drop_zero, List.drop_succ_cons, List.nil_append, List.cons_append, List.append_nil, List.length_cons, List.length_nil, Nat.zero_add, Nat.reduceAdd, List.drop_nil] at HB4
  refine l_v (v_assign (t := .int _ _) rfl) ?_
  refine l_nil ?_
  refine n_then ?_
  refine c_seq ?_
  refine c_seq ?_
  refine wp_reg (by decide +kernel) ?_
  refine l_v (v_move (t := .int _ _) rfl) ?_
  refine l_v (v_eql rfl rfl) ?_
  refine l_nil ?_
  refine n_then ?_
  refine c_cond rfl rfl (fun hc => ?_) (fun hc => ?_)
  · skip
    refine wp_any (by kernel_rfl) ?_
    have e102 : Ext w101 { w101 with drawn := w101.drawn + 1 } := Keep.drawn _ _
    generalize hw102 : ({ w101 with drawn := w101.drawn + 1 } : World) = w102 at e102 ⊢
    clear hw102
    have zs_e102 := e102.size
    replace E := E.trans (Ext.keep e102)
    replace HB1 := HB1.ext e102
    replace HS1 := HS1.ext e102
    replace HB2 := HB2.ext e102
    replace HG3 := HG3.ext e102
    replace HB4 := HB4.ext e102
    refine r_cut 16 rfl (by decide +kernel) (by decide +kernel) (by decide +kernel) ?_
    refine wp_regdW (NoK) (by decide +kernel) (by decide +kernel) ?_
    refine rt_v (fun vals w hR hd => v_move (t := .pointer _) rfl) ?_
    refine rt_v (fun vals w hR hd => v_move (t := .pointer _) rfl) ?_
    refine rt_v (fun vals w hR hd => v_nilCheck (hd 1 rfl)) ?_
    refine rt_v (fun vals w hR hd => v_fieldAddr (off := 1) (ft := 41) (by kernel_rfl) (hd 2 rfl)) ?_
    refine rt_v (fun vals w hR hd => v_load (by kernel_rfl) (hd 3 rfl) (by first | exact (HB4.ext hR).pv 1 _ rfl | exact (HB2.ext hR).pv 1 _ rfl | exact (HB1.ext hR).pv 1 _ rfl | assumption)) ?_
    refine rt_v (fun vals w hR hd => v_move (t := .int _ _) rfl) ?_
    refine rt_v (fun vals w hR hd => v_slice (et := 26) (sz := 11) (l := 0) (h := n.toNat) (by kernel_rfl) (by kernel_rfl) (hd 4 rfl) rfl ⟨.i64, ((hd 5 rfl)).trans (congrArg (Value.int _) (by omega))⟩ (by omega) (by omega)) ?_
    refine rt_v (fun vals w hR hd => v_move (t := .pointer _) rfl) ?_
    refine rt_v (fun vals w hR hd => v_nilCheck (hd 7 rfl)) ?_
    refine rt_v (fun vals w hR hd => v_fieldAddr (off := 1) (ft := 41) (by kernel_rfl) (hd 8 rfl)) ?_
    refine rt_v (fun vals w hR hd => v_load (by kernel_rfl) (hd 9 rfl) (by first | exact (HB4.ext hR).pv 1 _ rfl | exact (HB2.ext hR).pv 1 _ rfl | exact (HB1.ext hR).pv 1 _ rfl | assumption)) ?_
    refine rt_v (fun vals w hR hd => v_move (t := .int _ _) rfl) ?_
    refine rt_v (fun vals w hR hd => v_add (hd 11 rfl) rfl (by first | exact wr_i64 (by omega) (by omega) | rfl)) ?_
    refine rt_v (fun vals w hR hd => v_slice (et := 26) (sz := 11) (l := n.toNat + 1) (h := ms.length) (by kernel_rfl) (by kernel_rfl) (hd 10 rfl) ⟨.i64, ((hd 12 rfl)).trans (congrArg (Value.int _) (by omega))⟩ rfl (by omega) (by omega)) ?_
    refine rt_to (fun v W => SlV (tSl tMs) W (fun i => (G i ∧ i < n0) ∨ b4 + 1 ≤ i) v [(ms.take n.toNat).drop 0, (ms.take ms.length).drop (n.toNat + 1)]) (fun v w w' h k => h.ext k) (fun vals w hR hd => to_slice2c (t := tSl tMs) (et := 41) (bytes := 24) (z := .slice none 0 0) (by kernel_rfl) rfl (by unfold kZeros; kernel_rfl) (hd 6 rfl) (hd 13 rfl) rfl rfl ⟨_, rfl, ((HS1.ext hR).sub (l := 0) (h := n.toNat) (by omega) (by omega)).mono fun _ _ h => .inl h⟩ ⟨_, rfl, ((HS1.ext hR).sub (l := n.toNat + 1) (h := ms.length) (by omega) (by omega)).mono fun _ _ h => .inl h⟩ (fun b w1 hb HO e z => ⟨e, HO.view.mono fun i _ h => Or.elim h (fun h => .inr (by have := hR.size; omega)) (fun h => h.1)⟩)) ?_
    refine rt_to (fun v W => SlV tMs W (fun i => G i ∧ i < n0 ∨ b4 + 1 ≤ i) v (ms.eraseIdx n.toNat)) (fun v w w' h k => h.ext k) (fun vals w hR hd => to_f1 (by kernel_rfl) (show _ = vals 14 from rfl) (CallsR.mono (ConcatM_c (show SlV (tSl tMs) _ (fun i => (G i ∧ i < n0) ∨ b4 + 1 ≤ i) _ [(ms.take n.toNat).drop 0, (ms.take ms.length).drop (n.toNat + 1)] from hd 14 rfl) (by simp) (by simp; omega)) fun v w1 ⟨h, e⟩ => ⟨e, by have h9 : [(ms.take n.toNat).drop 0, (ms.take ms.length).drop (n.toNat + 1)].flatten = ms.eraseIdx n.toNat := (by simp [List.eraseIdx_eq_take_drop_succ]); rw [h9] at h; exact h.mono fun i _ h => Or.elim h (fun h => h) (fun h => .inr (by have := hR.size; omega))⟩)) ?_
    refine rt_nil (fun w103 e103 => ?_)
    rintro _ rfl _ rfl _ rfl _ rfl _ rfl _ rfl _ rfl _ rfl _ rfl _ rfl _ rfl _ rfl _ rfl _ rfl v30 HS30 v53 HS53
    have zs_e103 := e103.size
    have HS30 : SlV (tSl tMs) _ (fun i => (G i ∧ i < n0) ∨ b4 + 1 ≤ i) v30 [(ms.take n.toNat).drop 0, (ms.take ms.length).drop (n.toNat + 1)] := HS30
    have HS53 : SlV tMs _ (fun i => G i ∧ i < n0 ∨ b4 + 1 ≤ i) v53 (ms.eraseIdx n.toNat) := HS53
    obtain ⟨a53, c53, rfl⟩ := HS53.shape
    replace E := E.trans (Ext.keep e103)
    replace HB1 := HB1.ext e103
    replace HB2 := HB2.ext e103
    replace HG3 := HG3.ext e103
    replace HB4 := HB4.ext e103
    refine fin_nil ?_
    refine n_then ?_
    refine r_cut 2 rfl (by decide +kernel) (by decide +kernel) (by decide +kernel) ?_
    refine wp_regdW (NoK) (by decide +kernel) (by decide +kernel) ?_
    refine rt_v (fun vals w hR hd => v_nilCheck rfl) ?_
    refine rt_v (fun vals w hR hd => v_fieldAddr (off := 1) (ft := 41) (by kernel_rfl) (hd 0 rfl)) ?_
    refine rt_nil (fun w104 e104 => ?_)
    rintro _ rfl _ rfl
    have zs_e104 := e104.size
    replace E := E.trans (Ext.keep e104)
    replace HB1 := HB1.ext e104
    replace HB2 := HB2.ext e104
    replace HG3 := HG3.ext e104
    replace HB4 := HB4.ext e104
    replace HS30 := HS30.ext e104
    replace HS53 := HS53.ext e104
    refine fin_nil ?_
    refine n_then ?_
    refine r_one (by decide +kernel) rfl ?_
    refine l_to (to_store rfl rfl (show _ = (Value.slice _ _ _) from rfl) rfl (by kernel_rfl) HB1 (by simp) ?_)
    rintro w31 HB1 k31 z31
    have zs_k31 := k31.size
    try simp only [List.set_cons_zero, List.set_cons_succ] at HB1
    replace E := E.step k31 (by intro i hi he; have he0 := he; (try dsimp only [NoK] at hi he ⊢); (try simp only [Value.ownBlock, Option.some.injEq] at he); first | exact he.elim | omega | exact he | (first | (rcases hi with hi | hi; (have := hG _ hi.1; omega); omega) | (have := hG _ hi.1; omega) | (have := hi.2; omega)))
    replace HB2 := HB2.keep k31 (by intro h; have he0 := h; (try dsimp only at h); (try simp only [Value.ownBlock, Option.some.injEq] at h); first | omega | (have he := he0; first | (rcases hi with hi | hi; (have := hG _ hi.1; omega); omega) | (have := hG _ hi.1; omega) | (have := hi.2; omega)))
    replace HG3 := HG3.keep k31 (by intro i _ hi he; have he0 := he; (try dsimp only [NoK, AllB] at hi he); (try simp only [Value.ownBlock, Option.some.injEq] at he); first | exact hi.elim | exact he.elim | omega | (rcases hi with hi | hi <;> omega) | (rcases he with he | he <;> omega) | (first | (rcases hi with hi | hi; (have := hG _ hi.1; omega); omega) | (have := hG _ hi.1; omega) | (have := hi.2; omega)))
    replace HB4 := HB4.keep k31 (by intro h; have he0 := h; (try dsimp only at h); (try simp only [Value.ownBlock, Option.some.injEq] at h); first | omega | (have he := he0; first | (rcases hi with hi | hi; (have := hG _ hi.1; omega); omega) | (have := hG _ hi.1; omega) | (have := hi.2; omega)))
    replace HS30 := HS30.keep k31 (by intro i _ hi he; have he0 := he; (try dsimp only [NoK, AllB] at hi he); (try simp only [Value.ownBlock, Option.some.injEq] at he); first | exact hi.elim | exact he.elim | omega | (rcases hi with hi | hi <;> omega) | (rcases he with he | he <;> omega) | (first | (rcases hi with hi | hi; (have := hG _ hi.1; omega); omega) | (have := hG _ hi.1; omega) | (have := hi.2; omega)))
    replace HS53 := HS53.keep k31 (by intro i _ hi he; have he0 := he; (try dsimp only [NoK, AllB] at hi he); (try simp only [Value.ownBlock, Option.some.injEq] at he); first | exact hi.elim | exact he.elim | omega | (rcases hi with hi | hi <;> omega) | (rcases he with he | he <;> omega) | (first | (rcases hi with hi | hi; (have := hG _ hi.1; omega); omega) | (have := hG _ hi.1; omega) | (have := hi.2; omega)))
    refine l_nil ?_
    refine n_then ?_
    refine c_seq ?_
    refine wp_reg (by decide +kernel) ?_
    refine l_v (v_loadA (by kernel_rfl) rfl (by first | exact HB1.pv | exact HB4.pv | exact HB2.pv | assumption) rfl) ?_
    refine l_v (v_move (t := .int _ _) rfl) ?_
    refine l_to (to_storeA (n := 11) rfl rfl (show _ = (Value.agg _) from rfl) (by kernel_rfl) rfl (by first | (simp [slice_one]; done) | (simp only [List.forall_mem_cons, List.cons_append, List.nil_append]; repeat' (first | exact rfl | apply And.intro | (intro u hu; cases hu; done)))) HB2 (by first | exact of_decide_eq_true rfl | (simp; done) | decide) ?_)
    rintro w105 HX105 k105 z105
    have zs_k105 := k105.size
    replace E := E.step k105 (by intro i hi he; have he0 := he; (try dsimp only [NoK] at hi he ⊢); (try simp only [Value.ownBlock, Option.some.injEq] at he); first | exact he.elim | omega | exact he | (first | (rcases hi with hi | hi; (have := hG _ hi.1; omega); omega) | (have := hG _ hi.1; omega) | (have := hi.2; omega)))
    replace HG3 := HG3.keep k105 (by intro i _ hi he; have he0 := he; (try dsimp only [NoK, AllB] at hi he); (try simp only [Value.ownBlock, Option.some.injEq] at he); first | exact hi.elim | exact he.elim | omega | (rcases hi with hi | hi <;> omega) | (rcases he with he | he <;> omega) | (first | (rcases hi with hi | hi; (have := hG _ hi.1; omega); omega) | (have := hG _ hi.1; omega) | (have := hi.2; omega)))
    replace HB4 := HB4.keep k105 (by intro h; have he0 := h; (try dsimp only at h); (try simp only [Value.ownBlock, Option.some.injEq] at h); first | omega | (have he := he0; first | (rcases hi with hi | hi; (have := hG _ hi.1; omega); omega) | (have := hG _ hi.1; omega) | (have := hi.2; omega)))
    replace HS30 := HS30.keep k105 (by intro i _ hi he; have he0 := he; (try dsimp only [NoK, AllB] at hi he); (try simp only [Value.ownBlock, Option.some.injEq] at he); first | exact hi.elim | exact he.elim | omega | (rcases hi with hi | hi <;> omega) | (rcases he with he | he <;> omega) | (first | (rcases hi with hi | hi; (have := hG _ hi.1; omega); omega) | (have := hG _ hi.1; omega) | (have := hi.2; omega)))
    replace HS53 := HS53.keep k105 (by intro i _ hi he; have he0 := he; (try dsimp only [NoK, AllB] at hi he); (try simp only [Value.ownBlock, Option.some.injEq] at he); first | exact hi.elim | exact he.elim | omega | (rcases hi with hi | hi <;> omega) | (rcases he with he | he <;> omega) | (first | (rcases hi with hi | hi; (have := hG _ hi.1; omega); omega) | (have := hG _ hi.1; omega) | (have := hi.2; omega)))
    replace HB1 := HB1.keep k105 (by intro h; have he0 := h; (try dsimp only at h); (try simp only [Value.ownBlock, Option.some.injEq] at h); first | omega | (have he := he0; first | (rcases hi with hi | hi; (have := hG _ hi.1; omega); omega) | (have := hG _ hi.1; omega) | (have := hi.2; omega)))
    replace HB2 := HX105
    clear HX105
    try simp only [List.set_cons_zero, List.set_cons_succ, setAt, List.take_zero, List.take_succ_cons, List.drop_zero, List.drop_succ_cons, List.nil_append, List.cons_append, List.append_nil, List.length_cons, List.length_nil, Nat.zero_add, Nat.reduceAdd, List.drop_nil] at HB2
    refine l_v (v_assign (t := .int _ _) rfl) ?_
    refine l_nil ?_
    refine n_then ?_
    refine c_ret ?_
    refine ret2cv (n := 11) rfl (by decide) (by decide) rfl (by kernel_rfl) HB2.pv rfl (show _ = (Value.int _ _) from rfl) ?_
    exact ⟨⟨_, rfl, HG3.mono fun b _ h => by omega⟩, ⟨_, _, HB1, HS53.mono fun i _ h => Or.elim h (fun h => .inl h.1) (fun h => .inr (by omega))⟩, E⟩
  · skip
    cases hc
end Go.Proofs.Ytaidpdjlchnonaa

namespace Go.Proofs.Ytaidpdjlchnonaa
open Go.Vc
set_option linter.unusedVariables false
set_option linter.unusedSimpArgs false
set_option maxRecDepth 100000

theorem Drop_no {w : World} {b c : Nat} {a : Option Addr} {k : Nat} {y : Value} {n : Int} (HB1 : Blk w b [.bool true, .slice a k c, y] 68) (hn : n < 0 ∨ (k : Int) ≤ n) : CallsR Try.prog 23 #[.pointer (some ⟨b, 0, none⟩), .int .i64 n] w (fun o w' => o = .int .i64 2 ∧ Ext w w') := by
  have zl1 := HB1.lt
  refine enter 23 Try.func23 rfl rfl (by simp) ?_
  refine c_seq ?_
  have E := Keep.refl (K := NoK) w
  refine wp_reg (by decide +kernel) ?_
  refine l_v (v_assign rfl) ?_
  refine l_nil ?_
  refine n_then ?_
  refine c_seq ?_
  refine wp_reg (by decide +kernel) ?_
  refine l_v (v_move (t := .pointer _) rfl) ?_
  refine l_v (v_move (t := .int _ _) rfl) ?_
  refine l_to (to_f2 (by kernel_rfl) (show _ = (Value.pointer _) from rfl) (show _ = (Value.int _ _) from rfl) (CallsR.mono (Take_no HB1 hn) ?_))
  rintro _ w3 ⟨rfl, e3⟩
  have zs_e3 := e3.size
  replace E := E.trans (Ext.keep e3)
  replace HB1 := HB1.ext e3
  refine l_v (v_move (t := .tuple _) rfl) ?_
  refine l_v (v_extract (t := .agg _) rfl rfl) ?_
  refine l_v (v_extract (t := .int _ _) rfl rfl) ?_
  refine l_to (to_alloc (z := (.agg #[.int .i64 0, .int .i64 0, .int .i64 0, .int .i64 0, .int .i64 0, .int .i64 0, .int .i64 0, .int .i64 0, .slice none 0 0, .bool false, .slice none 0 0])) (by unfold kZero; kernel_rfl) ?_)
  rintro b4 w4 zb4 HB4 e4 z4
  have zs_e4 := e4.size
  replace E := E.trans (Ext.keep e4)
  replace HB1 := HB1.ext e4
  try simp only [Value.cells] at HB4
  refine l_to (to_storeA (n := 11) rfl rfl (show _ = (Value.agg _) from rfl) (by kernel_rfl) rfl (by first | (simp [slice_one]; done) | (simp only [List.forall_mem_cons, List.cons_append, List.nil_append]; repeat' (first | exact rfl | apply And.intro | (intro u hu; cases hu; done)))) HB4 (by first | exact of_decide_eq_true rfl | (simp; done) | decide) ?_)
  rintro w101 HX101 k101 z101
  have zs_k101 := k101.size
  replace E := E.step k101 (by intro i hi he; (try dsimp only [NoK] at hi he ⊢); first | exact he.elim | omega | exact he)
  replace HB1 := HB1.keep k101 (by intro h; (try dsimp only at h); first | omega)
  replace HB4 := HX101
  clear HX101
  try simp only [List.set_cons_zero, List.set_cons_succ, setAt, List.take_zero, List.take_succ_cons, List.drop_zero, List.drop_succ_cons, List.nil_append, List.cons_append, List.append_nil, List.length_cons, List.length_nil, Nat.zero_add, Nat.reduceAdd, List.drop_nil] at HB4
  refine l_v (v_assign (t := .int _ _) rfl) ?_
  refine l_nil ?_
  refine n_then ?_
  refine c_seq ?_
  refine c_seq ?_
  refine wp_reg (by decide +kernel) ?_
  refine l_v (v_move (t := .int _ _) rfl) ?_
  refine l_v (v_eql rfl rfl) ?_
  refine l_nil ?_
  refine n_then ?_
  refine c_cond rfl rfl (fun hc => ?_) (fun hc => ?_)
  · skip
    cases hc
  · skip
    refine c_skip ?_
    refine n_then ?_
    refine c_seq ?_
    refine wp_reg (by decide +kernel) ?_
    refine l_v (v_move (t := .int _ _) rfl) ?_
    refine l_v (v_assign (t := .int _ _) rfl) ?_
    refine l_nil ?_
    refine n_then ?_
    refine c_ret ?_
    refine ret1v rfl (by decide) (show _ = (Value.int _ _) from rfl) ?_
    exact ⟨rfl, E⟩
theorem Drop_c {w : World} {G : Nat → Prop} {b c : Nat} {a : Option Addr} {ms : List Ms} {lost : Int} {n : Int} {m : Ms} (HB1 : Blk w b [.bool true, .slice a ms.length c, .int .i64 lost] 68) (HS1 : SlV tMs w G (.slice a ms.length c) ms) (hG : ∀ i, G i → i ≠ b) (hml : ms.length ≤ 256) (h0 : 0 ≤ n) (hx : ms[n.toNat]? = some m) (hm : mayN m = true) (hlo : 0 ≤ lost ∧ lost ≤ 4611686018427387904) : CallsR Try.prog 23 #[.pointer (some ⟨b, 0, none⟩), .int .i64 n] w (fun o w' => o = .int .i64 0 ∧
      (∃ a2 c2, Blk w' b [.bool true, .slice a2 (ms.eraseIdx n.toNat).length c2, .int .i64 (lost + 1)] 68 ∧ SlV tMs w' (fun i => G i ∨ w.heap.size ≤ i) (.slice a2 (ms.eraseIdx n.toNat).length c2) (ms.eraseIdx n.toNat)) ∧ Keep (fun i => i = b) w w') := by
  have zl1 := HB1.lt
  refine enter 23 Try.func23 rfl rfl (by simp) ?_
  refine c_seq ?_
  have E := Keep.refl (K := fun i => i = b) w
  refine wp_reg (by decide +kernel) ?_
  refine l_v (v_assign rfl) ?_
  refine l_nil ?_
  refine n_then ?_
  refine c_seq ?_
  refine wp_reg (by decide +kernel) ?_
  refine l_v (v_move (t := .pointer _) rfl) ?_
  refine l_v (v_move (t := .int _ _) rfl) ?_
  refine l_to (to_f2 (by kernel_rfl) (show _ = (Value.pointer _) from rfl) (show _ = (Value.int _ _) from rfl) (CallsR.mono (Take_c HB1 HS1 hG hml h0 hx hm) ?_))
  rintro _ w3 ⟨⟨v3, rfl, HG3⟩, ⟨a2, c2, HB1, HS2⟩, k3⟩
  have zs_k3 := k3.size
  replace HS2 := HS2.mono (F' := fun i => (G i ∨ w.heap.size ≤ i) ∧ i < w3.heap.size) fun b hb h => ⟨h, hb⟩
  obtain ⟨a9, c9, a10, c10, rfl, _, _, _⟩ := HG3.ms
  replace E := E.step k3 (by intro i hi he; have he0 := he; (try dsimp only [NoK] at hi he ⊢); (try simp only [Value.ownBlock, Option.some.injEq] at he); first | exact he.elim | omega | exact he | (first | (rcases hi with hi | hi; (have := hG _ hi; omega); omega) | (have := hi.1; rcases this with h1 | h1; (have := hG _ h1; omega); omega)))
  refine l_v (v_move (t := .tuple _) rfl) ?_
  refine l_v (v_extract (t := .agg _) rfl rfl) ?_
  refine l_v (v_extract (t := .int _ _) rfl rfl) ?_
  refine l_to (to_alloc (z := (.agg #[.int .i64 0, .int .i64 0, .int .i64 0, .int .i64 0, .int .i64 0, .int .i64 0, .int .i64 0, .int .i64 0, .slice none 0 0, .bool false, .slice none 0 0])) (by unfold kZero; kernel_rfl) ?_)
  rintro b4 w4 zb4 HB4 e4 z4
  have zs_e4 := e4.size
  replace E := E.trans (Ext.keep e4)
  replace HB1 := HB1.ext e4
  replace HS2 := HS2.ext e4
  try simp only [Value.cells] at HB4
  refine l_to (to_storeA (n := 11) rfl rfl (show _ = (Value.agg _) from rfl) (by kernel_rfl) rfl (by first | (simp [slice_one]; done) | (simp only [List.forall_mem_cons, List.cons_append, List.nil_append]; repeat' (first | exact rfl | apply And.intro | (intro u hu; cases hu; done)))) HB4 (by first | exact of_decide_eq_true rfl | (simp; done) | decide) ?_)
  rintro w101 HX101 k101 z101
  have zs_k101 := k101.size
  replace E := E.step k101 (by intro i hi he; have he0 := he; (try dsimp only [NoK] at hi he ⊢); (try simp only [Value.ownBlock, Option.some.injEq] at he); first | exact he.elim | omega | exact he | (first | (rcases hi with hi | hi; (have := hG _ hi; omega); omega) | (have := hi.1; rcases this with h1 | h1; (have := hG _ h1; omega); omega)))
  replace HB1 := HB1.keep k101 (by intro h; have he0 := h; (try dsimp only at h); (try simp only [Value.ownBlock, Option.some.injEq] at h); first | omega | (have he := he0; first | (rcases hi with hi | hi; (have := hG _ hi; omega); omega) | (have := hi.1; rcases this with h1 | h1; (have := hG _ h1; omega); omega)))
  replace HS2 := HS2.keep k101 (by intro i _ hi he; have he0 := he; (try dsimp only [NoK, AllB] at hi he); (try simp only [Value.ownBlock, Option.some.injEq] at he); first | exact hi.elim | exact he.elim | omega | (rcases hi with hi | hi <;> omega) | (rcases he with he | he <;> omega) | (first | (rcases hi with hi | hi; (have := hG _ hi; omega); omega) | (have := hi.1; rcases this with h1 | h1; (have := hG _ h1; omega); omega)))
  replace HB4 := HX101
  clear HX101
  try simp only [List.set_cons_zero, List.set_cons_succ, setAt, List.take_zero, List.take_succ_cons, List.drop_zero, List.drop_succ_cons, List.nil_append, List.cons_append, List.append_nil, List.length_cons, List.length_nil, Nat.zero_add, Nat.reduceAdd, List.drop_nil] at HB4
  refine l_v (v_assign (t := .int _ _) rfl) ?_
  refine l_nil ?_
  refine n_then ?_
  refine c_seq ?_
  refine c_seq ?_
  refine wp_reg (by decide +kernel) ?_
  refine l_v (v_move (t := .int _ _) rfl) ?_
  refine l_v (v_eql rfl rfl) ?_
  refine l_nil ?_
  refine n_then ?_
  refine c_cond rfl rfl (fun hc => ?_) (fun hc => ?_)
  · skip
    refine wp_reg (by decide +kernel) ?_
    refine l_v (v_move (t := .pointer _) rfl) ?_
    refine l_v (v_nilCheck rfl) ?_
    refine l_v (v_fieldAddr (off := 2) (ft := 3) (by kernel_rfl) rfl) ?_
    refine l_v (v_load (by kernel_rfl) rfl (by first | exact HB4.pv 2 _ rfl | exact HB1.pv 2 _ rfl | assumption)) ?_
    refine l_v (v_add rfl rfl (by first | exact wr_i64 (by omega) (by omega) | rfl)) ?_
    refine l_v (v_nilCheck rfl) ?_
    refine l_v (v_fieldAddr (off := 2) (ft := 3) (by kernel_rfl) rfl) ?_
    refine l_to (to_store rfl rfl (show _ = (Value.int _ _) from rfl) rfl (by kernel_rfl) HB1 (by simp) ?_)
    rintro w31 HB1 k31 z31
    have zs_k31 := k31.size
    try simp only [List.set_cons_zero, List.set_cons_succ] at HB1
    replace E := E.step k31 (by intro i hi he; have he0 := he; (try dsimp only [NoK] at hi he ⊢); (try simp only [Value.ownBlock, Option.some.injEq] at he); first | exact he.elim | omega | exact he | (first | (rcases hi with hi | hi; (have := hG _ hi; omega); omega) | (have := hi.1; rcases this with h1 | h1; (have := hG _ h1; omega); omega)))
    replace HS2 := HS2.keep k31 (by intro i _ hi he; have he0 := he; (try dsimp only [NoK, AllB] at hi he); (try simp only [Value.ownBlock, Option.some.injEq] at he); first | exact hi.elim | exact he.elim | omega | (rcases hi with hi | hi <;> omega) | (rcases he with he | he <;> omega) | (first | (rcases hi with hi | hi; (have := hG _ hi; omega); omega) | (have := hi.1; rcases this with h1 | h1; (have := hG _ h1; omega); omega)))
    replace HB4 := HB4.keep k31 (by intro h; have he0 := h; (try dsimp only at h); (try simp only [Value.ownBlock, Option.some.injEq] at h); first | omega | (have he := he0; first | (rcases hi with hi | hi; (have := hG _ hi; omega); omega) | (have := hi.1; rcases this with h1 | h1; (have := hG _ h1; omega); omega)))
    refine l_nil ?_
    refine n_then ?_
    refine c_seq ?_
    refine wp_reg (by decide +kernel) ?_
    refine l_v (v_move (t := .int _ _) rfl) ?_
    refine l_v (v_assign (t := .int _ _) rfl) ?_
    refine l_nil ?_
    refine n_then ?_
    refine c_ret ?_
    refine ret1v rfl (by decide) (show _ = (Value.int _ _) from rfl) ?_
    exact ⟨rfl, ⟨_, _, HB1, HS2.mono fun i _ h => h.1⟩, E⟩
  · skip
    cases hc
theorem Double_no {w : World} {b c : Nat} {a : Option Addr} {k : Nat} {y : Value} {n : Int} (HB1 : Blk w b [.bool true, .slice a k c, y] 68) (hn : n < 0 ∨ (k : Int) ≤ n) : CallsR Try.prog 24 #[.pointer (some ⟨b, 0, none⟩), .int .i64 n] w (fun o w' => o = .int .i64 2 ∧ Ext w w') := by
  have zl1 := HB1.lt
  refine enter 20 Try.func24 rfl rfl (by simp) ?_
  refine c_seq ?_
  have E := Keep.refl (K := NoK) w
  refine wp_reg (by decide +kernel) ?_
  refine l_v (v_assign rfl) ?_
  refine l_nil ?_
  refine n_then ?_
  refine c_seq ?_
  refine wp_reg (by decide +kernel) ?_
  refine l_v (v_move (t := .pointer _) rfl) ?_
  refine l_v (v_move (t := .int _ _) rfl) ?_
  refine l_to (to_f2 (by kernel_rfl) (show _ = (Value.pointer _) from rfl) (show _ = (Value.int _ _) from rfl) (CallsR.mono (At_no HB1 hn) ?_))
  rintro _ w3 ⟨rfl, e3⟩
  have zs_e3 := e3.size
  replace E := E.trans (Ext.keep e3)
  replace HB1 := HB1.ext e3
  refine l_v (v_move (t := .tuple _) rfl) ?_
  refine l_v (v_extract (t := .agg _) rfl rfl) ?_
  refine l_v (v_extract (t := .int _ _) rfl rfl) ?_
  refine l_to (to_alloc (z := (.agg #[.int .i64 0, .int .i64 0, .int .i64 0, .int .i64 0, .int .i64 0, .int .i64 0, .int .i64 0, .int .i64 0, .slice none 0 0, .bool false, .slice none 0 0])) (by unfold kZero; kernel_rfl) ?_)
  rintro b4 w4 zb4 HB4 e4 z4
  have zs_e4 := e4.size
  replace E := E.trans (Ext.keep e4)
  replace HB1 := HB1.ext e4
  try simp only [Value.cells] at HB4
  refine l_to (to_storeA (n := 11) rfl rfl (show _ = (Value.agg _) from rfl) (by kernel_rfl) rfl (by first | (simp [slice_one]; done) | (simp only [List.forall_mem_cons, List.cons_append, List.nil_append]; repeat' (first | exact rfl | apply And.intro | (intro u hu; cases hu; done)))) HB4 (by first | exact of_decide_eq_true rfl | (simp; done) | decide) ?_)
  rintro w101 HX101 k101 z101
  have zs_k101 := k101.size
  replace E := E.step k101 (by intro i hi he; (try dsimp only [NoK] at hi he ⊢); first | exact he.elim | omega | exact he)
  replace HB1 := HB1.keep k101 (by intro h; (try dsimp only at h); first | omega)
  replace HB4 := HX101
  clear HX101
  try simp only [List.set_cons_zero, List.set_cons_succ, setAt, List.take_zero, List.take_succ_cons, List.drop_zero, List.drop_succ_cons, List.nil_append, List.cons_append, List.append_nil, List.length_cons, List.length_nil, Nat.zero_add, Nat.reduceAdd, List.drop_nil] at HB4
  refine l_v (v_assign (t := .int _ _) rfl) ?_
  refine l_nil ?_
  refine n_then ?_
  refine c_seq ?_
  refine c_seq ?_
  refine wp_reg (by decide +kernel) ?_
  refine l_v (v_move (t := .int _ _) rfl) ?_
  refine l_v (v_eql rfl rfl) ?_
  refine l_nil ?_
  refine n_then ?_
  refine c_cond rfl rfl (fun hc => ?_) (fun hc => ?_)
  · skip
    cases hc
  · skip
    refine c_skip ?_
    refine n_then ?_
    refine c_seq ?_
    refine wp_reg (by decide +kernel) ?_
    refine l_v (v_move (t := .int _ _) rfl) ?_
    refine l_v (v_assign (t := .int _ _) rfl) ?_
    refine l_nil ?_
    refine n_then ?_
    refine c_ret ?_
    refine ret1v rfl (by decide) (show _ = (Value.int _ _) from rfl) ?_
    exact ⟨rfl, E⟩
theorem Double_c {w : World} {G : Nat → Prop} {b c : Nat} {a : Option Addr} {ms : List Ms} {lost : Int} {n : Int} {m : Ms} (HB1 : Blk w b [.bool true, .slice a ms.length c, .int .i64 lost] 68) (HS1 : SlV tMs w G (.slice a ms.length c) ms) (hG : ∀ i, G i → i ≠ b) (hml : ms.length ≤ 256) (h0 : 0 ≤ n) (hx : ms[n.toNat]? = some m) (hm : mayN m = true) (hlo : 0 ≤ lost ∧ lost ≤ 4611686018427387904) : CallsR Try.prog 24 #[.pointer (some ⟨b, 0, none⟩), .int .i64 n] w (fun o w' => o = .int .i64 0 ∧
      (∃ a2 c2, Blk w' b [.bool true, .slice a2 (sendL ms [m]).length c2, .int .i64 (lost + (sendN ms [m] : Nat))] 68 ∧ SlV tMs w' (fun i => G i ∨ w.heap.size ≤ i) (.slice a2 (sendL ms [m]).length c2) (sendL ms [m])) ∧ Keep (fun i => i = b) w w') := by
  have zl1 := HB1.lt
  replace HS1 := HS1.mono (F' := fun i => G i ∧ i < w.heap.size) fun b hb h => ⟨h, hb⟩
  refine enter 20 Try.func24 rfl rfl (by simp) ?_
  refine c_seq ?_
  have E := Keep.refl (K := fun i => i = b) w
  refine wp_reg (by decide +kernel) ?_
  refine l_v (v_assign rfl) ?_
  refine l_nil ?_
  refine n_then ?_
  refine c_seq ?_
  refine wp_reg (by decide +kernel) ?_
  refine l_v (v_move (t := .pointer _) rfl) ?_
  refine l_v (v_move (t := .int _ _) rfl) ?_
  refine l_to (to_f2 (by kernel_rfl) (show _ = (Value.pointer _) from rfl) (show _ = (Value.int _ _) from rfl) (CallsR.mono (At_c HB1 HS1 h0 hx hm) ?_))
  rintro _ w3 ⟨⟨v3, rfl, HG3⟩, e3⟩
  have zs_e3 := e3.size
  replace HG3 := HG3.mono (F' := fun b => w.heap.size ≤ b ∧ b < w3.heap.size) fun b hb h => ⟨h, hb⟩
  obtain ⟨a9, c9, a10, c10, rfl, HS3, HS4, hw3⟩ := HG3.ms
  replace E := E.trans (Ext.keep e3)
  replace HB1 := HB1.ext e3
  replace HS1 := HS1.ext e3
  refine l_v (v_move (t := .tuple _) rfl) ?_
  refine l_v (v_extract (t := .agg _) rfl rfl) ?_
  refine l_v (v_extract (t := .int _ _) rfl rfl) ?_
  refine l_to (to_alloc (z := (.agg #[.int .i64 0, .int .i64 0, .int .i64 0, .int .i64 0, .int .i64 0, .int .i64 0, .int .i64 0, .int .i64 0, .slice none 0 0, .bool false, .slice none 0 0])) (by unfold kZero; kernel_rfl) ?_)
  rintro b4 w4 zb4 HB4 e4 z4
  have zs_e4 := e4.size
  replace E := E.trans (Ext.keep e4)
  replace HB1 := HB1.ext e4
  replace HS1 := HS1.ext e4
  replace HS3 := HS3.ext e4
  replace HS4 := HS4.ext e4
  try simp only [Value.cells] at HB4
  refine l_to (to_storeA (n := 11) rfl rfl (show _ = (Value.agg _) from rfl) (by kernel_rfl) rfl (by first | (simp [slice_one]; done) | (simp only [List.forall_mem_cons, List.cons_append, List.nil_append]; repeat' (first | exact rfl | apply And.intro | (intro u hu; cases hu; done)))) HB4 (by first | exact of_decide_eq_true rfl | (simp; done) | decide) ?_)
  rintro w101 HX101 k101 z101
  have zs_k101 := k101.size
  replace E := E.step k101 (by intro i hi he; have he0 := he; (try dsimp only [NoK] at hi he ⊢); (try simp only [Value.ownBlock, Option.some.injEq] at he); first | exact he.elim | omega | exact he | (first | (rcases hi with hi | hi; (have := hG _ hi; omega); omega) | (have := hG _ hi.1; omega) | (have := hi.2; omega)))
  replace HB1 := HB1.keep k101 (by intro h; have he0 := h; (try dsimp only at h); (try simp only [Value.ownBlock, Option.some.injEq] at h); first | omega | (have he := he0; first | (rcases hi with hi | hi; (have := hG _ hi; omega); omega) | (have := hG _ hi.1; omega) | (have := hi.2; omega)))
  replace HS1 := HS1.keep k101 (by intro i _ hi he; have he0 := he; (try dsimp only [NoK, AllB] at hi he); (try simp only [Value.ownBlock, Option.some.injEq] at he); first | exact hi.elim | exact he.elim | omega | (rcases hi with hi | hi <;> omega) | (rcases he with he | he <;> omega) | (first | (rcases hi with hi | hi; (have := hG _ hi; omega); omega) | (have := hG _ hi.1; omega) | (have := hi.2; omega)))
  replace HS3 := HS3.keep k101 (by intro i _ hi he; have he0 := he; (try dsimp only [NoK, AllB] at hi he); (try simp only [Value.ownBlock, Option.some.injEq] at he); first | exact hi.elim | exact he.elim | omega | (rcases hi with hi | hi <;> omega) | (rcases he with he | he <;> omega) | (first | (rcases hi with hi | hi; (have := hG _ hi; omega); omega) | (have := hG _ hi.1; omega) | (have := hi.2; omega)))
  replace HS4 := HS4.keep k101 (by intro i _ hi he; have he0 := he; (try dsimp only [NoK, AllB] at hi he); (try simp only [Value.ownBlock, Option.some.injEq] at he); first | exact hi.elim | exact he.elim | omega | (rcases hi with hi | hi <;> omega) | (rcases he with he | he <;> omega) | (first | (rcases hi with hi | hi; (have := hG _ hi; omega); omega) | (have := hG _ hi.1; omega) | (have := hi.2; omega)))
  replace HB4 := HX101
  clear HX101
  try simp only [List.set_cons_zero, List.set_cons_succ, setAt, List.take_zero, List.take_succ_cons, List.drop_zero, List.drop_succ_cons, List.nil_append, List.cons_append, List.append_nil, List.length_cons, List.length_nil, Nat.zero_add, Nat.reduceAdd, List.drop_nil] at HB4
  refine l_v (v_assign (t := .int _ _) rfl) ?_
  refine l_nil ?_
  refine n_then ?_
  refine c_seq ?_
  refine c_seq ?_
  refine wp_reg (by decide +kernel) ?_
  refine l_v (v_move (t := .int _ _) rfl) ?_
  refine l_v (v_eql rfl rfl) ?_
  refine l_nil ?_
  refine n_then ?_
  refine c_cond rfl rfl (fun hc => ?_) (fun hc => ?_)
  · skip
    refine wp_reg (by decide +kernel) ?_
    refine l_v (v_move (t := .pointer _) rfl) ?_
    refine l_v (v_loadA (by kernel_rfl) rfl (by first | exact HB4.pv | exact HB1.pv | assumption) rfl) ?_
    refine l_to (to_slice1 (t := tMs) (et := 26) (bytes := 120) (by kernel_rfl) (by decide) (show _ = (Value.agg _) from rfl) (tMs_mk HS3 HS4 hw3) ?_)
    rintro b9 w10 zb9 HO9 e10 z9
    have zs_e10 := e10.size
    replace E := E.trans (Ext.keep e10)
    replace HB1 := HB1.ext e10
    replace HS1 := HS1.ext e10
    replace HS3 := HS3.ext e10
    replace HS4 := HS4.ext e10
    replace HB4 := HB4.ext e10
    have zo_HO9 := fun (b : Nat) h => HO9.own_lt (b := b) h
    refine l_to (to_f2 (by kernel_rfl) (show _ = (Value.pointer _) from rfl) (show _ = (Value.slice _ _ _) from rfl) (CallsR.mono (Send_c HB1 HS1 HO9.view (fun i h => hG i h.1) hml (by simp) (by simpa using hm) hlo) ?_))
    rintro _ w12 ⟨rfl, ⟨a2, c2, HB1, HS2⟩, k12⟩
    have zs_k12 := k12.size
    replace E := E.step k12 (by intro i hi he; have he0 := he; (try dsimp only [NoK] at hi he ⊢); (try simp only [Value.ownBlock, Option.some.injEq] at he); first | exact he.elim | omega | exact he | (first | (rcases hi with hi | hi; (have := hG _ hi; omega); omega) | (have := hG _ hi.1; omega) | (have := hi.2; omega)))
    replace HS1 := HS1.keep k12 (by intro i _ hi he; have he0 := he; (try dsimp only [NoK, AllB] at hi he); (try simp only [Value.ownBlock, Option.some.injEq] at he); first | exact hi.elim | exact he.elim | omega | (rcases hi with hi | hi <;> omega) | (rcases he with he | he <;> omega) | (first | (rcases hi with hi | hi; (have := hG _ hi; omega); omega) | (have := hG _ hi.1; omega) | (have := hi.2; omega)))
    replace HB4 := HB4.keep k12 (by intro h; have he0 := h; (try dsimp only at h); (try simp only [Value.ownBlock, Option.some.injEq] at h); first | omega | (have he := he0; first | (rcases hi with hi | hi; (have := hG _ hi; omega); omega) | (have := hG _ hi.1; omega) | (have := hi.2; omega)))
    replace HO9 := HO9.keep k12 (by intro i ho he; have he0 := he; have ho0 := ho; (try dsimp only [NoK] at he); (try simp only [Value.ownBlock, Option.some.injEq, reduceCtorEq] at ho); (try simp only [Value.ownBlock, Option.some.injEq, reduceCtorEq] at he); first | exact he.elim | exact ho.elim | omega | (have := zo_HO9 _ ho0; omega)) (by intro i _ hi _ he; have he0 := he; have hi := hi; have he := he; (try dsimp only [NoK, AllB] at hi he); (try simp only [Value.ownBlock, Option.some.injEq, reduceCtorEq] at he); all_goals first | exact hi.elim | exact hi.1.elim | exact he.elim | omega | (rcases hi with hi | hi <;> omega) | (rcases he with he | he <;> omega) | (first | (rcases hi with hi | hi; (have := hG _ hi; omega); omega) | (have := hG _ hi.1; omega) | (have := hi.2; omega)))
    refine l_nil ?_
    refine n_then ?_
    refine c_seq ?_
    refine wp_reg (by decide +kernel) ?_
    refine l_v (v_move (t := .int _ _) rfl) ?_
    refine l_v (v_assign (t := .int _ _) rfl) ?_
    refine l_nil ?_
    refine n_then ?_
    refine c_ret ?_
    refine ret1v rfl (by decide) (show _ = (Value.int _ _) from rfl) ?_
    exact ⟨rfl, ⟨_, _, HB1, HS2.mono fun i _ h => Or.elim h (fun h => .inl h.1) (fun h => .inr (by omega))⟩, E⟩
  · skip
    cases hc
end Go.Proofs.Ytaidpdjlchnonaa
