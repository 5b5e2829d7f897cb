/- A part of the proof: steps and lemmas for the walks through the given program. -/
import Derived.Test.YtkaangdfpjkjpaaR7
namespace Go.Proofs.Ytkaangdfpjkjpaa
open Go.Vc
set_option linter.unusedVariables false
set_option linter.unusedSimpArgs false
set_option maxRecDepth 100000

theorem next_c {w : World} {F : Nat → Prop} {u v : Value} {e : Int} {rs : List RgV} (HS1 : SlV tRg w F v rs) (he : 0 ≤ e ∧ e ≤ 2147483647) (hn : rs.length ≤ 1000) (hl : ∀ r ∈ rs, r.1.length ≤ 100 ∧ r.2.1.length ≤ 100) :
    CallsR Try.prog 58 #[.agg #[.int .i64 e, u], v] w (fun o w' => (∃ x, o = .tuple #[x, .int .i64 (nextM e rs).2] ∧ AgV tMp w' (fun b => w.heap.size ≤ b) x (nextM e rs).1) ∧ Ext w w') := by
  obtain ⟨a1, c1, rfl⟩ := HS1.shape
  refine enter 37 Try.func58 rfl rfl (by simp) ?_
  refine c_seq ?_
  have E := Keep.refl (K := NoK) w
  replace HS1 := HS1.all
  refine wp_reg (by decide +kernel) ?_
  refine l_to (to_box (show _ = (Value.agg _) from rfl) ?_)
  rintro b2 w2 zb2 HB2 e2 z2
  have zs_e2 := e2.size
  replace E := E.trans (Ext.keep e2)
  replace HS1 := HS1.ext e2
  try simp only [Value.cells] at HB2
  refine l_to (to_alloc (z := (.agg #[.int .i64 0, .slice none 0 0])) (by unfold kZero; kernel_rfl) ?_)
  rintro b4 w4 zb4 HB4 e4 z4
  have zs_e4 := e4.size
  replace E := E.trans (Ext.keep e4)
  replace HS1 := HS1.ext e4
  replace HB2 := HB2.ext e4
  try simp only [Value.cells] at HB4
  refine l_v (v_assign rfl) ?_
  refine l_nil ?_
  refine n_then ?_
  refine c_seq ?_
  refine c_seq ?_
  refine wp_reg (by decide +kernel) ?_
  refine l_v (v_fieldAddr (off := 0) (ft := 2) (by kernel_rfl) rfl) ?_
  refine l_v (v_load (by kernel_rfl) rfl (by first | exact HB4.pv 0 _ rfl | exact HB2.pv 0 _ rfl | assumption)) ?_
  refine l_v (v_eql rfl rfl) ?_
  refine l_v (v_move (t := .bool _) rfl) ?_
  refine l_g1 rfl rfl (fun hG => v_move (t := .slice _ _ _) rfl) ?_
  refine l_g1 rfl rfl (fun hG => v_len (et := 37) (by kernel_rfl) (gd hG rfl)) ?_
  refine l_g1 rfl rfl (fun hG => v_gtr (gd hG rfl) rfl) ?_
  refine l_v (v_or rfl rfl) ?_
  refine l_nil ?_
  refine n_then ?_
  refine c_cond rfl rfl (fun hc => ?_) (fun hc => ?_)
  · skip
    refine c_seq ?_
    refine wp_reg (by decide +kernel) ?_
    refine l_v (v_build (pl := [(0, 1), (1, 1)]) (z := .agg #[.int .i64 0, .slice none 0 0]) (zl := [.int .i64 0, .slice none 0 0]) (by kernel_rfl) (by unfold kZero; kernel_rfl) rfl rfl (cells := [_, _]) rfl) ?_
    refine l_to (to_storeA (n := 2) rfl rfl (show _ = (Value.agg _) from rfl) (by kernel_rfl) rfl (by first | (simp [slice_one]; done) | (simp only [List.forall_mem_cons, List.cons_append, List.nil_append]; repeat' (first | exact rfl | apply And.intro | (intro u hu; cases hu; done)))) HB4 (by first | exact of_decide_eq_true rfl | (simp; done) | decide) ?_)
    rintro w101 HX101 k101 z101
    have zs_k101 := k101.size
    replace E := E.step k101 (by intro i hi he; have he0 := he; have hi := hi; have he := he; (try dsimp only [NoK] at hi he ⊢); (try simp only [Value.ownBlock, Option.some.injEq] at he); first | exact he.elim | omega | exact he)
    replace HS1 := HS1.keep k101 (by first | exact fun h => h | (intro h; have he0 := h; have h := h; (try dsimp only at h); (try simp only [Value.ownBlock, Option.some.injEq] at h); (try simp only [add_block] at h); (try simp only [add_block] at he0); first | omega) | (intro i _ hi he; have he0 := he; have hi := hi; have he := he; (try dsimp only [NoK, AllB] at hi he); (try simp only [Value.ownBlock, Option.some.injEq] at he); first | exact hi.elim | exact he.elim | omega | (rcases hi with hi | hi <;> omega) | (rcases he with he | he <;> omega)))
    replace HB2 := HB2.keep k101 (by first | exact fun h => h | (intro h; have he0 := h; have h := h; (try dsimp only at h); (try simp only [Value.ownBlock, Option.some.injEq] at h); (try simp only [add_block] at h); (try simp only [add_block] at he0); first | omega) | (intro i _ hi he; have he0 := he; have hi := hi; have he := he; (try dsimp only [NoK, AllB] at hi he); (try simp only [Value.ownBlock, Option.some.injEq] at he); first | exact hi.elim | exact he.elim | omega | (rcases hi with hi | hi <;> omega) | (rcases he with he | he <;> omega)))
    replace HB4 := HX101
    clear HX101
    try simp only [List.set_cons_zero, List.set_cons_succ, setAt, List.take_zero, List.take_succ_cons, List.drop_zero, List.drop_succ_cons, List.nil_append, List.cons_append, List.append_nil, List.length_cons, List.length_nil, Nat.zero_add, Nat.reduceAdd, List.drop_nil] at HB4
    refine l_v (v_assign rfl) ?_
    refine l_nil ?_
    refine n_then ?_
    refine c_ret ?_
    refine r_then ?_
    refine ret2cv (n := 2) rfl (by decide) (by decide) rfl (by kernel_rfl) HB4.pv rfl (show _ = (Value.int _ _) from rfl) ?_
    have h : e = 2147483647 ∨ 16 < rs.length := by
      simp only [Bool.or_eq_true, decide_eq_true_eq] at hc; omega
    rw [nextM, if_pos h]
    exact ⟨⟨_, rfl, AgV.mkMp (SlV.nil _ _ _) (by omega)⟩, E⟩
  · skip
    have h : ¬ (e = 2147483647 ∨ 16 < rs.length) := by
      simp only [Bool.or_eq_false_iff, decide_eq_false_iff_not] at hc; omega
    refine c_skip ?_
    refine n_then ?_
    refine c_seq ?_
    refine wp_reg (by decide +kernel) ?_
    refine l_v (v_fieldAddr (off := 0) (ft := 2) (by kernel_rfl) rfl) ?_
    refine l_v (v_load (by kernel_rfl) rfl (by first | exact HB4.pv 0 _ rfl | exact HB2.pv 0 _ rfl | assumption)) ?_
    refine l_v (v_add rfl rfl (by first | exact wr_i64 (by omega) (by omega) | rfl)) ?_
    refine l_v (v_build (pl := [(0, 1), (1, 1)]) (z := .agg #[.int .i64 0, .slice none 0 0]) (zl := [.int .i64 0, .slice none 0 0]) (by kernel_rfl) (by unfold kZero; kernel_rfl) rfl rfl (cells := [_, _]) rfl) ?_
    refine l_to (to_alloc (z := (.agg #[.int .i64 0, .slice none 0 0])) (by unfold kZero; kernel_rfl) ?_)
    rintro b6 w6 zb6 HB6 e6 z6
    have zs_e6 := e6.size
    replace E := E.trans (Ext.keep e6)
    replace HS1 := HS1.ext e6
    replace HB2 := HB2.ext e6
    replace HB4 := HB4.ext e6
    try simp only [Value.cells] at HB6
    refine l_to (to_storeA (n := 2) rfl rfl (show _ = (Value.agg _) from rfl) (by kernel_rfl) rfl (by first | (simp [slice_one]; done) | (simp only [List.forall_mem_cons, List.cons_append, List.nil_append]; repeat' (first | exact rfl | apply And.intro | (intro u hu; cases hu; done)))) HB6 (by first | exact of_decide_eq_true rfl | (simp; done) | decide) ?_)
    rintro w102 HX102 k102 z102
    have zs_k102 := k102.size
    replace E := E.step k102 (by intro i hi he; have he0 := he; have hi := hi; have he := he; (try dsimp only [NoK] at hi he ⊢); (try simp only [Value.ownBlock, Option.some.injEq] at he); first | exact he.elim | omega | exact he)
    replace HS1 := HS1.keep k102 (by first | exact fun h => h | (intro h; have he0 := h; have h := h; (try dsimp only at h); (try simp only [Value.ownBlock, Option.some.injEq] at h); (try simp only [add_block] at h); (try simp only [add_block] at he0); first | omega) | (intro i _ hi he; have he0 := he; have hi := hi; have he := he; (try dsimp only [NoK, AllB] at hi he); (try simp only [Value.ownBlock, Option.some.injEq] at he); first | exact hi.elim | exact he.elim | omega | (rcases hi with hi | hi <;> omega) | (rcases he with he | he <;> omega)))
    replace HB2 := HB2.keep k102 (by first | exact fun h => h | (intro h; have he0 := h; have h := h; (try dsimp only at h); (try simp only [Value.ownBlock, Option.some.injEq] at h); (try simp only [add_block] at h); (try simp only [add_block] at he0); first | omega) | (intro i _ hi he; have he0 := he; have hi := hi; have he := he; (try dsimp only [NoK, AllB] at hi he); (try simp only [Value.ownBlock, Option.some.injEq] at he); first | exact hi.elim | exact he.elim | omega | (rcases hi with hi | hi <;> omega) | (rcases he with he | he <;> omega)))
    replace HB4 := HB4.keep k102 (by first | exact fun h => h | (intro h; have he0 := h; have h := h; (try dsimp only at h); (try simp only [Value.ownBlock, Option.some.injEq] at h); (try simp only [add_block] at h); (try simp only [add_block] at he0); first | omega) | (intro i _ hi he; have he0 := he; have hi := hi; have he := he; (try dsimp only [NoK, AllB] at hi he); (try simp only [Value.ownBlock, Option.some.injEq] at he); first | exact hi.elim | exact he.elim | omega | (rcases hi with hi | hi <;> omega) | (rcases he with he | he <;> omega)))
    replace HB6 := HX102
    clear HX102
    try simp only [List.set_cons_zero, List.set_cons_succ, setAt, List.take_zero, List.take_succ_cons, List.drop_zero, List.drop_succ_cons, List.nil_append, List.cons_append, List.append_nil, List.length_cons, List.length_nil, Nat.zero_add, Nat.reduceAdd, List.drop_nil] at HB6
    refine l_nil ?_
    refine n_then ?_
    refine c_seq ?_
    refine c_seq ?_
    refine wp_reg (by decide +kernel) ?_
    refine l_v (v_move (t := .slice _ _ _) rfl) ?_
    refine l_v (v_len (et := 37) (by kernel_rfl) rfl) ?_
    refine l_v (v_move rfl) ?_
    refine l_nil ?_
    refine n_then ?_
    refine c_block ?_
    refine c_loop (τ := Nat × Value) [8, 24, 25, 26, 27, 28, 29, 30, 31, 32, 33, 34, 35] (fun (i, x) => [(24, .int .i64 i)]) (fun (i, x) W => Ext w W ∧ Keep (fun b => b6 ≤ b) w102 W ∧ i ≤ rs.length ∧ Blk W b6 [.int .i64 (e + 1), x] 24 ∧ OwV tRg 37 W w6.heap.size (fun b => b6 < b ∧ b < W.heap.size) x (rs.take i)) (fun (i, x) => rs.length - i) (0, .slice none 0 0) (by exact ⟨rfl, trivial⟩) (by exact ⟨E, Keep.refl _, Nat.zero_le _, HB6, OwV.nil _ _ _ _ _⟩) ?_
    rintro ⟨i, x⟩ w103 j ⟨E, EL1, h1, HB6, HOx⟩
    have zs_EL1 := EL1.size
    replace HS1 := HS1.keep EL1 (by first | exact fun h => h | (intro h; have he0 := h; have h := h; (try dsimp only at h); (try simp only [Value.ownBlock, Option.some.injEq] at h); (try simp only [add_block] at h); (try simp only [add_block] at he0); first | omega) | (intro i _ hi he; have he0 := he; have hi := hi; have he := he; (try dsimp only [NoK, AllB] at hi he); (try simp only [Value.ownBlock, Option.some.injEq] at he); first | exact hi.elim | exact he.elim | omega | (rcases hi with hi | hi <;> omega) | (rcases he with he | he <;> omega)))
    replace HB2 := HB2.keep EL1 (by first | exact fun h => h | (intro h; have he0 := h; have h := h; (try dsimp only at h); (try simp only [Value.ownBlock, Option.some.injEq] at h); (try simp only [add_block] at h); (try simp only [add_block] at he0); first | omega) | (intro i _ hi he; have he0 := he; have hi := hi; have he := he; (try dsimp only [NoK, AllB] at hi he); (try simp only [Value.ownBlock, Option.some.injEq] at he); first | exact hi.elim | exact he.elim | omega | (rcases hi with hi | hi <;> omega) | (rcases he with he | he <;> omega)))
    replace HB4 := HB4.keep EL1 (by first | exact fun h => h | (intro h; have he0 := h; have h := h; (try dsimp only at h); (try simp only [Value.ownBlock, Option.some.injEq] at h); (try simp only [add_block] at h); (try simp only [add_block] at he0); first | omega) | (intro i _ hi he; have he0 := he; have hi := hi; have he := he; (try dsimp only [NoK, AllB] at hi he); (try simp only [Value.ownBlock, Option.some.injEq] at he); first | exact hi.elim | exact he.elim | omega | (rcases hi with hi | hi <;> omega) | (rcases he with he | he <;> omega)))
    have zo_HOx := fun (b : Nat) h => HOx.own_lt (b := b) h
    refine c_seq ?_
    refine wp_reg (by decide +kernel) ?_
    refine l_v (v_lss rfl rfl) ?_
    refine l_nil ?_
    refine n_then ?_
    refine c_seq ?_
    refine c_cond rfl rfl (fun hlt => ?_) (fun hlt => ?_)
    · skip
      have hlt := dtrue hlt
      have htl : (rs.take i).length = i := by rw [List.length_take]; omega
      obtain ⟨r, hx, _⟩ := getE (l := rs) (i := i) (by omega)
      obtain ⟨hl1, hl2⟩ := hl r (List.mem_of_getElem? hx)
      refine c_skip ?_
      refine n_then ?_
      refine c_seq ?_
      refine c_block ?_
      refine c_seq ?_
      refine wp_reg (by decide +kernel) ?_
      refine l_to (to_index (et := 37) (by kernel_rfl) (by kernel_rfl) (show _ = (Value.slice _ _ _) from rfl) HS1 (show _ = (Value.int _ _) from rfl) rfl hx ?_)
      rintro q cs hF HPq hr
      have HG3 : AgV tRg _ _ _ r := ⟨cs, rfl, hr⟩
      obtain ⟨b3, d3, b5, d5, rfl, _, _, hg⟩ := tRg_cells hr
      obtain ⟨ax, cx, rfl⟩ := HOx.shape
      refine l_v (v_loadA (by kernel_rfl) rfl (by first | exact HPq | exact HB6.pv | exact HB4.pv | exact HB2.pv | assumption) rfl) ?_
      refine l_to (to_alloc (z := (.agg #[.slice none 0 0, .slice none 0 0, .bool false, .int .i64 0])) (by unfold kZero; kernel_rfl) ?_)
      rintro b8 w8 zb8 HB8 e8 z8
      have zs_e8 := e8.size
      replace E := E.trans (Ext.keep e8)
      replace HS1 := HS1.ext e8
      replace HB2 := HB2.ext e8
      replace HB4 := HB4.ext e8
      replace HB6 := HB6.ext e8
      replace HOx := HOx.ext e8
      replace EL1 := EL1.trans (Ext.keep e8)
      replace HPq := HPq.ext e8
      replace HG3 := HG3.ext e8
      try simp only [Value.cells] at HB8
      refine l_to (to_storeA (n := 4) rfl rfl (show _ = (Value.agg _) from rfl) (by kernel_rfl) rfl (by first | (simp [slice_one]; done) | (simp only [List.forall_mem_cons, List.cons_append, List.nil_append]; repeat' (first | exact rfl | apply And.intro | (intro u hu; cases hu; done)))) HB8 (by first | exact of_decide_eq_true rfl | (simp; done) | decide) ?_)
      rintro w104 HX104 k104 z104
      have zs_k104 := k104.size
      replace E := E.step k104 (by intro i hi he; have he0 := he; have hi := hi; have he := he; (try dsimp only [NoK] at hi he ⊢); (try simp only [Value.ownBlock, Option.some.injEq] at he); first | exact he.elim | omega | exact he)
      replace HS1 := HS1.keep k104 (by first | exact fun h => h | (intro h; have he0 := h; have h := h; (try dsimp only at h); (try simp only [Value.ownBlock, Option.some.injEq] at h); (try simp only [add_block] at h); (try simp only [add_block] at he0); first | omega) | (intro i _ hi he; have he0 := he; have hi := hi; have he := he; (try dsimp only [NoK, AllB] at hi he); (try simp only [Value.ownBlock, Option.some.injEq] at he); first | exact hi.elim | exact he.elim | omega | (rcases hi with hi | hi <;> omega) | (rcases he with he | he <;> omega)))
      replace HB2 := HB2.keep k104 (by first | exact fun h => h | (intro h; have he0 := h; have h := h; (try dsimp only at h); (try simp only [Value.ownBlock, Option.some.injEq] at h); (try simp only [add_block] at h); (try simp only [add_block] at he0); first | omega) | (intro i _ hi he; have he0 := he; have hi := hi; have he := he; (try dsimp only [NoK, AllB] at hi he); (try simp only [Value.ownBlock, Option.some.injEq] at he); first | exact hi.elim | exact he.elim | omega | (rcases hi with hi | hi <;> omega) | (rcases he with he | he <;> omega)))
      replace HB4 := HB4.keep k104 (by first | exact fun h => h | (intro h; have he0 := h; have h := h; (try dsimp only at h); (try simp only [Value.ownBlock, Option.some.injEq] at h); (try simp only [add_block] at h); (try simp only [add_block] at he0); first | omega) | (intro i _ hi he; have he0 := he; have hi := hi; have he := he; (try dsimp only [NoK, AllB] at hi he); (try simp only [Value.ownBlock, Option.some.injEq] at he); first | exact hi.elim | exact he.elim | omega | (rcases hi with hi | hi <;> omega) | (rcases he with he | he <;> omega)))
      replace HB6 := HB6.keep k104 (by first | exact fun h => h | (intro h; have he0 := h; have h := h; (try dsimp only at h); (try simp only [Value.ownBlock, Option.some.injEq] at h); (try simp only [add_block] at h); (try simp only [add_block] at he0); first | omega) | (intro i _ hi he; have he0 := he; have hi := hi; have he := he; (try dsimp only [NoK, AllB] at hi he); (try simp only [Value.ownBlock, Option.some.injEq] at he); first | exact hi.elim | exact he.elim | omega | (rcases hi with hi | hi <;> omega) | (rcases he with he | he <;> omega)))
      replace HOx := HOx.keep k104 (by intro i ho he; have he0 := he; have ho0 := ho; (try dsimp only [NoK] at he); (try simp only [Value.ownBlock, Option.some.injEq, reduceCtorEq] at ho); (try simp only [Value.ownBlock, Option.some.injEq, reduceCtorEq] at he); first | exact he.elim | exact ho.elim | omega | (have := zo_HOx _ ho0; omega)) (by intro i _ hi _ he; have he0 := he; have hi := hi; have he := he; (try dsimp only [NoK, AllB] at hi he); (try simp only [Value.ownBlock, Option.some.injEq, reduceCtorEq] at he); first | exact hi.elim | exact hi.1.elim | exact he.elim | omega | (rcases hi with hi | hi <;> omega) | (rcases he with he | he <;> omega))
      replace EL1 := EL1.step k104 (by intro i hi he; have he0 := he; have hi := hi; have he := he; (try dsimp only [NoK] at hi he ⊢); (try simp only [Value.ownBlock, Option.some.injEq] at he); first | exact he.elim | omega | exact he)
      replace HPq := HPq.keep k104 (by first | exact fun h => h | (intro h; have he0 := h; have h := h; (try dsimp only at h); (try simp only [Value.ownBlock, Option.some.injEq] at h); (try simp only [add_block] at h); (try simp only [add_block] at he0); first | omega) | (intro i _ hi he; have he0 := he; have hi := hi; have he := he; (try dsimp only [NoK, AllB] at hi he); (try simp only [Value.ownBlock, Option.some.injEq] at he); first | exact hi.elim | exact he.elim | omega | (rcases hi with hi | hi <;> omega) | (rcases he with he | he <;> omega)))
      replace HG3 := HG3.keep k104 (by first | exact fun h => h | (intro h; have he0 := h; have h := h; (try dsimp only at h); (try simp only [Value.ownBlock, Option.some.injEq] at h); (try simp only [add_block] at h); (try simp only [add_block] at he0); first | omega) | (intro i _ hi he; have he0 := he; have hi := hi; have he := he; (try dsimp only [NoK, AllB] at hi he); (try simp only [Value.ownBlock, Option.some.injEq] at he); first | exact hi.elim | exact he.elim | omega | (rcases hi with hi | hi <;> omega) | (rcases he with he | he <;> omega)))
      replace HB8 := HX104
      clear HX104
      try simp only [List.set_cons_zero, List.set_cons_succ, setAt, List.take_zero, List.take_succ_cons, List.drop_zero, List.drop_succ_cons, List.nil_append, List.cons_append, List.append_nil, List.length_cons, List.length_nil, Nat.zero_add, Nat.reduceAdd, List.drop_nil] at HB8
      refine l_nil ?_
      refine n_then ?_
      refine wp_any (by kernel_rfl) ?_
      have e105 : Ext w104 { w104 with drawn := w104.drawn + 1 } := Keep.drawn _ _
      generalize hw105 : ({ w104 with drawn := w104.drawn + 1 } : World) = w105 at e105 ⊢
      clear hw105
      have zs_e105 := e105.size
      replace E := E.trans (Ext.keep e105)
      replace HS1 := HS1.ext e105
      replace HB2 := HB2.ext e105
      replace HB4 := HB4.ext e105
      replace HB6 := HB6.ext e105
      replace HOx := HOx.ext e105
      replace EL1 := EL1.trans (Ext.keep e105)
      replace HPq := HPq.ext e105
      replace HG3 := HG3.ext e105
      replace HB8 := HB8.ext e105
      refine r_cut 5 rfl (by decide +kernel) (by decide +kernel) (by decide +kernel) ?_
      refine wp_regdW (NoK) (by decide +kernel) (by decide +kernel) ?_
      refine rt_v (fun vals w hR hd => v_fieldAddr (off := 1) (ft := 22) (by kernel_rfl) rfl) ?_
      refine rt_v (fun vals w hR hd => v_load (by kernel_rfl) (hd 0 rfl) (by first | exact (HB8.ext hR).pv 1 _ rfl | exact (HPq.ext hR) 1 _ rfl | exact (HB6.ext hR).pv 1 _ rfl | exact (HB4.ext hR).pv 1 _ rfl | exact (HB2.ext hR).pv 1 _ rfl | assumption)) ?_
      refine rt_v (fun vals w hR hd => v_loadA (by kernel_rfl) rfl (by first | exact (HB8.ext hR).pv | exact (HPq.ext hR) | exact (HB6.ext hR).pv | exact (HB4.ext hR).pv | exact (HB2.ext hR).pv | assumption) rfl) ?_
      refine rt_to (fun v W => AgV tRg W (fun b => b8 < b) v r) (fun v w w' h k => h.ext k) (fun vals w hR hd => to_f1 (by kernel_rfl) (show _ = (Value.agg _) from (hd 2 rfl)) (CallsR.mono (clone_c (HG3.ext hR) (by omega) (by omega)) fun v w1 ⟨h, e⟩ => ⟨e, h.mono fun b _ hb => by have := hR.size; omega⟩)) ?_
      refine rt_to (fun v W => SlV tRg W (fun b => b8 < b) v [r]) (fun v w w' h k => h.ext k) (fun vals w hR hd => by (obtain ⟨cs, hcs, hr⟩ := hd 3 rfl; exact to_slice1 (t := tRg) (et := 37) (bytes := 64) (by kernel_rfl) (by decide) (show _ = vals 3 from rfl) (by rw [hcs]; exact hr) fun b w1 hb HO e z => ⟨e, HO.view.mono fun i _ hi => by have := hR.size; exact hi.elim (fun h => by omega) (fun h => h.1)⟩)) ?_
      have htl2 : (rs.take i ++ [r]).length = i + 1 := by rw [List.length_append, htl]; rfl
      have HOy := HOx.mono (F' := fun b => b6 < b) fun b _ h => h.1
      have zo_HOy := fun (b : Nat) h => HOy.own_lt (b := b) h
      have zo_HOy := zo_HOx
      refine rt_nil (fun w106 e106 => ?_)
      rintro _ rfl _ rfl _ rfl v31 HG31 v32 HS32
      have zs_e106 := e106.size
      obtain ⟨a32, c32, rfl⟩ := HS32.shape
      replace E := E.trans (Ext.keep e106)
      replace HS1 := HS1.ext e106
      replace HB2 := HB2.ext e106
      replace HB4 := HB4.ext e106
      replace HB6 := HB6.ext e106
      replace EL1 := EL1.trans (Ext.keep e106)
      replace HPq := HPq.ext e106
      replace HG3 := HG3.ext e106
      replace HB8 := HB8.ext e106
      replace HOy := HOy.ext e106
      refine fin_nil ?_
      refine n_then ?_
      refine r_cut 1 rfl (by decide +kernel) (by decide +kernel) (by decide +kernel) ?_
      refine r_one (by decide +kernel) rfl ?_
      refine l_to (to_append (et := 37) (bytes := 64) (by kernel_rfl) (show _ = (Value.slice _ _ _) from rfl) HOy (show _ = (Value.slice _ _ _) from rfl) HS32 (deepF fun b hb hb2 => ⟨by omega, fun ho => by have := zo_HOx _ ho; omega⟩) (by first | omega | (simp; done) | (simp; omega)) (by simp only [maxLen]; first | omega | (simp; done) | (simp; omega)) (by omega) ?_)
      rintro a9 n9 c9 w9 HO9 hn9 k9 h9 i9
      have zs_k9 := k9.size
      replace E := E.step k9 (by intro i hi he; have he0 := he; have hi := hi; have he := he; (try dsimp only [NoK] at hi he ⊢); (try simp only [Value.ownBlock, Option.some.injEq] at he); first | exact he.elim | omega | exact he | (have := (HOy).own_lt he0; omega) | (have := zo_HOy _ he0; omega) | (have := (HOy).own_lt he0; rcases hi with hi | hi <;> omega))
      replace HS1 := HS1.keep k9 (by first | exact fun h => h | (intro h; have he0 := h; have h := h; (try dsimp only at h); (try simp only [Value.ownBlock, Option.some.injEq] at h); (try simp only [add_block] at h); (try simp only [add_block] at he0); first | omega | (have := (HOy).own_lt he0; omega) | (have := zo_HOy _ he0; omega)) | (intro i _ hi he; have he0 := he; have hi := hi; have he := he; (try dsimp only [NoK, AllB] at hi he); (try simp only [Value.ownBlock, Option.some.injEq] at he); first | exact hi.elim | exact he.elim | omega | (rcases hi with hi | hi <;> omega) | (rcases he with he | he <;> omega) | (have := (HOy).own_lt he0; omega) | (have := zo_HOy _ he0; omega) | (have := (HOy).own_lt he0; rcases hi with hi | hi <;> omega)))
      replace HB2 := HB2.keep k9 (by first | exact fun h => h | (intro h; have he0 := h; have h := h; (try dsimp only at h); (try simp only [Value.ownBlock, Option.some.injEq] at h); (try simp only [add_block] at h); (try simp only [add_block] at he0); first | omega | (have := (HOy).own_lt he0; omega) | (have := zo_HOy _ he0; omega)) | (intro i _ hi he; have he0 := he; have hi := hi; have he := he; (try dsimp only [NoK, AllB] at hi he); (try simp only [Value.ownBlock, Option.some.injEq] at he); first | exact hi.elim | exact he.elim | omega | (rcases hi with hi | hi <;> omega) | (rcases he with he | he <;> omega) | (have := (HOy).own_lt he0; omega) | (have := zo_HOy _ he0; omega) | (have := (HOy).own_lt he0; rcases hi with hi | hi <;> omega)))
      replace HB4 := HB4.keep k9 (by first | exact fun h => h | (intro h; have he0 := h; have h := h; (try dsimp only at h); (try simp only [Value.ownBlock, Option.some.injEq] at h); (try simp only [add_block] at h); (try simp only [add_block] at he0); first | omega | (have := (HOy).own_lt he0; omega) | (have := zo_HOy _ he0; omega)) | (intro i _ hi he; have he0 := he; have hi := hi; have he := he; (try dsimp only [NoK, AllB] at hi he); (try simp only [Value.ownBlock, Option.some.injEq] at he); first | exact hi.elim | exact he.elim | omega | (rcases hi with hi | hi <;> omega) | (rcases he with he | he <;> omega) | (have := (HOy).own_lt he0; omega) | (have := zo_HOy _ he0; omega) | (have := (HOy).own_lt he0; rcases hi with hi | hi <;> omega)))
      replace HB6 := HB6.keep k9 (by first | exact fun h => h | (intro h; have he0 := h; have h := h; (try dsimp only at h); (try simp only [Value.ownBlock, Option.some.injEq] at h); (try simp only [add_block] at h); (try simp only [add_block] at he0); first | omega | (have := (HOy).own_lt he0; omega) | (have := zo_HOy _ he0; omega)) | (intro i _ hi he; have he0 := he; have hi := hi; have he := he; (try dsimp only [NoK, AllB] at hi he); (try simp only [Value.ownBlock, Option.some.injEq] at he); first | exact hi.elim | exact he.elim | omega | (rcases hi with hi | hi <;> omega) | (rcases he with he | he <;> omega) | (have := (HOy).own_lt he0; omega) | (have := zo_HOy _ he0; omega) | (have := (HOy).own_lt he0; rcases hi with hi | hi <;> omega)))
      replace EL1 := EL1.step k9 (by intro i hi he; have he0 := he; have hi := hi; have he := he; (try dsimp only [NoK] at hi he ⊢); (try simp only [Value.ownBlock, Option.some.injEq] at he); first | exact he.elim | omega | exact he | (have := (HOy).own_lt he0; omega) | (have := zo_HOy _ he0; omega) | (have := (HOy).own_lt he0; rcases hi with hi | hi <;> omega))
      replace HPq := HPq.keep k9 (by first | exact fun h => h | (intro h; have he0 := h; have h := h; (try dsimp only at h); (try simp only [Value.ownBlock, Option.some.injEq] at h); (try simp only [add_block] at h); (try simp only [add_block] at he0); first | omega | (have := (HOy).own_lt he0; omega) | (have := zo_HOy _ he0; omega)) | (intro i _ hi he; have he0 := he; have hi := hi; have he := he; (try dsimp only [NoK, AllB] at hi he); (try simp only [Value.ownBlock, Option.some.injEq] at he); first | exact hi.elim | exact he.elim | omega | (rcases hi with hi | hi <;> omega) | (rcases he with he | he <;> omega) | (have := (HOy).own_lt he0; omega) | (have := zo_HOy _ he0; omega) | (have := (HOy).own_lt he0; rcases hi with hi | hi <;> omega)))
      replace HG3 := HG3.keep k9 (by first | exact fun h => h | (intro h; have he0 := h; have h := h; (try dsimp only at h); (try simp only [Value.ownBlock, Option.some.injEq] at h); (try simp only [add_block] at h); (try simp only [add_block] at he0); first | omega | (have := (HOy).own_lt he0; omega) | (have := zo_HOy _ he0; omega)) | (intro i _ hi he; have he0 := he; have hi := hi; have he := he; (try dsimp only [NoK, AllB] at hi he); (try simp only [Value.ownBlock, Option.some.injEq] at he); first | exact hi.elim | exact he.elim | omega | (rcases hi with hi | hi <;> omega) | (rcases he with he | he <;> omega) | (have := (HOy).own_lt he0; omega) | (have := zo_HOy _ he0; omega) | (have := (HOy).own_lt he0; rcases hi with hi | hi <;> omega)))
      replace HB8 := HB8.keep k9 (by first | exact fun h => h | (intro h; have he0 := h; have h := h; (try dsimp only at h); (try simp only [Value.ownBlock, Option.some.injEq] at h); (try simp only [add_block] at h); (try simp only [add_block] at he0); first | omega | (have := (HOy).own_lt he0; omega) | (have := zo_HOy _ he0; omega)) | (intro i _ hi he; have he0 := he; have hi := hi; have he := he; (try dsimp only [NoK, AllB] at hi he); (try simp only [Value.ownBlock, Option.some.injEq] at he); first | exact hi.elim | exact he.elim | omega | (rcases hi with hi | hi <;> omega) | (rcases he with he | he <;> omega) | (have := (HOy).own_lt he0; omega) | (have := zo_HOy _ he0; omega) | (have := (HOy).own_lt he0; rcases hi with hi | hi <;> omega)))
      replace HG31 := HG31.keep k9 (by first | exact fun h => h | (intro h; have he0 := h; have h := h; (try dsimp only at h); (try simp only [Value.ownBlock, Option.some.injEq] at h); (try simp only [add_block] at h); (try simp only [add_block] at he0); first | omega | (have := (HOy).own_lt he0; omega) | (have := zo_HOy _ he0; omega)) | (intro i _ hi he; have he0 := he; have hi := hi; have he := he; (try dsimp only [NoK, AllB] at hi he); (try simp only [Value.ownBlock, Option.some.injEq] at he); first | exact hi.elim | exact he.elim | omega | (rcases hi with hi | hi <;> omega) | (rcases he with he | he <;> omega) | (have := (HOy).own_lt he0; omega) | (have := zo_HOy _ he0; omega) | (have := (HOy).own_lt he0; rcases hi with hi | hi <;> omega)))
      replace HS32 := HS32.keep k9 (by first | exact fun h => h | (intro h; have he0 := h; have h := h; (try dsimp only at h); (try simp only [Value.ownBlock, Option.some.injEq] at h); (try simp only [add_block] at h); (try simp only [add_block] at he0); first | omega | (have := (HOy).own_lt he0; omega) | (have := zo_HOy _ he0; omega)) | (intro i _ hi he; have he0 := he; have hi := hi; have he := he; (try dsimp only [NoK, AllB] at hi he); (try simp only [Value.ownBlock, Option.some.injEq] at he); first | exact hi.elim | exact he.elim | omega | (rcases hi with hi | hi <;> omega) | (rcases he with he | he <;> omega) | (have := (HOy).own_lt he0; omega) | (have := zo_HOy _ he0; omega) | (have := (HOy).own_lt he0; rcases hi with hi | hi <;> omega)))
      have zo_HO9 := fun (b : Nat) h => HO9.own_lt (b := b) h
      refine l_nil ?_
      refine n_then ?_
      refine r_cut 1 rfl (by decide +kernel) (by decide +kernel) (by decide +kernel) ?_
      refine r_one (by decide +kernel) rfl ?_
      refine l_v (v_fieldAddr (off := 1) (ft := 22) (by kernel_rfl) rfl) ?_
      refine l_nil ?_
      refine n_then ?_
      refine r_one (by decide +kernel) rfl ?_
      refine l_to (to_store rfl rfl (show _ = (Value.slice _ _ _) from rfl) rfl (by kernel_rfl) HB6 (by first | exact of_decide_eq_true rfl | (simp; done) | decide) ?_)
      rintro w107 HX107 k107 z107
      have zs_k107 := k107.size
      replace E := E.step k107 (by intro i hi he; have he0 := he; have hi := hi; have he := he; (try dsimp only [NoK] at hi he ⊢); (try simp only [Value.ownBlock, Option.some.injEq] at he); first | exact he.elim | omega | exact he)
      replace HS1 := HS1.keep k107 (by first | exact fun h => h | (intro h; have he0 := h; have h := h; (try dsimp only at h); (try simp only [Value.ownBlock, Option.some.injEq] at h); (try simp only [add_block] at h); (try simp only [add_block] at he0); first | omega) | (intro i _ hi he; have he0 := he; have hi := hi; have he := he; (try dsimp only [NoK, AllB] at hi he); (try simp only [Value.ownBlock, Option.some.injEq] at he); first | exact hi.elim | exact he.elim | omega | (rcases hi with hi | hi <;> omega) | (rcases he with he | he <;> omega)))
      replace HB2 := HB2.keep k107 (by first | exact fun h => h | (intro h; have he0 := h; have h := h; (try dsimp only at h); (try simp only [Value.ownBlock, Option.some.injEq] at h); (try simp only [add_block] at h); (try simp only [add_block] at he0); first | omega) | (intro i _ hi he; have he0 := he; have hi := hi; have he := he; (try dsimp only [NoK, AllB] at hi he); (try simp only [Value.ownBlock, Option.some.injEq] at he); first | exact hi.elim | exact he.elim | omega | (rcases hi with hi | hi <;> omega) | (rcases he with he | he <;> omega)))
      replace HB4 := HB4.keep k107 (by first | exact fun h => h | (intro h; have he0 := h; have h := h; (try dsimp only at h); (try simp only [Value.ownBlock, Option.some.injEq] at h); (try simp only [add_block] at h); (try simp only [add_block] at he0); first | omega) | (intro i _ hi he; have he0 := he; have hi := hi; have he := he; (try dsimp only [NoK, AllB] at hi he); (try simp only [Value.ownBlock, Option.some.injEq] at he); first | exact hi.elim | exact he.elim | omega | (rcases hi with hi | hi <;> omega) | (rcases he with he | he <;> omega)))
      replace EL1 := EL1.step k107 (by intro i hi he; have he0 := he; have hi := hi; have he := he; (try dsimp only [NoK] at hi he ⊢); (try simp only [Value.ownBlock, Option.some.injEq] at he); first | exact he.elim | omega | exact he)
      replace HPq := HPq.keep k107 (by first | exact fun h => h | (intro h; have he0 := h; have h := h; (try dsimp only at h); (try simp only [Value.ownBlock, Option.some.injEq] at h); (try simp only [add_block] at h); (try simp only [add_block] at he0); first | omega) | (intro i _ hi he; have he0 := he; have hi := hi; have he := he; (try dsimp only [NoK, AllB] at hi he); (try simp only [Value.ownBlock, Option.some.injEq] at he); first | exact hi.elim | exact he.elim | omega | (rcases hi with hi | hi <;> omega) | (rcases he with he | he <;> omega)))
      replace HG3 := HG3.keep k107 (by first | exact fun h => h | (intro h; have he0 := h; have h := h; (try dsimp only at h); (try simp only [Value.ownBlock, Option.some.injEq] at h); (try simp only [add_block] at h); (try simp only [add_block] at he0); first | omega) | (intro i _ hi he; have he0 := he; have hi := hi; have he := he; (try dsimp only [NoK, AllB] at hi he); (try simp only [Value.ownBlock, Option.some.injEq] at he); first | exact hi.elim | exact he.elim | omega | (rcases hi with hi | hi <;> omega) | (rcases he with he | he <;> omega)))
      replace HB8 := HB8.keep k107 (by first | exact fun h => h | (intro h; have he0 := h; have h := h; (try dsimp only at h); (try simp only [Value.ownBlock, Option.some.injEq] at h); (try simp only [add_block] at h); (try simp only [add_block] at he0); first | omega) | (intro i _ hi he; have he0 := he; have hi := hi; have he := he; (try dsimp only [NoK, AllB] at hi he); (try simp only [Value.ownBlock, Option.some.injEq] at he); first | exact hi.elim | exact he.elim | omega | (rcases hi with hi | hi <;> omega) | (rcases he with he | he <;> omega)))
      replace HG31 := HG31.keep k107 (by first | exact fun h => h | (intro h; have he0 := h; have h := h; (try dsimp only at h); (try simp only [Value.ownBlock, Option.some.injEq] at h); (try simp only [add_block] at h); (try simp only [add_block] at he0); first | omega) | (intro i _ hi he; have he0 := he; have hi := hi; have he := he; (try dsimp only [NoK, AllB] at hi he); (try simp only [Value.ownBlock, Option.some.injEq] at he); first | exact hi.elim | exact he.elim | omega | (rcases hi with hi | hi <;> omega) | (rcases he with he | he <;> omega)))
      replace HS32 := HS32.keep k107 (by first | exact fun h => h | (intro h; have he0 := h; have h := h; (try dsimp only at h); (try simp only [Value.ownBlock, Option.some.injEq] at h); (try simp only [add_block] at h); (try simp only [add_block] at he0); first | omega) | (intro i _ hi he; have he0 := he; have hi := hi; have he := he; (try dsimp only [NoK, AllB] at hi he); (try simp only [Value.ownBlock, Option.some.injEq] at he); first | exact hi.elim | exact he.elim | omega | (rcases hi with hi | hi <;> omega) | (rcases he with he | he <;> omega)))
      replace HO9 := HO9.keep k107 (by intro i ho he; have he0 := he; have ho0 := ho; (try dsimp only [NoK] at he); (try simp only [Value.ownBlock, Option.some.injEq, reduceCtorEq] at ho); (try simp only [Value.ownBlock, Option.some.injEq, reduceCtorEq] at he); first | exact he.elim | exact ho.elim | omega | (have := zo_HO9 _ ho0; omega)) (by intro i _ hi _ he; have he0 := he; have hi := hi; have he := he; (try dsimp only [NoK, AllB] at hi he); (try simp only [Value.ownBlock, Option.some.injEq, reduceCtorEq] at he); first | exact hi.elim | exact hi.1.elim | exact he.elim | omega | (rcases hi with hi | hi <;> omega) | (rcases he with he | he <;> omega))
      replace HB6 := HX107
      clear HX107
      try simp only [List.set_cons_zero, List.set_cons_succ, setAt, List.take_zero, List.take_succ_cons, List.drop_zero, List.drop_succ_cons, List.nil_append, List.cons_append, List.append_nil, List.length_cons, List.length_nil, Nat.zero_add, Nat.reduceAdd, List.drop_nil] at HB6
      refine l_nil ?_
      refine n_blk ?_
      refine n_then ?_
      refine wp_reg (by decide +kernel) ?_
      refine l_v (v_add rfl rfl (by first | exact wr_i64 (by omega) (by omega) | rfl)) ?_
      refine l_v (v_move (t := .int _ _) rfl) ?_
      refine l_nil ?_
      refine n_then ?_
      refine ⟨(i + 1, .slice a9 n9 c9), _, rfl, by (repeat (first | exact Off.of_over _ _ _ | refine Off.upd ?_ (by decide) _)), ⟨by first | rfl | exact congrArg (Value.int _) (by omega) | (simp; done), trivial⟩, ⟨E, EL1, ?_⟩, ?_⟩
      · skip
        exact ⟨by omega, HB6, by rw [List.take_add_one, hx]; exact HO9.mono fun b hb h => ⟨h, hb⟩⟩
      · (dsimp only; omega)
    · skip
      obtain ⟨ax, cx, rfl⟩ := HOx.shape
      refine c_exit ?_
      refine x_then ?_
      refine x_then ?_
      refine x_hit ?_
      refine n_then ?_
      refine c_seq ?_
      refine wp_reg (by decide +kernel) ?_
      refine l_v (v_loadA (by kernel_rfl) rfl (by first | exact HB6.pv | exact HB4.pv | exact HB2.pv | assumption) rfl) ?_
      refine l_to (to_storeA (n := 2) rfl rfl (show _ = (Value.agg _) from rfl) (by kernel_rfl) rfl (by first | (simp [slice_one]; done) | (simp only [List.forall_mem_cons, List.cons_append, List.nil_append]; repeat' (first | exact rfl | apply And.intro | (intro u hu; cases hu; done)))) HB4 (by first | exact of_decide_eq_true rfl | (simp; done) | decide) ?_)
      rintro w108 HX108 k108 z108
      have zs_k108 := k108.size
      replace E := E.step k108 (by intro i hi he; have he0 := he; have hi := hi; have he := he; (try dsimp only [NoK] at hi he ⊢); (try simp only [Value.ownBlock, Option.some.injEq] at he); first | exact he.elim | omega | exact he)
      replace HS1 := HS1.keep k108 (by first | exact fun h => h | (intro h; have he0 := h; have h := h; (try dsimp only at h); (try simp only [Value.ownBlock, Option.some.injEq] at h); (try simp only [add_block] at h); (try simp only [add_block] at he0); first | omega) | (intro i _ hi he; have he0 := he; have hi := hi; have he := he; (try dsimp only [NoK, AllB] at hi he); (try simp only [Value.ownBlock, Option.some.injEq] at he); first | exact hi.elim | exact he.elim | omega | (rcases hi with hi | hi <;> omega) | (rcases he with he | he <;> omega)))
      replace HB2 := HB2.keep k108 (by first | exact fun h => h | (intro h; have he0 := h; have h := h; (try dsimp only at h); (try simp only [Value.ownBlock, Option.some.injEq] at h); (try simp only [add_block] at h); (try simp only [add_block] at he0); first | omega) | (intro i _ hi he; have he0 := he; have hi := hi; have he := he; (try dsimp only [NoK, AllB] at hi he); (try simp only [Value.ownBlock, Option.some.injEq] at he); first | exact hi.elim | exact he.elim | omega | (rcases hi with hi | hi <;> omega) | (rcases he with he | he <;> omega)))
      replace HB6 := HB6.keep k108 (by first | exact fun h => h | (intro h; have he0 := h; have h := h; (try dsimp only at h); (try simp only [Value.ownBlock, Option.some.injEq] at h); (try simp only [add_block] at h); (try simp only [add_block] at he0); first | omega) | (intro i _ hi he; have he0 := he; have hi := hi; have he := he; (try dsimp only [NoK, AllB] at hi he); (try simp only [Value.ownBlock, Option.some.injEq] at he); first | exact hi.elim | exact he.elim | omega | (rcases hi with hi | hi <;> omega) | (rcases he with he | he <;> omega)))
      replace HOx := HOx.keep k108 (by intro i ho he; have he0 := he; have ho0 := ho; (try dsimp only [NoK] at he); (try simp only [Value.ownBlock, Option.some.injEq, reduceCtorEq] at ho); (try simp only [Value.ownBlock, Option.some.injEq, reduceCtorEq] at he); first | exact he.elim | exact ho.elim | omega | (have := zo_HOx _ ho0; omega)) (by intro i _ hi _ he; have he0 := he; have hi := hi; have he := he; (try dsimp only [NoK, AllB] at hi he); (try simp only [Value.ownBlock, Option.some.injEq, reduceCtorEq] at he); first | exact hi.elim | exact hi.1.elim | exact he.elim | omega | (rcases hi with hi | hi <;> omega) | (rcases he with he | he <;> omega))
      replace HB4 := HX108
      clear HX108
      try simp only [List.set_cons_zero, List.set_cons_succ, setAt, List.take_zero, List.take_succ_cons, List.drop_zero, List.drop_succ_cons, List.nil_append, List.cons_append, List.append_nil, List.length_cons, List.length_nil, Nat.zero_add, Nat.reduceAdd, List.drop_nil] at HB4
      refine l_v (v_assign rfl) ?_
      refine l_nil ?_
      refine n_then ?_
      refine c_ret ?_
      refine ret2cv (n := 2) rfl (by decide) (by decide) rfl (by kernel_rfl) HB4.pv rfl (show _ = (Value.int _ _) from rfl) ?_
      have h2 := dfalse hlt
      have e1 : rs.take i = rs := List.take_of_length_le (by omega)
      rw [e1] at HOx ⊢
      rw [nextM, if_neg h]
      exact ⟨⟨_, rfl, AgV.mkMp (HOx.view.mono fun b _ h => by rcases h with h | h <;> omega) (by omega)⟩, E⟩
end Go.Proofs.Ytkaangdfpjkjpaa
