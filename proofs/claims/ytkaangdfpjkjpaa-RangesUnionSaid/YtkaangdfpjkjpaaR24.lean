/- A part of the proof: steps and lemmas for the walks through the given program. -/
import Derived.Test.YtkaangdfpjkjpaaR23
namespace Go.Proofs.Ytkaangdfpjkjpaa
open Go.Vc
set_option linter.unusedVariables false
set_option linter.unusedSimpArgs false
set_option maxRecDepth 100000

theorem much_bound : ∀ (l : List RgV) (n : Int), 0 ≤ n → ¬ 20000 < muchN l n → n + l.length ≤ 20000 ∧ ∀ r ∈ l, r.1.length ≤ 20000 ∧ r.2.1.length ≤ 20000
  | [], n, h0, h => ⟨by simp [muchN] at h; simpa using h, fun r hr => by cases hr⟩
  | r :: l, n, h0, h => by
    by_cases hn : n ≤ 20000
    · rw [muchN, if_pos hn] at h
      obtain ⟨h1, h2⟩ := much_bound l _ (by omega) h
      have hb : r.1.length ≤ 20000 ∧ r.2.1.length ≤ 20000 := by omega
      refine ⟨by rw [List.length_cons]; omega, fun s hs => ?_⟩
      rcases List.mem_cons.1 hs with rfl | hs
      · exact hb
      · exact h2 s hs
    · exact absurd (by rw [muchN_stop hn]; omega) h
theorem much_no {l : List RgV} (h : muchB l = false) : l.length ≤ 20000 ∧ ∀ r ∈ l, r.1.length ≤ 20000 ∧ r.2.1.length ≤ 20000 := by
  obtain ⟨h1, h2⟩ := much_bound l 0 (by omega) (of_decide_eq_false h)
  exact ⟨by omega, h2⟩
theorem RangesGive_c {w : World} {F G : Nat → Prop} {v kv : Value} {e g : Int} {rs : List RgV} {k : List UInt8} (HG1 : AgV tMp w F v (e, rs)) (HS2 : Bv w G kv k) : CallsR Try.prog 9 #[v, kv, .int .i64 g] w (fun o w' => o = .bool true ∧ Ext w w') := by
  obtain ⟨a, c, rfl, HSr, he⟩ := HG1.mp
  obtain ⟨a3, c3, rfl⟩ := HS2.shape
  simp only at HSr he
  refine enter 53 Try.func9 rfl rfl (by simp) ?_
  refine c_seq ?_
  have E := Keep.refl (K := NoK) w
  replace HG1 := HG1.all
  replace HS2 := HS2.all
  refine wp_reg (by decide +kernel) ?_
  refine l_to (to_box (show _ = (Value.agg _) from rfl) ?_)
  rintro b2 w2 zb2 HB2 e2 z2
  have zs_e2 := e2.size
  replace E := E.trans (Ext.keep e2)
  replace HG1 := HG1.ext e2
  replace HS2 := HS2.ext e2
  try simp only [Value.cells] at HB2
  refine l_v (v_assign rfl) ?_
  refine l_nil ?_
  refine n_then ?_
  refine c_seq ?_
  refine c_seq ?_
  refine wp_reg (by decide +kernel) ?_
  refine l_v (v_loadA (by kernel_rfl) rfl (by first | exact HB2.pv | assumption) rfl) ?_
  refine l_to (to_f1 (by kernel_rfl) (show _ = (Value.agg _) from rfl) (CallsR.mono (much_c HG1) ?_))
  rintro _ w101 ⟨rfl, e101⟩
  have zs_e101 := e101.size
  replace E := E.trans (Ext.keep e101)
  replace HG1 := HG1.ext e101
  replace HS2 := HS2.ext e101
  replace HB2 := HB2.ext e101
  refine l_v (v_move (t := .bool _) rfl) ?_
  refine l_g1 rfl rfl (fun hG => v_move (t := .slice _ _ _) rfl) ?_
  refine l_g1 rfl rfl (fun hG => v_len (et := 5) (by kernel_rfl) (gd hG rfl)) ?_
  refine l_g1 rfl rfl (fun hG => v_gtr (gd hG rfl) rfl) ?_
  refine l_v (v_or rfl rfl) ?_
  refine l_nil ?_
  refine n_then ?_
  refine c_cond rfl rfl (fun hc => ?_) (fun hc => ?_)
  · skip
    refine c_seq ?_
    refine wp_reg (by decide +kernel) ?_
    refine l_to (to_f0 (by kernel_rfl) (CallsR.mono (known_c) ?_))
    rintro _ w102 ⟨rfl, e102⟩
    have zs_e102 := e102.size
    replace E := E.trans (Ext.keep e102)
    replace HG1 := HG1.ext e102
    replace HS2 := HS2.ext e102
    replace HB2 := HB2.ext e102
    refine l_v (v_assign (t := .bool _) rfl) ?_
    refine l_nil ?_
    refine n_then ?_
    refine c_ret ?_
    refine r_then ?_
    refine ret1v rfl (by decide) (show _ = (Value.bool _) from rfl) ?_
    exact ⟨rfl, E⟩
  · skip
    have hno := much_no (l := rs) (by revert hc; cases muchB rs <;> simp)
    refine c_skip ?_
    refine n_then ?_
    refine c_seq ?_
    refine wp_reg (by decide +kernel) ?_
    refine l_v (v_loadA (by kernel_rfl) rfl (by first | exact HB2.pv | assumption) rfl) ?_
    refine l_to (to_f1 (by kernel_rfl) (show _ = (Value.agg _) from rfl) (CallsR.mono (copyOf_c HG1 (by omega) (fun r hr => by have := hno.2 r hr; omega)) ?_))
    rintro x5 w5 ⟨HG5, e5⟩
    have zs_e5 := e5.size
    replace HG5 := HG5.all
    obtain ⟨a5, c5, rfl, HS5, _⟩ := HG5.mp
    replace E := E.trans (Ext.keep e5)
    replace HG1 := HG1.ext e5
    replace HS2 := HS2.ext e5
    replace HB2 := HB2.ext e5
    refine l_to (to_alloc (z := (.agg #[.int .i64 0, .slice none 0 0])) (by unfold kZero; kernel_rfl) ?_)
    rintro b5 w15 zb5 HB5 e15 z5
    have zs_e15 := e15.size
    replace E := E.trans (Ext.keep e15)
    replace HG1 := HG1.ext e15
    replace HS2 := HS2.ext e15
    replace HB2 := HB2.ext e15
    replace HG5 := HG5.ext e15
    try simp only [Value.cells] at HB5
    refine l_to (to_storeA (n := 2) rfl rfl (show _ = (Value.agg _) from rfl) (by kernel_rfl) rfl (by first | (simp [slice_one]; done) | (simp only [List.forall_mem_cons, List.cons_append, List.nil_append]; repeat' (first | exact rfl | apply And.intro | (intro u hu; cases hu; done)))) HB5 (by first | exact of_decide_eq_true rfl | (simp; done) | decide) ?_)
    rintro w103 HX103 k103 z103
    have zs_k103 := k103.size
    replace E := E.step k103 (by intro i hi he; have he0 := he; have hi := hi; have he := he; (try dsimp only [NoK] at hi he ⊢); (try simp only [Value.ownBlock, Option.some.injEq] at he); first | exact he.elim | omega | exact he)
    replace HG1 := HG1.keep k103 (by first | exact fun h => h | (intro h; have he0 := h; have h := h; (try dsimp only at h); (try simp only [Value.ownBlock, Option.some.injEq] at h); (try simp only [add_block] at h); (try simp only [add_block] at he0); first | omega) | (intro i _ hi he; have he0 := he; have hi := hi; have he := he; (try dsimp only [NoK, AllB] at hi he); (try simp only [Value.ownBlock, Option.some.injEq] at he); first | exact hi.elim | exact he.elim | omega | (rcases hi with hi | hi <;> omega) | (rcases he with he | he <;> omega)))
    replace HS2 := HS2.keep k103 (by first | exact fun h => h | (intro h; have he0 := h; have h := h; (try dsimp only at h); (try simp only [Value.ownBlock, Option.some.injEq] at h); (try simp only [add_block] at h); (try simp only [add_block] at he0); first | omega) | (intro i _ hi he; have he0 := he; have hi := hi; have he := he; (try dsimp only [NoK, AllB] at hi he); (try simp only [Value.ownBlock, Option.some.injEq] at he); first | exact hi.elim | exact he.elim | omega | (rcases hi with hi | hi <;> omega) | (rcases he with he | he <;> omega)))
    replace HB2 := HB2.keep k103 (by first | exact fun h => h | (intro h; have he0 := h; have h := h; (try dsimp only at h); (try simp only [Value.ownBlock, Option.some.injEq] at h); (try simp only [add_block] at h); (try simp only [add_block] at he0); first | omega) | (intro i _ hi he; have he0 := he; have hi := hi; have he := he; (try dsimp only [NoK, AllB] at hi he); (try simp only [Value.ownBlock, Option.some.injEq] at he); first | exact hi.elim | exact he.elim | omega | (rcases hi with hi | hi <;> omega) | (rcases he with he | he <;> omega)))
    replace HG5 := HG5.keep k103 (by first | exact fun h => h | (intro h; have he0 := h; have h := h; (try dsimp only at h); (try simp only [Value.ownBlock, Option.some.injEq] at h); (try simp only [add_block] at h); (try simp only [add_block] at he0); first | omega) | (intro i _ hi he; have he0 := he; have hi := hi; have he := he; (try dsimp only [NoK, AllB] at hi he); (try simp only [Value.ownBlock, Option.some.injEq] at he); first | exact hi.elim | exact he.elim | omega | (rcases hi with hi | hi <;> omega) | (rcases he with he | he <;> omega)))
    replace HB5 := HX103
    clear HX103
    try simp only [List.set_cons_zero, List.set_cons_succ, setAt, List.take_zero, List.take_succ_cons, List.drop_zero, List.drop_succ_cons, List.nil_append, List.cons_append, List.append_nil, List.length_cons, List.length_nil, Nat.zero_add, Nat.reduceAdd, List.drop_nil] at HB5
    refine l_nil ?_
    refine n_then ?_
    refine c_seq ?_
    refine wp_reg (by decide +kernel) ?_
    refine l_v (v_loadA (by kernel_rfl) rfl (by first | exact HB5.pv | exact HB2.pv | assumption) rfl) ?_
    refine l_v (v_move (t := .slice _ _ _) rfl) ?_
    refine l_v (v_move (t := .int _ _) rfl) ?_
    refine l_to (to_f3 (by kernel_rfl) (show _ = (Value.agg _) from rfl) (show _ = (Value.slice _ _ _) from rfl) (show _ = (Value.int _ _) from rfl) (CallsR.mono (Give_c HG5 HS2) ?_))
    rintro _ w6 ⟨⟨x6, rfl, HG6⟩, e6⟩
    have zs_e6 := e6.size
    replace HG6 := HG6.all
    obtain ⟨a6, c6, rfl, HS6, _⟩ := HG6.mp
    replace E := E.trans (Ext.keep e6)
    replace HG1 := HG1.ext e6
    replace HS2 := HS2.ext e6
    replace HB2 := HB2.ext e6
    replace HG5 := HG5.ext e6
    replace HB5 := HB5.ext e6
    refine l_v (v_move (t := .tuple _) rfl) ?_
    refine l_v (v_extract (t := .agg _) rfl rfl) ?_
    refine l_v (v_extract (t := .int _ _) rfl rfl) ?_
    refine l_to (to_alloc (z := (.agg #[.int .i64 0, .slice none 0 0])) (by unfold kZero; kernel_rfl) ?_)
    rintro b6 w16 zb6 HB6 e16 z6
    have zs_e16 := e16.size
    replace E := E.trans (Ext.keep e16)
    replace HG1 := HG1.ext e16
    replace HS2 := HS2.ext e16
    replace HB2 := HB2.ext e16
    replace HG5 := HG5.ext e16
    replace HB5 := HB5.ext e16
    replace HG6 := HG6.ext e16
    try simp only [Value.cells] at HB6
    refine l_to (to_storeA (n := 2) rfl rfl (show _ = (Value.agg _) from rfl) (by kernel_rfl) rfl (by first | (simp [slice_one]; done) | (simp only [List.forall_mem_cons, List.cons_append, List.nil_append]; repeat' (first | exact rfl | apply And.intro | (intro u hu; cases hu; done)))) HB6 (by first | exact of_decide_eq_true rfl | (simp; done) | decide) ?_)
    rintro w104 HX104 k104 z104
    have zs_k104 := k104.size
    replace E := E.step k104 (by intro i hi he; have he0 := he; have hi := hi; have he := he; (try dsimp only [NoK] at hi he ⊢); (try simp only [Value.ownBlock, Option.some.injEq] at he); first | exact he.elim | omega | exact he)
    replace HG1 := HG1.keep k104 (by first | exact fun h => h | (intro h; have he0 := h; have h := h; (try dsimp only at h); (try simp only [Value.ownBlock, Option.some.injEq] at h); (try simp only [add_block] at h); (try simp only [add_block] at he0); first | omega) | (intro i _ hi he; have he0 := he; have hi := hi; have he := he; (try dsimp only [NoK, AllB] at hi he); (try simp only [Value.ownBlock, Option.some.injEq] at he); first | exact hi.elim | exact he.elim | omega | (rcases hi with hi | hi <;> omega) | (rcases he with he | he <;> omega)))
    replace HS2 := HS2.keep k104 (by first | exact fun h => h | (intro h; have he0 := h; have h := h; (try dsimp only at h); (try simp only [Value.ownBlock, Option.some.injEq] at h); (try simp only [add_block] at h); (try simp only [add_block] at he0); first | omega) | (intro i _ hi he; have he0 := he; have hi := hi; have he := he; (try dsimp only [NoK, AllB] at hi he); (try simp only [Value.ownBlock, Option.some.injEq] at he); first | exact hi.elim | exact he.elim | omega | (rcases hi with hi | hi <;> omega) | (rcases he with he | he <;> omega)))
    replace HB2 := HB2.keep k104 (by first | exact fun h => h | (intro h; have he0 := h; have h := h; (try dsimp only at h); (try simp only [Value.ownBlock, Option.some.injEq] at h); (try simp only [add_block] at h); (try simp only [add_block] at he0); first | omega) | (intro i _ hi he; have he0 := he; have hi := hi; have he := he; (try dsimp only [NoK, AllB] at hi he); (try simp only [Value.ownBlock, Option.some.injEq] at he); first | exact hi.elim | exact he.elim | omega | (rcases hi with hi | hi <;> omega) | (rcases he with he | he <;> omega)))
    replace HG5 := HG5.keep k104 (by first | exact fun h => h | (intro h; have he0 := h; have h := h; (try dsimp only at h); (try simp only [Value.ownBlock, Option.some.injEq] at h); (try simp only [add_block] at h); (try simp only [add_block] at he0); first | omega) | (intro i _ hi he; have he0 := he; have hi := hi; have he := he; (try dsimp only [NoK, AllB] at hi he); (try simp only [Value.ownBlock, Option.some.injEq] at he); first | exact hi.elim | exact he.elim | omega | (rcases hi with hi | hi <;> omega) | (rcases he with he | he <;> omega)))
    replace HB5 := HB5.keep k104 (by first | exact fun h => h | (intro h; have he0 := h; have h := h; (try dsimp only at h); (try simp only [Value.ownBlock, Option.some.injEq] at h); (try simp only [add_block] at h); (try simp only [add_block] at he0); first | omega) | (intro i _ hi he; have he0 := he; have hi := hi; have he := he; (try dsimp only [NoK, AllB] at hi he); (try simp only [Value.ownBlock, Option.some.injEq] at he); first | exact hi.elim | exact he.elim | omega | (rcases hi with hi | hi <;> omega) | (rcases he with he | he <;> omega)))
    replace HG6 := HG6.keep k104 (by first | exact fun h => h | (intro h; have he0 := h; have h := h; (try dsimp only at h); (try simp only [Value.ownBlock, Option.some.injEq] at h); (try simp only [add_block] at h); (try simp only [add_block] at he0); first | omega) | (intro i _ hi he; have he0 := he; have hi := hi; have he := he; (try dsimp only [NoK, AllB] at hi he); (try simp only [Value.ownBlock, Option.some.injEq] at he); first | exact hi.elim | exact he.elim | omega | (rcases hi with hi | hi <;> omega) | (rcases he with he | he <;> omega)))
    replace HB6 := HX104
    clear HX104
    try simp only [List.set_cons_zero, List.set_cons_succ, setAt, List.take_zero, List.take_succ_cons, List.drop_zero, List.drop_succ_cons, List.nil_append, List.cons_append, List.append_nil, List.length_cons, List.length_nil, Nat.zero_add, Nat.reduceAdd, List.drop_nil] at HB6
    refine l_v (v_assign (t := .int _ _) rfl) ?_
    refine l_nil ?_
    refine n_then ?_
    refine c_seq ?_
    refine wp_reg (by decide +kernel) ?_
    refine l_v (v_loadA (by kernel_rfl) rfl (by first | exact HB6.pv | exact HB5.pv | exact HB2.pv | assumption) rfl) ?_
    refine l_v (v_move (t := .slice _ _ _) rfl) ?_
    refine l_v (v_move (t := .int _ _) rfl) ?_
    refine l_to (to_f3 (by kernel_rfl) (show _ = (Value.agg _) from rfl) (show _ = (Value.slice _ _ _) from rfl) (show _ = (Value.int _ _) from rfl) (CallsR.mono (refGive_c HG1 HS2) ?_))
    rintro _ w7 ⟨⟨x7, rfl, HG7⟩, e7⟩
    have zs_e7 := e7.size
    replace HG7 := HG7.all
    obtain ⟨a7, c7, rfl, HS7, _⟩ := HG7.mp
    replace E := E.trans (Ext.keep e7)
    replace HG1 := HG1.ext e7
    replace HS2 := HS2.ext e7
    replace HB2 := HB2.ext e7
    replace HG5 := HG5.ext e7
    replace HB5 := HB5.ext e7
    replace HG6 := HG6.ext e7
    replace HB6 := HB6.ext e7
    refine l_v (v_move (t := .tuple _) rfl) ?_
    refine l_v (v_extract (t := .agg _) rfl rfl) ?_
    refine l_v (v_extract (t := .int _ _) rfl rfl) ?_
    refine l_to (to_alloc (z := (.agg #[.int .i64 0, .slice none 0 0])) (by unfold kZero; kernel_rfl) ?_)
    rintro b7 w17 zb7 HB7 e17 z7
    have zs_e17 := e17.size
    replace E := E.trans (Ext.keep e17)
    replace HG1 := HG1.ext e17
    replace HS2 := HS2.ext e17
    replace HB2 := HB2.ext e17
    replace HG5 := HG5.ext e17
    replace HB5 := HB5.ext e17
    replace HG6 := HG6.ext e17
    replace HB6 := HB6.ext e17
    replace HG7 := HG7.ext e17
    try simp only [Value.cells] at HB7
    refine l_to (to_storeA (n := 2) rfl rfl (show _ = (Value.agg _) from rfl) (by kernel_rfl) rfl (by first | (simp [slice_one]; done) | (simp only [List.forall_mem_cons, List.cons_append, List.nil_append]; repeat' (first | exact rfl | apply And.intro | (intro u hu; cases hu; done)))) HB7 (by first | exact of_decide_eq_true rfl | (simp; done) | decide) ?_)
    rintro w105 HX105 k105 z105
    have zs_k105 := k105.size
    replace E := E.step k105 (by intro i hi he; have he0 := he; have hi := hi; have he := he; (try dsimp only [NoK] at hi he ⊢); (try simp only [Value.ownBlock, Option.some.injEq] at he); first | exact he.elim | omega | exact he)
    replace HG1 := HG1.keep k105 (by first | exact fun h => h | (intro h; have he0 := h; have h := h; (try dsimp only at h); (try simp only [Value.ownBlock, Option.some.injEq] at h); (try simp only [add_block] at h); (try simp only [add_block] at he0); first | omega) | (intro i _ hi he; have he0 := he; have hi := hi; have he := he; (try dsimp only [NoK, AllB] at hi he); (try simp only [Value.ownBlock, Option.some.injEq] at he); first | exact hi.elim | exact he.elim | omega | (rcases hi with hi | hi <;> omega) | (rcases he with he | he <;> omega)))
    replace HS2 := HS2.keep k105 (by first | exact fun h => h | (intro h; have he0 := h; have h := h; (try dsimp only at h); (try simp only [Value.ownBlock, Option.some.injEq] at h); (try simp only [add_block] at h); (try simp only [add_block] at he0); first | omega) | (intro i _ hi he; have he0 := he; have hi := hi; have he := he; (try dsimp only [NoK, AllB] at hi he); (try simp only [Value.ownBlock, Option.some.injEq] at he); first | exact hi.elim | exact he.elim | omega | (rcases hi with hi | hi <;> omega) | (rcases he with he | he <;> omega)))
    replace HB2 := HB2.keep k105 (by first | exact fun h => h | (intro h; have he0 := h; have h := h; (try dsimp only at h); (try simp only [Value.ownBlock, Option.some.injEq] at h); (try simp only [add_block] at h); (try simp only [add_block] at he0); first | omega) | (intro i _ hi he; have he0 := he; have hi := hi; have he := he; (try dsimp only [NoK, AllB] at hi he); (try simp only [Value.ownBlock, Option.some.injEq] at he); first | exact hi.elim | exact he.elim | omega | (rcases hi with hi | hi <;> omega) | (rcases he with he | he <;> omega)))
    replace HG5 := HG5.keep k105 (by first | exact fun h => h | (intro h; have he0 := h; have h := h; (try dsimp only at h); (try simp only [Value.ownBlock, Option.some.injEq] at h); (try simp only [add_block] at h); (try simp only [add_block] at he0); first | omega) | (intro i _ hi he; have he0 := he; have hi := hi; have he := he; (try dsimp only [NoK, AllB] at hi he); (try simp only [Value.ownBlock, Option.some.injEq] at he); first | exact hi.elim | exact he.elim | omega | (rcases hi with hi | hi <;> omega) | (rcases he with he | he <;> omega)))
    replace HB5 := HB5.keep k105 (by first | exact fun h => h | (intro h; have he0 := h; have h := h; (try dsimp only at h); (try simp only [Value.ownBlock, Option.some.injEq] at h); (try simp only [add_block] at h); (try simp only [add_block] at he0); first | omega) | (intro i _ hi he; have he0 := he; have hi := hi; have he := he; (try dsimp only [NoK, AllB] at hi he); (try simp only [Value.ownBlock, Option.some.injEq] at he); first | exact hi.elim | exact he.elim | omega | (rcases hi with hi | hi <;> omega) | (rcases he with he | he <;> omega)))
    replace HG6 := HG6.keep k105 (by first | exact fun h => h | (intro h; have he0 := h; have h := h; (try dsimp only at h); (try simp only [Value.ownBlock, Option.some.injEq] at h); (try simp only [add_block] at h); (try simp only [add_block] at he0); first | omega) | (intro i _ hi he; have he0 := he; have hi := hi; have he := he; (try dsimp only [NoK, AllB] at hi he); (try simp only [Value.ownBlock, Option.some.injEq] at he); first | exact hi.elim | exact he.elim | omega | (rcases hi with hi | hi <;> omega) | (rcases he with he | he <;> omega)))
    replace HB6 := HB6.keep k105 (by first | exact fun h => h | (intro h; have he0 := h; have h := h; (try dsimp only at h); (try simp only [Value.ownBlock, Option.some.injEq] at h); (try simp only [add_block] at h); (try simp only [add_block] at he0); first | omega) | (intro i _ hi he; have he0 := he; have hi := hi; have he := he; (try dsimp only [NoK, AllB] at hi he); (try simp only [Value.ownBlock, Option.some.injEq] at he); first | exact hi.elim | exact he.elim | omega | (rcases hi with hi | hi <;> omega) | (rcases he with he | he <;> omega)))
    replace HG7 := HG7.keep k105 (by first | exact fun h => h | (intro h; have he0 := h; have h := h; (try dsimp only at h); (try simp only [Value.ownBlock, Option.some.injEq] at h); (try simp only [add_block] at h); (try simp only [add_block] at he0); first | omega) | (intro i _ hi he; have he0 := he; have hi := hi; have he := he; (try dsimp only [NoK, AllB] at hi he); (try simp only [Value.ownBlock, Option.some.injEq] at he); first | exact hi.elim | exact he.elim | omega | (rcases hi with hi | hi <;> omega) | (rcases he with he | he <;> omega)))
    replace HB7 := HX105
    clear HX105
    try simp only [List.set_cons_zero, List.set_cons_succ, setAt, List.take_zero, List.take_succ_cons, List.drop_zero, List.drop_succ_cons, List.nil_append, List.cons_append, List.append_nil, List.length_cons, List.length_nil, Nat.zero_add, Nat.reduceAdd, List.drop_nil] at HB7
    refine l_v (v_assign (t := .int _ _) rfl) ?_
    refine l_nil ?_
    refine n_then ?_
    refine c_seq ?_
    refine wp_reg (by decide +kernel) ?_
    refine l_v (v_loadA (by kernel_rfl) rfl (by first | exact HB7.pv | exact HB6.pv | exact HB5.pv | exact HB2.pv | assumption) rfl) ?_
    refine l_v (v_loadA (by kernel_rfl) rfl (by first | exact HB7.pv | exact HB6.pv | exact HB5.pv | exact HB2.pv | assumption) rfl) ?_
    refine l_to (to_f2 (by kernel_rfl) (show _ = (Value.agg _) from rfl) (show _ = (Value.agg _) from rfl) (CallsR.mono (refSame_c HG6 HG7) ?_))
    rintro _ w106 ⟨rfl, e106⟩
    have zs_e106 := e106.size
    replace E := E.trans (Ext.keep e106)
    replace HG1 := HG1.ext e106
    replace HS2 := HS2.ext e106
    replace HB2 := HB2.ext e106
    replace HG5 := HG5.ext e106
    replace HB5 := HB5.ext e106
    replace HG6 := HG6.ext e106
    replace HB6 := HB6.ext e106
    replace HG7 := HG7.ext e106
    replace HB7 := HB7.ext e106
    refine l_v (v_move (t := .bool _) rfl) ?_
    refine l_g1 rfl rfl (fun hG => v_move (t := .int _ _) rfl) ?_
    refine l_g1f rfl rfl (fun hG => to_f1 (by kernel_rfl) (gd hG rfl) (num_c)) ?_
    rintro w107 e107
    have zs_e107 := e107.size
    replace E := E.trans (Ext.keep e107)
    replace HG1 := HG1.ext e107
    replace HS2 := HS2.ext e107
    replace HB2 := HB2.ext e107
    replace HG5 := HG5.ext e107
    replace HB5 := HB5.ext e107
    replace HG6 := HG6.ext e107
    replace HB6 := HB6.ext e107
    replace HG7 := HG7.ext e107
    replace HB7 := HB7.ext e107
    refine l_g1 rfl rfl (fun hG => v_move (t := .int _ _) rfl) ?_
    refine l_g1 rfl rfl (fun hG => v_eql (gd hG rfl) (gd hG rfl)) ?_
    refine l_v (v_and rfl rfl) ?_
    refine l_v (v_move (t := .bool _) rfl) ?_
    refine l_g1 rfl rfl (fun hG => v_loadA (by kernel_rfl) rfl (by first | exact HB7.pv | exact HB6.pv | exact HB5.pv | exact HB2.pv | assumption) rfl) ?_
    refine l_g1 rfl rfl (fun hG => v_loadA (by kernel_rfl) rfl (by first | exact HB7.pv | exact HB6.pv | exact HB5.pv | exact HB2.pv | assumption) rfl) ?_
    refine l_g1f rfl rfl (fun hG => to_f2 (by kernel_rfl) (gd hG rfl) (gd hG rfl) (refSame_c HG5 HG1)) ?_
    rintro w108 e108
    have zs_e108 := e108.size
    replace E := E.trans (Ext.keep e108)
    replace HG1 := HG1.ext e108
    replace HS2 := HS2.ext e108
    replace HB2 := HB2.ext e108
    replace HG5 := HG5.ext e108
    replace HB5 := HB5.ext e108
    replace HG6 := HG6.ext e108
    replace HB6 := HB6.ext e108
    replace HG7 := HG7.ext e108
    replace HB7 := HB7.ext e108
    refine l_v (v_and rfl rfl) ?_
    refine l_v (v_move (t := .bool _) rfl) ?_
    refine l_g1f rfl rfl (fun hG => to_f0 (by kernel_rfl) (known_c)) ?_
    rintro w109 e109
    have zs_e109 := e109.size
    replace E := E.trans (Ext.keep e109)
    replace HG1 := HG1.ext e109
    replace HS2 := HS2.ext e109
    replace HB2 := HB2.ext e109
    replace HG5 := HG5.ext e109
    replace HB5 := HB5.ext e109
    replace HG6 := HG6.ext e109
    replace HB6 := HB6.ext e109
    replace HG7 := HG7.ext e109
    replace HB7 := HB7.ext e109
    refine l_v (v_and rfl rfl) ?_
    refine l_v (v_assign (t := .bool _) rfl) ?_
    refine l_nil ?_
    refine n_then ?_
    refine c_ret ?_
    refine ret1v rfl (by decide) (show _ = (Value.bool _) from rfl) ?_
    refine ⟨?_, E⟩
    rw [sameM_self, sameM_self]; simp
end Go.Proofs.Ytkaangdfpjkjpaa
