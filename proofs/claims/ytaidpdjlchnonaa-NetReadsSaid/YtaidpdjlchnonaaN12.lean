/- A part of the proof: steps and lemmas for the walks through the given program. -/
import Derived.Test.YtaidpdjlchnonaaN11
namespace Go.Proofs.Ytaidpdjlchnonaa
open Go.Vc
set_option linter.unusedVariables false
set_option linter.unusedSimpArgs false
set_option maxRecDepth 100000

theorem Drop_no {w : World} {b c : Nat} {a : Option Addr} {k : Nat} {y : Value} {n : Int} (HB1 : Blk w b [.bool true, .slice a k c, y] 68) (hn : n < 0 ∨ (k : Int) ≤ n) : CallsR Try.prog 23 #[.pointer (some ⟨b, 0, none⟩), .int .i64 n] w (fun o w' => o = .int .i64 2 ∧ Ext w w') := by
  have zl1 := HB1.lt
  refine enter 23 Try.func23 rfl rfl (by simp) ?_
  refine c_seq ?_
  have E := Keep.refl (K := NoK) w
  refine wp_reg (by decide +kernel) ?_
  refine l_v (v_assign rfl) ?_
  refine l_nil ?_
  refine n_then ?_
  refine c_seq ?_
  refine wp_reg (by decide +kernel) ?_
  refine l_v (v_move (t := .pointer _) rfl) ?_
  refine l_v (v_move (t := .int _ _) rfl) ?_
  refine l_to (to_f2 (by kernel_rfl) (show _ = (Value.pointer _) from rfl) (show _ = (Value.int _ _) from rfl) (CallsR.mono (Take_no HB1 hn) ?_))
  rintro _ w3 ⟨rfl, e3⟩
  have zs_e3 := e3.size
  replace E := E.trans (Ext.keep e3)
  replace HB1 := HB1.ext e3
  refine l_v (v_move (t := .tuple _) rfl) ?_
  refine l_v (v_extract (t := .agg _) rfl rfl) ?_
  refine l_v (v_extract (t := .int _ _) rfl rfl) ?_
  refine l_to (to_alloc (z := (.agg #[.int .i64 0, .int .i64 0, .int .i64 0, .int .i64 0, .int .i64 0, .int .i64 0, .int .i64 0, .int .i64 0, .slice none 0 0, .bool false, .slice none 0 0])) (by unfold kZero; kernel_rfl) ?_)
  rintro b4 w4 zb4 HB4 e4 z4
  have zs_e4 := e4.size
  replace E := E.trans (Ext.keep e4)
  replace HB1 := HB1.ext e4
  try simp only [Value.cells] at HB4
  refine l_to (to_storeA (n := 11) rfl rfl (show _ = (Value.agg _) from rfl) (by kernel_rfl) rfl (by first | (simp [slice_one]; done) | (simp only [List.forall_mem_cons, List.cons_append, List.nil_append]; repeat' (first | exact rfl | apply And.intro | (intro u hu; cases hu; done)))) HB4 (by first | exact of_decide_eq_true rfl | (simp; done) | decide) ?_)
  rintro w101 HX101 k101 z101
  have zs_k101 := k101.size
  replace E := E.step k101 (by intro i hi he; (try dsimp only [NoK] at hi he ⊢); first | exact he.elim | omega | exact he)
  replace HB1 := HB1.keep k101 (by intro h; (try dsimp only at h); first | omega)
  replace HB4 := HX101
  clear HX101
  try simp only [List.set_cons_zero, List.set_cons_succ, setAt, List.take_zero, List.take_succ_cons, List.drop_zero, List.drop_succ_cons, List.nil_append, List.cons_append, List.append_nil, List.length_cons, List.length_nil, Nat.zero_add, Nat.reduceAdd, List.drop_nil] at HB4
  refine l_v (v_assign (t := .int _ _) rfl) ?_
  refine l_nil ?_
  refine n_then ?_
  refine c_seq ?_
  refine c_seq ?_
  refine wp_reg (by decide +kernel) ?_
  refine l_v (v_move (t := .int _ _) rfl) ?_
  refine l_v (v_eql rfl rfl) ?_
  refine l_nil ?_
  refine n_then ?_
  refine c_cond rfl rfl (fun hc => ?_) (fun hc => ?_)
  · skip
    cases hc
  · skip
    refine c_skip ?_
    refine n_then ?_
    refine c_seq ?_
    refine wp_reg (by decide +kernel) ?_
    refine l_v (v_move (t := .int _ _) rfl) ?_
    refine l_v (v_assign (t := .int _ _) rfl) ?_
    refine l_nil ?_
    refine n_then ?_
    refine c_ret ?_
    refine ret1v rfl (by decide) (show _ = (Value.int _ _) from rfl) ?_
    exact ⟨rfl, E⟩
theorem Double_c {w : World} {G : Nat → Prop} {b c : Nat} {a : Option Addr} {ms : List Ms} {lost : Int} {n : Int} {m : Ms} (HB1 : Blk w b [.bool true, .slice a ms.length c, .int .i64 lost] 68) (HS1 : SlV tMs w G (.slice a ms.length c) ms) (hG : ∀ i, G i → i ≠ b) (hml : ms.length ≤ 256) (h0 : 0 ≤ n) (hx : ms[n.toNat]? = some m) (hm : mayN m = true) (hlo : 0 ≤ lost ∧ lost ≤ 4611686018427387904) : CallsR Try.prog 24 #[.pointer (some ⟨b, 0, none⟩), .int .i64 n] w (fun o w' => o = .int .i64 0 ∧
      (∃ a2 c2, Blk w' b [.bool true, .slice a2 (sendL ms [m]).length c2, .int .i64 (lost + (sendN ms [m] : Nat))] 68 ∧ SlV tMs w' (fun i => G i ∨ w.heap.size ≤ i) (.slice a2 (sendL ms [m]).length c2) (sendL ms [m])) ∧ Keep (fun i => i = b) w w') := by
  have zl1 := HB1.lt
  replace HS1 := HS1.mono (F' := fun i => G i ∧ i < w.heap.size) fun b hb h => ⟨h, hb⟩
  refine enter 20 Try.func24 rfl rfl (by simp) ?_
  refine c_seq ?_
  have E := Keep.refl (K := fun i => i = b) w
  refine wp_reg (by decide +kernel) ?_
  refine l_v (v_assign rfl) ?_
  refine l_nil ?_
  refine n_then ?_
  refine c_seq ?_
  refine wp_reg (by decide +kernel) ?_
  refine l_v (v_move (t := .pointer _) rfl) ?_
  refine l_v (v_move (t := .int _ _) rfl) ?_
  refine l_to (to_f2 (by kernel_rfl) (show _ = (Value.pointer _) from rfl) (show _ = (Value.int _ _) from rfl) (CallsR.mono (At_c HB1 HS1 h0 hx hm) ?_))
  rintro _ w3 ⟨⟨v3, rfl, HG3⟩, e3⟩
  have zs_e3 := e3.size
  replace HG3 := HG3.mono (F' := fun b => w.heap.size ≤ b ∧ b < w3.heap.size) fun b hb h => ⟨h, hb⟩
  obtain ⟨a9, c9, a10, c10, rfl, HS3, HS4, hw3⟩ := HG3.ms
  replace E := E.trans (Ext.keep e3)
  replace HB1 := HB1.ext e3
  replace HS1 := HS1.ext e3
  refine l_v (v_move (t := .tuple _) rfl) ?_
  refine l_v (v_extract (t := .agg _) rfl rfl) ?_
  refine l_v (v_extract (t := .int _ _) rfl rfl) ?_
  refine l_to (to_alloc (z := (.agg #[.int .i64 0, .int .i64 0, .int .i64 0, .int .i64 0, .int .i64 0, .int .i64 0, .int .i64 0, .int .i64 0, .slice none 0 0, .bool false, .slice none 0 0])) (by unfold kZero; kernel_rfl) ?_)
  rintro b4 w4 zb4 HB4 e4 z4
  have zs_e4 := e4.size
  replace E := E.trans (Ext.keep e4)
  replace HB1 := HB1.ext e4
  replace HS1 := HS1.ext e4
  replace HS3 := HS3.ext e4
  replace HS4 := HS4.ext e4
  try simp only [Value.cells] at HB4
  refine l_to (to_storeA (n := 11) rfl rfl (show _ = (Value.agg _) from rfl) (by kernel_rfl) rfl (by first | (simp [slice_one]; done) | (simp only [List.forall_mem_cons, List.cons_append, List.nil_append]; repeat' (first | exact rfl | apply And.intro | (intro u hu; cases hu; done)))) HB4 (by first | exact of_decide_eq_true rfl | (simp; done) | decide) ?_)
  rintro w101 HX101 k101 z101
  have zs_k101 := k101.size
  replace E := E.step k101 (by intro i hi he; have he0 := he; (try dsimp only [NoK] at hi he ⊢); (try simp only [Value.ownBlock, Option.some.injEq] at he); first | exact he.elim | omega | exact he | (first | (rcases hi with hi | hi; (have := hG _ hi; omega); omega) | (have := hG _ hi.1; omega) | (have := hi.2; omega)))
  replace HB1 := HB1.keep k101 (by intro h; have he0 := h; (try dsimp only at h); (try simp only [Value.ownBlock, Option.some.injEq] at h); first | omega | (have he := he0; first | (rcases hi with hi | hi; (have := hG _ hi; omega); omega) | (have := hG _ hi.1; omega) | (have := hi.2; omega)))
  replace HS1 := HS1.keep k101 (by intro i _ hi he; have he0 := he; (try dsimp only [NoK, AllB] at hi he); (try simp only [Value.ownBlock, Option.some.injEq] at he); first | exact hi.elim | exact he.elim | omega | (rcases hi with hi | hi <;> omega) | (rcases he with he | he <;> omega) | (first | (rcases hi with hi | hi; (have := hG _ hi; omega); omega) | (have := hG _ hi.1; omega) | (have := hi.2; omega)))
  replace HS3 := HS3.keep k101 (by intro i _ hi he; have he0 := he; (try dsimp only [NoK, AllB] at hi he); (try simp only [Value.ownBlock, Option.some.injEq] at he); first | exact hi.elim | exact he.elim | omega | (rcases hi with hi | hi <;> omega) | (rcases he with he | he <;> omega) | (first | (rcases hi with hi | hi; (have := hG _ hi; omega); omega) | (have := hG _ hi.1; omega) | (have := hi.2; omega)))
  replace HS4 := HS4.keep k101 (by intro i _ hi he; have he0 := he; (try dsimp only [NoK, AllB] at hi he); (try simp only [Value.ownBlock, Option.some.injEq] at he); first | exact hi.elim | exact he.elim | omega | (rcases hi with hi | hi <;> omega) | (rcases he with he | he <;> omega) | (first | (rcases hi with hi | hi; (have := hG _ hi; omega); omega) | (have := hG _ hi.1; omega) | (have := hi.2; omega)))
  replace HB4 := HX101
  clear HX101
  try simp only [List.set_cons_zero, List.set_cons_succ, setAt, List.take_zero, List.take_succ_cons, List.drop_zero, List.drop_succ_cons, List.nil_append, List.cons_append, List.append_nil, List.length_cons, List.length_nil, Nat.zero_add, Nat.reduceAdd, List.drop_nil] at HB4
  refine l_v (v_assign (t := .int _ _) rfl) ?_
  refine l_nil ?_
  refine n_then ?_
  refine c_seq ?_
  refine c_seq ?_
  refine wp_reg (by decide +kernel) ?_
  refine l_v (v_move (t := .int _ _) rfl) ?_
  refine l_v (v_eql rfl rfl) ?_
  refine l_nil ?_
  refine n_then ?_
  refine c_cond rfl rfl (fun hc => ?_) (fun hc => ?_)
  · skip
    refine wp_reg (by decide +kernel) ?_
    refine l_v (v_move (t := .pointer _) rfl) ?_
    refine l_v (v_loadA (by kernel_rfl) rfl (by first | exact HB4.pv | exact HB1.pv | assumption) rfl) ?_
    refine l_to (to_slice1 (t := tMs) (et := 26) (bytes := 120) (by kernel_rfl) (by decide) (show _ = (Value.agg _) from rfl) (tMs_mk HS3 HS4 hw3) ?_)
    rintro b9 w10 zb9 HO9 e10 z9
    have zs_e10 := e10.size
    replace E := E.trans (Ext.keep e10)
    replace HB1 := HB1.ext e10
    replace HS1 := HS1.ext e10
    replace HS3 := HS3.ext e10
    replace HS4 := HS4.ext e10
    replace HB4 := HB4.ext e10
    have zo_HO9 := fun (b : Nat) h => HO9.own_lt (b := b) h
    refine l_to (to_f2 (by kernel_rfl) (show _ = (Value.pointer _) from rfl) (show _ = (Value.slice _ _ _) from rfl) (CallsR.mono (Send_c HB1 HS1 HO9.view (fun i h => hG i h.1) hml (by simp) (by simpa using hm) hlo) ?_))
    rintro _ w12 ⟨rfl, ⟨a2, c2, HB1, HS2⟩, k12⟩
    have zs_k12 := k12.size
    replace E := E.step k12 (by intro i hi he; have he0 := he; (try dsimp only [NoK] at hi he ⊢); (try simp only [Value.ownBlock, Option.some.injEq] at he); first | exact he.elim | omega | exact he | (first | (rcases hi with hi | hi; (have := hG _ hi; omega); omega) | (have := hG _ hi.1; omega) | (have := hi.2; omega)))
    replace HS1 := HS1.keep k12 (by intro i _ hi he; have he0 := he; (try dsimp only [NoK, AllB] at hi he); (try simp only [Value.ownBlock, Option.some.injEq] at he); first | exact hi.elim | exact he.elim | omega | (rcases hi with hi | hi <;> omega) | (rcases he with he | he <;> omega) | (first | (rcases hi with hi | hi; (have := hG _ hi; omega); omega) | (have := hG _ hi.1; omega) | (have := hi.2; omega)))
    replace HB4 := HB4.keep k12 (by intro h; have he0 := h; (try dsimp only at h); (try simp only [Value.ownBlock, Option.some.injEq] at h); first | omega | (have he := he0; first | (rcases hi with hi | hi; (have := hG _ hi; omega); omega) | (have := hG _ hi.1; omega) | (have := hi.2; omega)))
    replace HO9 := HO9.keep k12 (by intro i ho he; have he0 := he; have ho0 := ho; (try dsimp only [NoK] at he); (try simp only [Value.ownBlock, Option.some.injEq, reduceCtorEq] at ho); (try simp only [Value.ownBlock, Option.some.injEq, reduceCtorEq] at he); first | exact he.elim | exact ho.elim | omega | (have := zo_HO9 _ ho0; omega)) (by intro i _ hi _ he; have he0 := he; have hi := hi; have he := he; (try dsimp only [NoK, AllB] at hi he); (try simp only [Value.ownBlock, Option.some.injEq, reduceCtorEq] at he); all_goals first | exact hi.elim | exact hi.1.elim | exact he.elim | omega | (rcases hi with hi | hi <;> omega) | (rcases he with he | he <;> omega) | (first | (rcases hi with hi | hi; (have := hG _ hi; omega); omega) | (have := hG _ hi.1; omega) | (have := hi.2; omega)))
    refine l_nil ?_
    refine n_then ?_
    refine c_seq ?_
    refine wp_reg (by decide +kernel) ?_
    refine l_v (v_move (t := .int _ _) rfl) ?_
    refine l_v (v_assign (t := .int _ _) rfl) ?_
    refine l_nil ?_
    refine n_then ?_
    refine c_ret ?_
    refine ret1v rfl (by decide) (show _ = (Value.int _ _) from rfl) ?_
    exact ⟨rfl, ⟨_, _, HB1, HS2.mono fun i _ h => Or.elim h (fun h => .inl h.1) (fun h => .inr (by omega))⟩, E⟩
  · skip
    cases hc
end Go.Proofs.Ytaidpdjlchnonaa
