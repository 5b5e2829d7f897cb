/- A part of the proof: steps and lemmas for the walks through the given program. -/
import Derived.Test.YtaidpdjlchnonaaN7
namespace Go.Proofs.Ytaidpdjlchnonaa
open Go.Vc
set_option linter.unusedVariables false
set_option linter.unusedSimpArgs false
set_option maxRecDepth 100000

theorem Len_c {w : World} {F : Nat → Prop} {a : Option Addr} {c bw : Nat} {y : Value} {ms : List Ms} (HB1 : Blk w bw [.bool true, .slice a ms.length c, y] 68) (HS1 : SlV tMs w F (.slice a ms.length c) ms) (hmay : ∀ m ∈ ms, mayN m = true) : CallsR Try.prog 25 #[.pointer (some ⟨bw, 0, none⟩)] w (fun o w' => o = .int .i64 (ms.length : Nat) ∧ Ext w w') := by
  have zl1 := HB1.lt
  have hmx := HS1.len_max
  refine enterM 11 Try.func25 rfl rfl (by simp) ?_
  refine c_seq ?_
  have E := Keep.refl (K := NoK) w
  replace HS1 := HS1.all
  refine wp_reg (by decide +kernel) ?_
  refine l_v (v_assign rfl) ?_
  refine l_nil ?_
  refine n_then ?_
  refine c_seq ?_
  refine wp_reg (by decide +kernel) ?_
  refine l_to (to_alloc (z := (.int .i64 0)) (by unfold kZero; kernel_rfl) ?_)
  rintro b3 w3 zb3 HB3 e3 z3
  have zs_e3 := e3.size
  replace E := E.trans (Ext.keep e3)
  replace HB1 := HB1.ext e3
  replace HS1 := HS1.ext e3
  try simp only [Value.cells] at HB3
  refine l_to (to_store rfl rfl (show _ = (Value.int _ _) from rfl) rfl (by kernel_rfl) HB3 (by first | exact of_decide_eq_true rfl | (simp; done) | decide) ?_)
  rintro w101 HX101 k101 z101
  have zs_k101 := k101.size
  replace E := E.step k101 (by intro i hi he; (try dsimp only [NoK] at hi he ⊢); first | exact he.elim | omega | exact he)
  replace HB1 := HB1.keep k101 (by intro h; (try dsimp only at h); first | omega)
  replace HS1 := HS1.keep k101 (by intro i _ hi he; (try dsimp only [NoK, AllB] at hi he); first | exact hi.elim | exact he.elim | omega | (rcases hi with hi | hi <;> omega) | (rcases he with he | he <;> omega))
  replace HB3 := HX101
  clear HX101
  try simp only [List.set_cons_zero, List.set_cons_succ, setAt, List.take_zero, List.take_succ_cons, List.drop_zero, List.drop_succ_cons, List.nil_append, List.cons_append, List.append_nil, List.length_cons, List.length_nil, Nat.zero_add, Nat.reduceAdd, List.drop_nil] at HB3
  refine l_nil ?_
  refine n_then ?_
  refine c_seq ?_
  refine c_seq ?_
  refine wp_reg (by decide +kernel) ?_
  refine l_v (v_move (t := .pointer _) rfl) ?_
  refine l_to (to_f1 (by kernel_rfl) (show _ = (Value.pointer _) from rfl) (CallsR.mono (All_c) ?_))
  rintro _ w4 ⟨b4, hb4, rfl, HB4, z4, e4⟩
  have zs_e4 := e4.size
  replace E := E.trans (Ext.keep e4)
  replace HB1 := HB1.ext e4
  replace HS1 := HS1.ext e4
  replace HB3 := HB3.ext e4
  refine l_nil ?_
  refine n_then ?_
  refine c_block ?_
  simp only [Value.cells] at HB4
  refine c_rangeY (N := 11) rfl (show _ = (Value.func _ _ _) from rfl) (by kernel_rfl) (by decide) E (fun x => [.int .i64 (x.1 : Int), .agg x.2.toArray]) (fun _ => rfl) (yAll w4.heap.size ms) (fun xs => xs.length = ms.length) (fun _ => True) (fun i => i = b3) (fun i h => by have h := h; (try dsimp only at h); omega) ((All1_seq (K := fun i => i = b3 ∨ b4 + 1 ≤ i) HB1 HS1 HB4 (fun i h => by omega) (by omega) (by omega) hmay).mono (fun i h => by omega)) (fun pre W => Blk W b3 [.int .i64 (pre.length : Int)] 3 ∧ pre.length ≤ ms.length) (fun c pre W => False) (fun s W W' t h => ⟨h.1.turn t, h.2⟩) (fun c s W W' t h => h) (⟨HB3, Nat.zero_le _⟩) (fun pre x e1 W => Holds [(3, .pointer (some ⟨b3, 0, none⟩))] e1 ∧ pre.length < ms.length) (fun pre x e1 W W' t h => h) ?_ ?_ ?_ ?_
  · skip
    rintro l pre x w102 E EK hY ⟨HB3, hp1⟩
    have zs_EK102 := EK.size
    have zs_E102 := E.size
    replace HB1 := HB1.keep EK (by intro h; (try dsimp only at h); first | omega)
    replace HS1 := HS1.keep EK (by intro i _ hi he; (try dsimp only [NoK, AllB] at hi he); first | exact hi.elim | exact he.elim | omega | (rcases hi with hi | hi <;> omega) | (rcases he with he | he <;> omega))
    obtain ⟨hxn, hzz, r, hxr, hr⟩ := hY
    have hlt := (List.getElem?_eq_some_iff.1 hxr).1
    have EL1 := Keep.refl (K := NoK) w102
    refine c_skip ?_
    refine n_then ?_
    exact ⟨_, rfl, EL1, ⟨HB3, hp1⟩, ⟨rfl, trivial⟩, by omega⟩
  · skip
    rintro l pre x e1 w103 E EK ⟨HB3, hp1⟩ ⟨hh, hlt⟩
    have zs_EK103 := EK.size
    have zs_E103 := E.size
    replace HB1 := HB1.keep EK (by intro h; (try dsimp only at h); first | omega)
    replace HS1 := HS1.keep EK (by intro i _ hi he; (try dsimp only [NoK, AllB] at hi he); first | exact hi.elim | exact he.elim | omega | (rcases hi with hi | hi <;> omega) | (rcases he with he | he <;> omega))
    obtain ⟨jj, rfl⟩ : ∃ j, e1 = updL _ j := ⟨_, hh.upd⟩
    have EL1 := Keep.refl (K := fun i => i = b3) w103
    refine c_block ?_
    refine wp_reg (by decide +kernel) ?_
    refine l_v (v_load (by kernel_rfl) rfl (by first | exact HB3.cell rfl | exact HB1.cell rfl | assumption)) ?_
    refine l_v (v_add rfl rfl (by first | exact wr_i64 (by omega) (by omega) | rfl)) ?_
    refine l_to (to_store rfl rfl (show _ = (Value.int _ _) from rfl) rfl (by kernel_rfl) HB3 (by first | exact of_decide_eq_true rfl | (simp; done) | decide) ?_)
    rintro w104 HX104 k104 z104
    have zs_k104 := k104.size
    replace HB1 := HB1.keep k104 (by intro h; (try dsimp only at h); first | omega)
    replace HS1 := HS1.keep k104 (by intro i _ hi he; (try dsimp only [NoK, AllB] at hi he); first | exact hi.elim | exact he.elim | omega | (rcases hi with hi | hi <;> omega) | (rcases he with he | he <;> omega))
    replace E := E.step k104 (by intro i hi he; (try dsimp only [NoK] at hi he ⊢); first | exact he.elim | omega | exact he)
    replace EL1 := EL1.step k104 (by intro i hi he; (try dsimp only [NoK] at hi he ⊢); first | exact he.elim | omega | exact he)
    replace HB3 := HX104
    clear HX104
    try simp only [List.set_cons_zero, List.set_cons_succ, setAt, List.take_zero, List.take_succ_cons, List.drop_zero, List.drop_succ_cons, List.nil_append, List.cons_append, List.append_nil, List.length_cons, List.length_nil, Nat.zero_add, Nat.reduceAdd, List.drop_nil] at HB3
    refine l_nil ?_
    refine n_blk ?_
    refine ⟨EL1, ?_⟩
    exact ⟨by simpa using HB3, by simp; omega⟩
  · skip
    rintro D xs w105 hD E EK hS ⟨HB3, hp1⟩ HD
    have zs_EK105 := EK.size
    have zs_E105 := E.size
    replace HB1 := HB1.keep EK (by intro h; (try dsimp only at h); first | omega)
    replace HS1 := HS1.keep EK (by intro i _ hi he; (try dsimp only [NoK, AllB] at hi he); first | exact hi.elim | exact he.elim | omega | (rcases hi with hi | hi <;> omega) | (rcases he with he | he <;> omega))
    refine n_blk ?_
    refine n_then ?_
    refine c_seq ?_
    refine wp_reg (by decide +kernel) ?_
    refine l_v (v_load (by kernel_rfl) rfl (by first | exact HB3.cell rfl | exact HB1.cell rfl | assumption)) ?_
    refine l_v (v_assign (t := .int _ _) rfl) ?_
    refine l_nil ?_
    refine n_then ?_
    refine c_ret ?_
    refine retM1v HD rfl (by decide) (show _ = (Value.int _ _) from rfl) ?_
    have E := keep_put E (by omega : w.heap.size ≤ D) (.deferred none)
    exact ⟨by rw [hS], E⟩
  · skip
    rintro D _ pre W hD E EK hpre h HD; exact h.elim
end Go.Proofs.Ytaidpdjlchnonaa
