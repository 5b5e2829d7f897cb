/- A part of the proof: steps and lemmas for the walks through the given program. -/
import Derived.Test.YtogafjlbpodgjaaGreatCd
import Derived.Test.YtogafjlbpodgjaaGreatCy
namespace Go.Proofs.YtogafjlbpodgjaaGreat
open Go.Vc
set_option linter.unusedVariables false
set_option linter.unusedSimpArgs false
set_option maxRecDepth 100000

def cm0 : List Value := [.int .i64 0, .int .i64 0, .int .i64 0, .int .i64 0, .slice none 0 0, .slice none 0 0, .slice none 0 0, .slice none 0 0, .bool false, .int .i64 0, .int .i64 0, .slice none 0 0, .slice none 0 0, .bool false, .int .i64 0, .int .i64 0, .slice none 0 0, .slice none 0 0, .slice none 0 0, .int .i64 0]
theorem rec_p {w : World} {b2 b3 : Nat} {cs2 : List Value} {e0 : Value} (HB2 : Blk w b2 cs2 33) (hl2 : cs2.length = 20) (HB3 : Blk w b3 [e0] 36) (hne : b2 ≠ b3) :
    CallsDIn (Fw none) 0 Tryz.prog 33 #[.pointer (some ⟨b2, 0, none⟩), .pointer (some ⟨b3, 0, none⟩)] (.panicking nonE) w (fun en u' w' => en = .returned (.tuple #[]) ∧ u' = .panicking [{ v := .iface 64 (.agg #[]), recovered := true }] ∧ Blk w' b2 cm0 33 ∧ Blk w' b3 [.int .i64 4] 36 ∧ Keep (fun k => k = b2 ∨ k = b3) w w') := by
  have zl2 := HB2.lt
  have zl3 := HB3.lt
  refine enterR (l := [.pointer (some ⟨b2, 0, none⟩), .pointer (some ⟨b3, 0, none⟩)]) 11 0 Tryz.func33 rfl rfl (by simp) fun c₀ cs hu => ?_
  refine wpSIn_seq (wpSIn_region ?_)
  show wpOpsSIn _ _ _ _ _ [0, 1, 2, 3, 4, 5, 6, 7] _ _ _
  refine ws_rec (v := .iface 64 (.agg #[])) (cs' := { c₀ with mode := .panicking [{ v := .iface 64 (.agg #[]), recovered := true }] } :: cs) rfl rfl rfl ⟨_, rfl⟩ (by simp [recoverD, hu]) ?_
  refine ws_op rfl zd rfl (opS_v (v_taY zk rfl) ?_)
  refine ws_op rfl zd rfl (opS_v (zmT rfl) ?_)
  refine ws_op rfl zd rfl (opS_v (v_extract (t := .agg _) rfl rfl) ?_)
  refine ws_op rfl zd rfl (opS_v (v_extract (t := .bool _) rfl rfl) ?_)
  refine ws_op rfl zd rfl (opS_alloc (to_alloc (z := .agg #[]) (by unfold kZero; kernel_rfl) fun b4 w4 zb4 HB4 e4 z4 => ?_))
  have hb4 : b2 < b4 ∧ b3 < b4 := by omega
  refine ws_op rfl zd rfl (opS_store (to_storeA (n := 0) rfl rfl rfl zk rfl (one_all (by rfl)) HB4 (Nat.le_refl _) fun w5 HB5 k5 z5 => ?_))
  refine ws_op rfl zd rfl (opS_v (zaB rfl) ?_)
  have HC2 := (HB2.ext e4).keep k5 (by intro h; omega)
  have HC3 := (HB3.ext e4).keep k5 (by intro h; omega)
  refine ws_nil ?_
  show (Code.seq _ _).wpSIn _ _ _ _ _ _ _
  refine wpSIn_seq (wpSIn_region ?_)
  show wpOpsSIn _ _ _ _ _ [0] _ _ _
  refine ws_op rfl zd rfl (opS_v (zmB rfl) ?_)
  refine ws_nil ?_
  show (Code.cond _ _ _).wpSIn _ _ _ _ _ _ _
  refine wpSIn_cond (t := true) ?_ ?_
  · exact frD_eval (x := .tmp 9) zq
  rw [if_pos rfl]
  refine wpSIn_region ?_
  show wpOpsSIn _ _ _ _ _ [0, 1, 2] _ _ _
  refine ws_op rfl zd rfl (opS_v (v_build (pl := [(0, 1), (1, 9), (10, 6), (16, 1), (17, 1), (18, 1), (19, 1)]) (z := .agg #[.int .i64 0, .int .i64 0, .int .i64 0, .int .i64 0, .slice none 0 0, .slice none 0 0, .slice none 0 0, .slice none 0 0, .bool false, .int .i64 0, .int .i64 0, .slice none 0 0, .slice none 0 0, .bool false, .int .i64 0, .int .i64 0, .slice none 0 0, .slice none 0 0, .slice none 0 0, .int .i64 0]) (zl := [.int .i64 0, .int .i64 0, .int .i64 0, .int .i64 0, .slice none 0 0, .slice none 0 0, .slice none 0 0, .slice none 0 0, .bool false, .int .i64 0, .int .i64 0, .slice none 0 0, .slice none 0 0, .bool false, .int .i64 0, .int .i64 0, .slice none 0 0, .slice none 0 0, .slice none 0 0, .int .i64 0]) zk (by unfold kZero; kernel_rfl) rfl rfl (cells := [_, _, _, _, _, _, _, _, _, _, _, _, _, _, _, _, _, _, _, _]) rfl) ?_)
  refine ws_op rfl zd rfl (opS_store (to_storeA (n := 20) rfl rfl rfl zk rfl (one_all (by rfl)) HC2 (by rw [hl2]; exact Nat.le_refl _) fun w6 HB6 k6 z6 => ?_))
  have HC3 := HC3.keep k6 (by intro h; exact hne h.symm)
  refine ws_op rfl zd rfl (opS_store (to_store rfl rfl rfl rfl zk HC3 (by simp) fun w7 HB7 k7 z7 => ?_))
  have HC6 := HB6.keep k7 (by intro h; exact hne h)
  refine ws_nil ⟨rfl, _, rfl, .tuple #[], ?_, rfl, rfl, ?_, HB7, ?_⟩
  · rw [results_none rfl]
  · have h9 : setAt cs2 0 (#[.int .i64 0, .int .i64 0, .int .i64 0, .int .i64 0, .slice none 0 0, .slice none 0 0, .slice none 0 0, .slice none 0 0, .bool false, .int .i64 0, .int .i64 0, .slice none 0 0, .slice none 0 0, .bool false, .int .i64 0, .int .i64 0, .slice none 0 0, .slice none 0 0, .slice none 0 0, .int .i64 0] : Array Value).toList = cm0 := by
      rw [setAt_all (by rw [hl2]; rfl)]; rfl
    rw [h9] at HC6
    exact HC6
  · exact (((Ext.keep e4).step k5 fun i hi h => by omega).trans (k6.mono fun i _ h => .inl h)).trans (k7.mono fun i _ h => .inr h)
/-- nothing to recover -/
theorem rec_r {w : World} {b2 b3 : Nat} : CallsDIn (Fw none) 0 Tryz.prog 33 #[.pointer (some ⟨b2, 0, none⟩), .pointer (some ⟨b3, 0, none⟩)] .returning w (fun en u' w' => en = .returned (.tuple #[]) ∧ u' = .returning ∧ Ext w w') := by
  refine enterR (l := [.pointer (some ⟨b2, 0, none⟩), .pointer (some ⟨b3, 0, none⟩)]) 11 0 Tryz.func33 rfl rfl (by simp) fun c₀ cs hu => ?_
  refine wpSIn_seq (wpSIn_region ?_)
  show wpOpsSIn _ _ _ _ _ [0, 1, 2, 3, 4, 5, 6, 7] _ _ _
  refine ws_rec (v := .nilIface) (cs' := c₀ :: cs) rfl rfl rfl ⟨_, rfl⟩ (by simp [recoverD, hu]) ?_
  refine ws_op rfl zd rfl (opS_v (v_taN (z := .agg #[]) zk (by unfold kZero; kernel_rfl) rfl) ?_)
  refine ws_op rfl zd rfl (opS_v (zmT rfl) ?_)
  refine ws_op rfl zd rfl (opS_v (v_extract (t := .agg _) rfl rfl) ?_)
  refine ws_op rfl zd rfl (opS_v (v_extract (t := .bool _) rfl rfl) ?_)
  refine ws_op rfl zd rfl (opS_alloc (to_alloc (z := .agg #[]) (by unfold kZero; kernel_rfl) fun b4 w4 zb4 HB4 e4 z4 => ?_))
  refine ws_op rfl zd rfl (opS_store (to_storeA (n := 0) rfl rfl rfl zk rfl (one_all (by rfl)) HB4 (Nat.le_refl _) fun w5 HB5 k5 z5 => ?_))
  refine ws_op rfl zd rfl (opS_v (zaB rfl) ?_)
  refine ws_nil ?_
  show (Code.seq _ _).wpSIn _ _ _ _ _ _ _
  refine wpSIn_seq (wpSIn_region ?_)
  show wpOpsSIn _ _ _ _ _ [0] _ _ _
  refine ws_op rfl zd rfl (opS_v (zmB rfl) ?_)
  refine ws_nil ?_
  show (Code.cond _ _ _).wpSIn _ _ _ _ _ _ _
  refine wpSIn_cond (t := false) ?_ ?_
  · exact frD_eval (x := .tmp 9) zq
  rw [if_neg zq]
  refine wpSIn_of_wpIn rfl (wpIn_skip ?_)
  refine ⟨rfl, .returning, ?_, .tuple #[], ?_, rfl, rfl, ?_⟩
  · cases c₀; simp_all
  · rw [results_none rfl]
  · exact e4.step k5 fun i hi h => by omega
end Go.Proofs.YtogafjlbpodgjaaGreat
