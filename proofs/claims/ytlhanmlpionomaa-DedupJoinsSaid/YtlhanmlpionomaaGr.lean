/- A part of the proof: steps and lemmas for the walks through the given program. -/
import Derived.Test.YtlhanmlpionomaaGe
import Derived.Test.YtlhanmlpionomaaProg
namespace Go.Proofs.Ytlhanmlpionomaa
open Go.Vc
set_option linter.unusedVariables false
set_option linter.unusedSimpArgs false
set_option maxRecDepth 100000

theorem Equal_c {w : World} {F G : Nat → Prop} {v u : Value} {x y : List UInt8} (HS1 : Bv w F v x) (HS2 : Bv w G u y) : CallsR Try.prog 53 #[v, u] w (fun r w' => r = .bool (decide (x = y)) ∧ Ext w w') := by
  obtain ⟨a1, c1, rfl⟩ := HS1.shape
  obtain ⟨a2, c2, rfl⟩ := HS2.shape
  refine enter 10 Try.func53 rfl rfl (by simp) ?_
  refine c_seq ?_
  have E := Keep.refl (K := NoK) w
  replace HS1 := HS1.all
  replace HS2 := HS2.all
  refine wp_reg (by decide +kernel) ?_
  refine l_v (v_assign rfl) ?_
  refine l_nil ?_
  refine n_then ?_
  refine c_seq ?_
  refine wp_reg (by decide +kernel) ?_
  refine l_v (v_move (t := .slice _ _ _) rfl) ?_
  refine l_v (v_b2s (et := 5) (by kernel_rfl) (by kernel_rfl) (by kernel_rfl) rfl HS1) ?_
  refine l_v (v_move (t := .slice _ _ _) rfl) ?_
  refine l_v (v_b2s (et := 5) (by kernel_rfl) (by kernel_rfl) (by kernel_rfl) rfl HS2) ?_
  refine l_v (v_seq rfl rfl) ?_
  refine l_v (v_assign (t := .bool _) rfl) ?_
  refine l_nil ?_
  refine n_then ?_
  refine c_ret ?_
  refine ret1v rfl (by decide) (show _ = (Value.bool _) from rfl) ?_
  exact ⟨rfl, E⟩
/-- bytes in new memory; none where there were none -/
theorem Clone_c {w : World} {F : Nat → Prop} {v : Value} {x : List UInt8} (HS1 : Bv w F v x) (hl : x.length ≤ 140737488355328) : CallsR Try.prog 65 #[v] w (fun r w' => OwV tU8 5 w' w.heap.size NoK r x ∧ Ext w w') := by
  obtain ⟨a1, c1, rfl⟩ := HS1.shape
  have hmx := HS1.max
  simp only [maxLen] at hmx
  refine enter 8 Try.func65 rfl rfl (by simp) ?_
  refine c_seq ?_
  have E := Keep.refl (K := NoK) w
  replace HS1 := HS1.all
  refine wp_reg (by decide +kernel) ?_
  refine l_v (v_assign rfl) ?_
  refine l_nil ?_
  refine n_then ?_
  refine c_seq ?_
  refine c_seq ?_
  refine wp_reg (by decide +kernel) ?_
  refine l_v (v_move (t := .slice _ _ _) rfl) ?_
  refine l_v (v_sleneq (et := 5) (by kernel_rfl) rfl rfl) ?_
  refine l_nil ?_
  refine n_then ?_
  refine c_cond rfl rfl (fun hc => ?_) (fun hc => ?_)
  · skip
    refine c_seq ?_
    refine wp_reg (by decide +kernel) ?_
    refine l_v (v_assign rfl) ?_
    refine l_nil ?_
    refine n_then ?_
    refine c_ret ?_
    refine r_then ?_
    refine ret1v rfl (by decide) (show _ = (Value.slice _ _ _) from rfl) ?_
    have hn : a1 = none := by simpa using hc
    subst hn
    obtain ⟨a, c, hv, _, _, h3, _⟩ := HS1
    cases hv
    have : x = [] := List.eq_nil_of_length_eq_zero (by have := h3 rfl; omega)
    subst this
    exact ⟨OwV.nil _ _ _ _ _, E⟩
  · skip
    refine c_skip ?_
    refine n_then ?_
    refine c_seq ?_
    refine wp_reg (by decide +kernel) ?_
    refine l_to (to_slice0 (t := tU8) (et := 5) (bytes := 1) (by kernel_rfl) ?_)
    rintro b2 w2 zb2 HO2 e2 z2
    have zs_e2 := e2.size
    replace E := E.trans (Ext.keep e2)
    replace HS1 := HS1.ext e2
    have zo_HO2 := fun (b : Nat) h => HO2.own_lt (b := b) h
    refine l_v (v_move (t := .slice _ _ _) rfl) ?_
    refine l_to (to_append (et := 5) (bytes := 1) (by kernel_rfl) (show _ = (Value.slice _ _ _) from rfl) HO2 (show _ = (Value.slice _ _ _) from rfl) HS1 (flat_u8.to) (by first | omega | (simp; done) | (simp; omega)) (by simp only [maxLen]; first | omega | (simp; done) | (simp; omega)) (by omega) ?_)
    rintro a3 n3 c3 w3 HO3 hn3 k3 h3 i3
    have zs_k3 := k3.size
    replace E := E.step k3 (by intro i hi he; have he0 := he; (try dsimp only [NoK] at hi he ⊢); (try simp only [Value.ownBlock, Option.some.injEq] at he); first | exact he.elim | omega | exact he | (have := (HO2).own_lt he0; omega) | (have := zo_HO2 _ he0; omega) | (have := (HO2).own_lt he0; rcases hi with hi | hi <;> omega))
    replace HS1 := HS1.keep k3 (by intro i _ hi he; have he0 := he; (try dsimp only [NoK, AllB] at hi he); (try simp only [Value.ownBlock, Option.some.injEq] at he); first | exact hi.elim | exact he.elim | omega | (rcases hi with hi | hi <;> omega) | (rcases he with he | he <;> omega) | (have := (HO2).own_lt he0; omega) | (have := zo_HO2 _ he0; omega) | (have := (HO2).own_lt he0; rcases hi with hi | hi <;> omega))
    have zo_HO3 := fun (b : Nat) h => HO3.own_lt (b := b) h
    refine l_v (v_assign (t := .slice _ _ _) rfl) ?_
    refine l_nil ?_
    refine n_then ?_
    refine c_ret ?_
    refine ret1v rfl (by decide) (show _ = (Value.slice _ _ _) from rfl) ?_
    subst hn3
    exact ⟨HO3.base (by omega), E⟩
end Go.Proofs.Ytlhanmlpionomaa
