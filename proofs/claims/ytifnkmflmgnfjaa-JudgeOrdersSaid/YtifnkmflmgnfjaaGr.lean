/- A part of the proof: steps and lemmas for the walks through the given program. -/
import Derived.Test.YtifnkmflmgnfjaaGe
import Derived.Test.YtifnkmflmgnfjaaProg
namespace Go.Proofs.Ytifnkmflmgnfjaa
open Go.Vc
set_option linter.unusedVariables false
set_option linter.unusedSimpArgs false
set_option maxRecDepth 100000

theorem Compare_c {w : World} {F G : Nat → Prop} {v u : Value} {x y : List UInt8} (HS1 : Bv w F v x) (HS2 : Bv w G u y) : CallsR Try.prog 38 #[v, u] w (fun r w' => r = .int .i64 (cmpB x y) ∧ Ext w w') := by
  obtain ⟨a1, c1, rfl⟩ := HS1.shape
  obtain ⟨a2, c2, rfl⟩ := HS2.shape
  refine enter 8 Try.func38 rfl rfl (by simp) ?_
  refine c_seq ?_
  have E := Keep.refl (K := NoK) w
  replace HS1 := HS1.all
  replace HS2 := HS2.all
  refine wp_reg zd (l_v (v_assign rfl) (l_nil (n_then (c_seq (wp_reg zd (l_v (zmS rfl) (l_v (zmS rfl) (l_v (to_cmp ⟨_, rfl, zk, zk, zk, zk⟩ rfl rfl (by first | exact HS2 | exact HS1 | assumption) (by first | exact HS2 | exact HS1 | assumption)) ?_))))))))
  refine l_v (zaI rfl) (l_nil (n_then (c_ret (ret1v rfl zq (zvI rfl) ?_))))
  exact ⟨rfl, E⟩
theorem Equal_c {w : World} {F G : Nat → Prop} {v u : Value} {x y : List UInt8} (HS1 : Bv w F v x) (HS2 : Bv w G u y) : CallsR Try.prog 63 #[v, u] w (fun r w' => r = .bool (decide (x = y)) ∧ Ext w w') := by
  obtain ⟨a1, c1, rfl⟩ := HS1.shape
  obtain ⟨a2, c2, rfl⟩ := HS2.shape
  refine enter 10 Try.func63 rfl rfl (by simp) ?_
  refine c_seq ?_
  have E := Keep.refl (K := NoK) w
  replace HS1 := HS1.all
  replace HS2 := HS2.all
  refine wp_reg zd (l_v (v_assign rfl) (l_nil (n_then (c_seq (wp_reg zd (l_v (zmS rfl) (l_v (v_b2s (et := 5) zk zk zk rfl HS1) ?_)))))))
  refine l_v (zmS rfl) (l_v (v_b2s (et := 5) zk zk zk rfl HS2) ?_)
  refine l_v (v_seq rfl rfl) ?_
  refine l_v (zaB rfl) (l_nil (n_then (c_ret (ret1v rfl zq (zvB rfl) ?_))))
  exact ⟨rfl, E⟩
/-- bytes in new memory; none where there were none -/
theorem Clone_c {w : World} {F : Nat → Prop} {v : Value} {x : List UInt8} (HS1 : Bv w F v x) (hl : x.length ≤ 140737488355328) : CallsR Try.prog 78 #[v] w (fun r w' => OwV tU8 5 w' w.heap.size NoK r x ∧ Ext w w') := by
  obtain ⟨a1, c1, rfl⟩ := HS1.shape
  have hmx := HS1.max
  simp only [maxLen] at hmx
  refine enter 8 Try.func78 rfl rfl (by simp) ?_
  refine c_seq ?_
  have E := Keep.refl (K := NoK) w
  replace HS1 := HS1.all
  refine wp_reg zd (l_v (v_assign rfl) (l_nil (n_then (c_seq (c_seq (wp_reg zd (l_v (zmS rfl) (l_v (v_sleneq (et := 5) zk rfl rfl) ?_))))))))
  refine l_nil (n_then (c_cond rfl rfl (fun hc => ?_) (fun hc => ?_)))
  · skip
    refine c_seq (wp_reg zd (l_v (v_assign rfl) (l_nil (n_then (c_ret (r_then (ret1v rfl zq (zvS rfl) ?_)))))))
    have hn : a1 = none := by simpa using hc
    subst hn
    obtain ⟨a, c, hv, _, _, h3, _⟩ := HS1
    cases hv
    have : x = [] := List.eq_nil_of_length_eq_zero (by have := h3 rfl; omega)
    subst this
    exact ⟨OwV.nil _ _ _ _ _, E⟩
  · skip
    refine c_skip (n_then (c_seq (wp_reg zd (l_to (to_slice0 (t := tU8) (et := 5) (bytes := 1) zk ?_)))))
    rintro b2 w2 zb2 HO2 e2 z2
    have zs_e2 := e2.size
    replace E := E.trans (Ext.keep e2)
    replace HS1 := HS1.ext e2
    have zo_HO2 := fun (b : Nat) h => HO2.own_lt (b := b) h
    refine l_v (zmS rfl) (l_to (to_append (et := 5) (bytes := 1) zk (zvS rfl) HO2 (zvS rfl) HS1 (flat_u8.to) (by first | omega | (simp; done) | (simp; omega)) (by simp only [maxLen]; first | omega | (simp; done) | (simp; omega)) zo ?_))
    rintro a3 n3 c3 w3 HO3 hn3 k3 h3 i3
    have zs_k3 := k3.size
    replace E := E.step k3 (by intro i hi he; have he0 := he; (try dsimp only [NoK] at hi he ⊢); (try simp only [Value.ownBlock, Option.some.injEq] at he); first | exact he.elim | omega | exact he | (have := (HO2).own_lt he0; omega) | (have := zo_HO2 _ he0; omega) | (have := (HO2).own_lt he0; rcases hi with hi | hi <;> omega))
    replace HS1 := HS1.keep k3 (by intro i _ hi he; have he0 := he; (try dsimp only [NoK, AllB] at hi he); (try simp only [Value.ownBlock, Option.some.injEq] at he); first | exact hi.elim | exact he.elim | omega | (rcases hi with hi | hi <;> omega) | (rcases he with he | he <;> omega) | (have := (HO2).own_lt he0; omega) | (have := zo_HO2 _ he0; omega) | (have := (HO2).own_lt he0; rcases hi with hi | hi <;> omega))
    have zo_HO3 := fun (b : Nat) h => HO3.own_lt (b := b) h
    refine l_v (zaS rfl) (l_nil (n_then (c_ret (ret1v rfl zq (zvS rfl) ?_))))
    subst hn3
    exact ⟨HO3.base zo, E⟩
end Go.Proofs.Ytifnkmflmgnfjaa

namespace Go.Proofs.Ytifnkmflmgnfjaa
open Go.Vc
set_option linter.unusedVariables false
set_option linter.unusedSimpArgs false
set_option maxRecDepth 100000

end Go.Proofs.Ytifnkmflmgnfjaa

namespace Go.Proofs.Ytifnkmflmgnfjaa
open Go.Vc
set_option linter.unusedVariables false
set_option linter.unusedSimpArgs false
set_option maxRecDepth 100000

end Go.Proofs.Ytifnkmflmgnfjaa
