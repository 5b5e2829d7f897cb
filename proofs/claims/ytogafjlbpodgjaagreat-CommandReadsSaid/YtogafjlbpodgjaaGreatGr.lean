/- A part of the proof: steps and lemmas for the walks through the given program. -/
import Derived.Test.YtogafjlbpodgjaaGreatGe
import Derived.Test.YtogafjlbpodgjaaGreatProg
namespace Go.Proofs.YtogafjlbpodgjaaGreat
open Go.Vc
set_option linter.unusedVariables false
set_option linter.unusedSimpArgs false
set_option maxRecDepth 100000

theorem Compare_c {w : World} {F G : Nat → Prop} {v u : Value} {x y : List UInt8} (HS1 : Bv w F v x) (HS2 : Bv w G u y) : CallsR Tryz.prog 56 #[v, u] w (fun r w' => r = .int .i64 (cmpB x y) ∧ Ext w w') := by
  obtain ⟨a1, c1, rfl⟩ := HS1.shape
  obtain ⟨a2, c2, rfl⟩ := HS2.shape
  refine enter 8 Tryz.func56 rfl rfl (by simp) ?_
  refine c_seq ?_
  have E := Keep.refl (K := NoK) w
  replace HS1 := HS1.all
  replace HS2 := HS2.all
  refine wp_reg zd (l_v (v_assign rfl) (l_nil (n_then (c_seq (wp_reg zd (l_v (zmS rfl) (l_v (zmS rfl) (l_v (to_cmp ⟨_, rfl, zk, zk, zk, zk⟩ rfl rfl (by first | exact HS2 | exact HS1 | assumption) (by first | exact HS2 | exact HS1 | assumption)) ?_))))))))
  refine l_v (zaI rfl) (l_nil (n_then (c_ret (ret1v rfl zq (zvI rfl) ?_))))
  exact ⟨rfl, E⟩
theorem Equal_c {w : World} {F G : Nat → Prop} {v u : Value} {x y : List UInt8} (HS1 : Bv w F v x) (HS2 : Bv w G u y) : CallsR Tryz.prog 96 #[v, u] w (fun r w' => r = .bool (decide (x = y)) ∧ Ext w w') := by
  obtain ⟨a1, c1, rfl⟩ := HS1.shape
  obtain ⟨a2, c2, rfl⟩ := HS2.shape
  refine enter 10 Tryz.func96 rfl rfl (by simp) ?_
  refine c_seq ?_
  have E := Keep.refl (K := NoK) w
  replace HS1 := HS1.all
  replace HS2 := HS2.all
  refine wp_reg zd (l_v (v_assign rfl) (l_nil (n_then (c_seq (wp_reg zd (l_v (zmS rfl) (l_v (v_b2s (et := 5) zk zk zk rfl HS1) ?_)))))))
  refine l_v (zmS rfl) (l_v (v_b2s (et := 5) zk zk zk rfl HS2) ?_)
  refine l_v (v_seq rfl rfl) ?_
  refine l_v (zaB rfl) (l_nil (n_then (c_ret (ret1v rfl zq (zvB rfl) ?_))))
  exact ⟨rfl, E⟩
end Go.Proofs.YtogafjlbpodgjaaGreat

namespace Go.Proofs.YtogafjlbpodgjaaGreat
open Go.Vc
set_option linter.unusedVariables false
set_option linter.unusedSimpArgs false
set_option maxRecDepth 100000

end Go.Proofs.YtogafjlbpodgjaaGreat

namespace Go.Proofs.YtogafjlbpodgjaaGreat
open Go.Vc
set_option linter.unusedVariables false
set_option linter.unusedSimpArgs false
set_option maxRecDepth 100000

end Go.Proofs.YtogafjlbpodgjaaGreat
