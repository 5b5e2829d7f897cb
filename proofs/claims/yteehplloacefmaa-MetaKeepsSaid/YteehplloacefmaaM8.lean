/- A part of the proof: steps and lemmas for the walks through the given program. -/
import Derived.Test.YteehplloacefmaaM7
namespace Go.Proofs.Yteehplloacefmaa
open Go.Vc
set_option linter.unusedVariables false
set_option linter.unusedSimpArgs false
set_option maxRecDepth 100000

theorem SameKey_c {w : World} {F G : Nat → Prop} {v u : Value} {x y : List UInt8} (HS1 : Bv w F v x) (HS2 : Bv w G u y) : CallsR Try.prog 25 #[v, u] w (fun o w' => o = .bool (decide (x = y)) ∧ Ext w w') := by
  obtain ⟨a, c, rfl⟩ := HS1.shape
  obtain ⟨a2, c2, rfl⟩ := HS2.shape
  refine enter 10 Try.func25 rfl rfl (by simp) ?_
  refine c_seq ?_
  have E := Keep.refl (K := NoK) w
  replace HS1 := HS1.all
  replace HS2 := HS2.all
  refine wp_reg zd (l_v (v_assign rfl) (l_nil (n_then (c_seq (wp_reg zd (l_v (zmS rfl) (l_v (v_b2s (et := 5) zk zk zk rfl HS1) ?_)))))))
  refine l_v (zmS rfl) (l_v (v_b2s (et := 5) zk zk zk rfl HS2) ?_)
  refine l_v (v_seq rfl rfl) ?_
  refine l_v (zaB rfl) (l_nil (n_then (c_ret (ret1v rfl zq (zvB rfl) ?_))))
  exact ⟨rfl, E⟩
theorem rSameMove_c {w : World} {F G : Nat → Prop} {v u : Value} {a b : MvV} (HG1 : AgV tMv w F v a) (HG2 : AgV tMv w G u b) : CallsR Try.prog 18 #[v, u] w (fun o w' => o = .bool (decide (a = b)) ∧ Ext w w') := by
 obtain ⟨n, f, t, d, og, ng⟩ := a
 obtain ⟨n', f', t', d', og', ng'⟩ := b
 obtain ⟨a1, c1, a2, c2, rfl, HS1, HS2, hi1, hi2, hi3⟩ := HG1.mv
 obtain ⟨a3, c3, a4, c4, rfl, HS3, HS4, hj1, hj2, hj3⟩ := HG2.mv
 simp only [] at HS1 HS2 HS3 HS4
 refine enter 45 Try.func18 rfl rfl (by simp) ?_
 refine c_seq ?_
 have E := Keep.refl (K := NoK) w
 replace HS1 := HS1.all
 replace HS2 := HS2.all
 replace HS3 := HS3.all
 replace HS4 := HS4.all
 refine wp_reg zd (l_to (to_box (zvA rfl) ?_))
 rintro b101 w101 zb101 HB101 e101 z101
 have := e101.size
 try simp only [Value.cells] at HB101
 refine l_to (to_box (zvA rfl) ?_)
 rintro b102 w102 zb102 HB102 e102 z102
 have := e102.size
 try simp only [Value.cells] at HB102
 replace HB101 := HB101.ext e102
 refine l_v (v_assign rfl) (l_nil (n_then (c_seq (wp_reg zd (l_v (v_fieldAddr (off := 0) (ft := 2) zk rfl) (l_v (v_load zk rfl (by first | exact HB102.pv 0 _ rfl | exact HB101.pv 0 _ rfl | assumption)) ?_))))))
 refine l_v (v_fieldAddr (off := 0) (ft := 2) zk rfl) (l_v (v_load zk rfl (by first | exact HB102.pv 0 _ rfl | exact HB101.pv 0 _ rfl | assumption)) ?_)
 refine l_v (v_eql rfl rfl) ?_
 refine l_v (zmB rfl) (l_g1 rfl rfl (fun hG => v_fieldAddr (off := 1) (ft := 33) zk rfl) ?_)
 refine l_g1 rfl rfl (fun hG => v_load zk (gd hG rfl) (by first | exact HB102.pv 1 _ rfl | exact HB101.pv 1 _ rfl | assumption)) ?_
 refine l_g1 rfl rfl (fun hG => v_fieldAddr (off := 1) (ft := 33) zk rfl) ?_
 refine l_g1 rfl rfl (fun hG => v_load zk (gd hG rfl) (by first | exact HB102.pv 1 _ rfl | exact HB101.pv 1 _ rfl | assumption)) ?_
 replace HS1 := (HS1.ext e101).ext e102
 replace HS3 := (HS3.ext e101).ext e102
 refine l_g1f rfl rfl (fun hG => to_f2 zk (gd hG rfl) (gd hG rfl) (SameKey_c HS1 HS3)) ?_
 rintro w103 e103
 have := e103.size
 refine l_v (v_and rfl rfl) ?_
 refine l_v (zmB rfl) (l_g1 rfl rfl (fun hG => v_fieldAddr (off := 2) (ft := 33) zk rfl) ?_)
 replace HB101 := HB101.ext e103
 replace HB102 := HB102.ext e103
 refine l_g1 rfl rfl (fun hG => v_load zk (gd hG rfl) (by first | exact HB102.pv 2 _ rfl | exact HB101.pv 2 _ rfl | assumption)) ?_
 refine l_g1 rfl rfl (fun hG => v_fieldAddr (off := 2) (ft := 33) zk rfl) ?_
 refine l_g1 rfl rfl (fun hG => v_load zk (gd hG rfl) (by first | exact HB102.pv 2 _ rfl | exact HB101.pv 2 _ rfl | assumption)) ?_
 replace HS2 := ((HS2.ext e101).ext e102).ext e103
 replace HS4 := ((HS4.ext e101).ext e102).ext e103
 refine l_g1f rfl rfl (fun hG => to_f2 zk (gd hG rfl) (gd hG rfl) (SameKey_c HS2 HS4)) ?_
 rintro w104 e104
 have := e104.size
 refine l_v (v_and rfl rfl) ?_
 refine l_v (zmB rfl) (l_g1 rfl rfl (fun hG => v_fieldAddr (off := 3) (ft := 4) zk rfl) ?_)
 replace HB101 := HB101.ext e104
 replace HB102 := HB102.ext e104
 refine l_g1 rfl rfl (fun hG => v_load zk (gd hG rfl) (by first | exact HB102.pv 3 _ rfl | exact HB101.pv 3 _ rfl | assumption)) ?_
 refine l_g1 rfl rfl (fun hG => v_fieldAddr (off := 3) (ft := 4) zk rfl) ?_
 refine l_g1 rfl rfl (fun hG => v_load zk (gd hG rfl) (by first | exact HB102.pv 3 _ rfl | exact HB101.pv 3 _ rfl | assumption)) ?_
 refine l_g1 rfl rfl (fun hG => v_beql zk (gd hG rfl) (gd hG rfl)) ?_
 refine l_v (v_and rfl rfl) ?_
 refine l_v (zmB rfl) (l_g1 rfl rfl (fun hG => v_fieldAddr (off := 4) (ft := 3) zk rfl) ?_)
 refine l_g1 rfl rfl (fun hG => v_load zk (gd hG rfl) (by first | exact HB102.pv 4 _ rfl | exact HB101.pv 4 _ rfl | assumption)) ?_
 refine l_g1 rfl rfl (fun hG => v_fieldAddr (off := 4) (ft := 3) zk rfl) ?_
 refine l_g1 rfl rfl (fun hG => v_load zk (gd hG rfl) (by first | exact HB102.pv 4 _ rfl | exact HB101.pv 4 _ rfl | assumption)) ?_
 refine l_g1 rfl rfl (fun hG => v_eql (gd hG rfl) (gd hG rfl)) ?_
 refine l_v (v_and rfl rfl) ?_
 refine l_v (zmB rfl) (l_g1 rfl rfl (fun hG => v_fieldAddr (off := 5) (ft := 3) zk rfl) ?_)
 refine l_g1 rfl rfl (fun hG => v_load zk (gd hG rfl) (by first | exact HB102.pv 5 _ rfl | exact HB101.pv 5 _ rfl | assumption)) ?_
 refine l_g1 rfl rfl (fun hG => v_fieldAddr (off := 5) (ft := 3) zk rfl) ?_
 refine l_g1 rfl rfl (fun hG => v_load zk (gd hG rfl) (by first | exact HB102.pv 5 _ rfl | exact HB101.pv 5 _ rfl | assumption)) ?_
 refine l_g1 rfl rfl (fun hG => v_eql (gd hG rfl) (gd hG rfl)) ?_
 refine l_v (v_and rfl rfl) ?_
 refine l_v (zaB rfl) (l_nil (n_then (c_ret (ret1v rfl zq (zvB rfl) ?_))))
 replace E := (((E.trans e101.keep).trans e102.keep).trans e103.keep).trans e104.keep
 refine ⟨?_, E⟩
 congr 1
 rw [Bool.eq_iff_iff, decide_eq_true_eq]
 simp only [Prod.mk.injEq]
 cases d <;> cases d' <;> simp [and_assoc]
end Go.Proofs.Yteehplloacefmaa
