/- A part of the proof: steps and lemmas for the walks through the given program. -/
import Derived.Test.YtifnkmflmgnfjaaJ25
namespace Go.Proofs.Ytifnkmflmgnfjaa
open Go.Vc
set_option linter.unusedVariables false
set_option linter.unusedSimpArgs false
set_option maxRecDepth 100000

theorem much_c {w : World} {F : Nat → Prop} {v : Value} {l : List EvV} (HSl : SlV tEv w F v l) : CallsR Try.prog 18 #[v] w (fun o w' => (∃ b, o = .bool b ∧ (b = false → l.length ≤ 80)) ∧ Ext w w') := by
 obtain ⟨al, cl, rfl⟩ := HSl.shape
 have hmx := HSl.len_max
 refine enter 31 Try.func18 rfl rfl (by simp) ?_
 refine c_seq ?_
 have E := Keep.refl (K := NoK) w
 replace HSl := HSl.all
 refine wp_reg zd (l_v (v_assign rfl) (l_nil (n_then (c_seq (c_seq (wp_reg zd (l_v (v_assign rfl) (l_nil (n_then ?_)))))))))
 refine c_block (c_loop (τ := Nat) [2, 3, 4, 5, 6, 7, 8, 9, 10, 11, 12, 13, 14, 15, 16, 17, 18, 19, 20, 21, 22, 23, 24, 25, 26, 27] (fun i => [(3, .int .i64 i)]) (fun i W => Ext w W ∧ Keep (NoK) w W ∧ i ≤ l.length) (fun i => l.length - i) 0 (by exact ⟨rfl, trivial⟩) (by exact ⟨E, Keep.refl _, Nat.zero_le _⟩) ?_)
 rintro i w101 j ⟨E, EL1, h1⟩
 have := EL1.size
 refine c_seq (c_seq (wp_reg zd (l_v (zmI rfl) (l_v (zmS rfl) (l_v (v_len (et := 44) zk rfl) ?_)))))
 refine l_v (v_lss rfl rfl) ?_
 refine l_v (zmB rfl) (l_g1 rfl rfl (fun hG => zmI rfl) (l_g1 rfl rfl (fun hG => v_lss (gd hG rfl) rfl) ?_))
 refine l_v (v_and rfl rfl) ?_
 replace HSl := HSl.ext EL1
 refine l_nil (n_then (c_cond rfl rfl (fun hlt => ?_) (fun hlt => ?_)))
 ·
  have hlt : i < l.length := by simp at hlt; omega
  obtain ⟨ev, hx, _⟩ := getE (l := l) (i := i) hlt
  obtain ⟨q, cs, hqq, hF, _, HPq, hr⟩ := HSl.el hx
  subst hqq
  obtain ⟨a1, c1, a2, c2, a3, c3, a4, c4, a5, c5, a6, c6, rfl, HGa, HGx, _⟩ := tEv_cells hr
  refine c_skip (n_then (c_seq (c_block (c_seq (wp_reg zd (l_v (zmS rfl) (l_v (zmI rfl) (l_v (v_indexAddr (et := 44) (sz := 13) (k := i) zk zk rfl rfl (by first | rfl | omega) zo) ?_))))))))
  refine l_v (v_fieldAddr (off := 3) (ft := 28) zk rfl) (l_v (v_loadA zk rfl (by first | exact (show Pv _ _ [_, _, _, _, _, _, _] from pv_sub 3 7 HPq) | exact pv_at 3 HPq | exact HPq | assumption) rfl) ?_)
  refine l_to (to_f2 zk (zvA rfl) (zvI rfl) (CallsR.mono (LongAsk_k HGa) ?_))
  rintro _ w102 ⟨rfl, e102⟩
  have := e102.size
  refine l_v (zmB rfl) (l_g1 rfl rfl (fun hG => zmS rfl) (l_g1 rfl rfl (fun hG => zmI rfl) (l_g1 rfl rfl (fun hG => v_indexAddr (et := 44) (sz := 13) (k := i) zk zk (gd hG rfl) (gd hG rfl) (by first | rfl | omega) zo) ?_)))
  refine l_g1 rfl rfl (fun hG => v_fieldAddr (off := 10) (ft := 31) zk (gd hG rfl)) ?_
  replace HPq := HPq.ext e102
  refine l_g1 rfl rfl (fun hG => v_loadA zk (gd hG rfl) (by first | exact (show Pv _ _ [_, _, _] from pv_sub 10 3 HPq) | exact pv_at 10 HPq | exact HPq | assumption) rfl) ?_
  replace HGx := HGx.ext e102
  refine l_g1f rfl rfl (fun hG => to_f2 zk (gd hG rfl) (zvI rfl) (Much_c (most := 3000) HGx zq)) ?_
  rintro w103 e103
  have := e103.size
  refine l_v (v_or rfl rfl) ?_
  replace E := (E.trans e102.keep).trans e103.keep
  replace HSl := (HSl.ext e102).ext e103
  replace EL1 := (EL1.trans e102.keep).trans e103.keep
  replace HGa := (HGa.ext e102).ext e103
  replace HPq := HPq.ext e103
  replace HGx := HGx.ext e103
  refine l_nil (n_then (c_cond rfl rfl (fun hc => ?_) (fun hc => ?_)))
  ·
   refine c_seq (wp_reg zd (l_v (v_assign rfl) (l_nil (n_then (c_ret (r_blk (r_then (r_then (r_blk ?_)))))))))
   refine r_then (ret1v rfl zq (zvB rfl) ?_)
   exact ⟨⟨true, rfl, fun h => by cases h⟩, E⟩
  refine c_skip (n_blk (n_then (wp_reg zd (l_v (zmI rfl) (l_v (v_add rfl rfl (by first | exact wr_i64 zo zo | rfl)) ?_)))))
  refine l_v (zaI rfl) (l_nil (n_then (⟨i + 1, _, rfl, by (repeat (first | exact Off.of_over _ _ _ | refine Off.upd ?_ zq _ | refine Off.overs ?_ zq _)), ⟨by first | rfl | exact congrArg (Value.int _) zo | (simp; done), trivial⟩, ⟨E, EL1, ?_⟩, ?_⟩)))
  ·
   omega
  (dsimp only; omega)
 refine c_exit (x_then (x_then (x_hit (n_then (c_seq (wp_reg zd (l_v (zmS rfl) (l_v (v_len (et := 44) zk rfl) ?_))))))))
 refine l_v (v_gtr rfl rfl) ?_
 refine l_v (zaB rfl) (l_nil (n_then (c_ret (ret1v rfl zq (zvB rfl) ?_))))
 refine ⟨⟨_, rfl, fun h => ?_⟩, E⟩
 have := of_decide_eq_false h; omega
end Go.Proofs.Ytifnkmflmgnfjaa
