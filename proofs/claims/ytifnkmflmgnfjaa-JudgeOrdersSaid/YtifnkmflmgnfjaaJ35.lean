/- A part of the proof: steps and lemmas for the walks through the given program. -/
import Derived.Test.YtifnkmflmgnfjaaJ34
import Derived.Test.YtifnkmflmgnfjaaJi
import Derived.Test.YtifnkmflmgnfjaaJ26
namespace Go.Proofs.Ytifnkmflmgnfjaa
open Go.Vc
set_option linter.unusedVariables false
set_option linter.unusedSimpArgs false
set_option maxRecDepth 100000

set_option maxHeartbeats 4000000 in
theorem JudgeOrders_c {w : World} {F : Nat → Prop} {v : Value} {l : List EvV} (HSl : SlV tEv w F v l) : CallsR Try.prog 7 #[v] w (fun o w' => o = .bool true ∧ Ext w w') := by
 obtain ⟨al, cl, rfl⟩ := HSl.shape
 refine enter 72 Try.func7 rfl rfl (by simp) ?_
 refine c_seq ?_
 have E := Keep.refl (K := NoK) w
 replace HSl := HSl.all
 refine wp_reg zd (l_v (v_assign rfl) (l_nil (n_then (c_seq (c_seq (wp_reg zd (l_v (zmS rfl) (l_to (to_f1 zk (zvS rfl) (CallsR.mono (much_c HSl) ?_))))))))))
 rintro _ w3 ⟨⟨b, rfl, hb⟩, e3⟩
 have := e3.size
 replace E := E.trans e3.keep
 replace HSl := HSl.ext e3
 refine l_nil (n_then (c_cond rfl rfl (fun hc => ?_) (fun hc => ?_)))
 ·
  refine c_seq (wp_reg zd (l_to (to_f0 zk (CallsR.mono (known_c) ?_))))
  rintro _ w101 ⟨rfl, e101⟩
  have := e101.size
  refine l_v (zaB rfl) (l_nil (n_then (c_ret (r_then (ret1v rfl zq (zvB rfl) ?_)))))
  replace E := E.trans e101.keep
  exact ⟨rfl, E⟩
 have hn := hb (by simpa using hc)
 refine c_skip (n_then (c_seq (wp_reg zd (l_v (zmS rfl) (l_to (to_f1 zk (zvS rfl) (CallsR.mono (Check_c HSl zo) ?_)))))))
 rintro _ w102 ⟨rfl, e102⟩
 have := e102.size
 refine l_v (zmT rfl) (l_v (v_extract (t := .int _ _) rfl rfl) (l_v (v_extract (t := .int _ _) rfl rfl) (l_v (zaI rfl) (l_v (zaI rfl) (l_nil (n_then (c_seq (wp_reg zd (l_v (zmS rfl) ?_)))))))))
 replace HSl := HSl.ext e102
 refine l_to (to_f1 zk (zvS rfl) (CallsR.mono (Order_c HSl zo) ?_))
 rintro _ w5 ⟨oa, oc, rfl, HSo, e5⟩
 have := e5.size
 replace HSo := HSo.all
 refine l_v (zmT rfl) (l_v (v_extract (t := .slice _ _ _) rfl rfl) (l_v (v_extract (t := .int _ _) rfl rfl) (l_v (zaS rfl) (l_v (zaI rfl) (l_nil (n_then (c_seq (wp_reg zd (l_v (zmS rfl) ?_)))))))))
 replace HSl := HSl.ext e5
 refine l_to (to_f1 zk (zvS rfl) (CallsR.mono (Map_c HSl zo) ?_))
 rintro _ w6 ⟨ma, mc, rfl, HSm, e6⟩
 have := e6.size
 replace HSm := HSm.all
 refine l_v (zmT rfl) (l_v (v_extract (t := .slice _ _ _) rfl rfl) (l_v (v_extract (t := .int _ _) rfl rfl) (l_v (zaS rfl) (l_v (zaI rfl) (l_nil (n_then (c_seq (wp_reg zd (l_v (zmS rfl) ?_)))))))))
 replace HSl := HSl.ext e6
 refine l_to (to_f1 zk (zvS rfl) (CallsR.mono (refJudge_c HSl zo) ?_))
 rintro _ w7 ⟨ob, od, mb, md, rfl, HSp, HSn, e7⟩
 have := e7.size
 replace HSp := HSp.all
 replace HSn := HSn.all
 refine l_v (zmT rfl) (l_v (v_extract (t := .int _ _) rfl rfl) (l_v (v_extract (t := .int _ _) rfl rfl) (l_v (v_extract (t := .slice _ _ _) rfl rfl) (l_v (v_extract (t := .slice _ _ _) rfl rfl) (l_v (zaI rfl) (l_v (zaI rfl) (l_v (zaS rfl) (l_v (zaS rfl) (l_nil ?_)))))))))
 refine n_then (c_seq (wp_reg zd (l_v (zmI rfl) (l_v (zmI rfl) (l_v (v_eql rfl rfl) ?_)))))
 refine l_v (zmB rfl) (l_g1 rfl rfl (fun hG => zmI rfl) (l_g1f rfl rfl (fun hG => to_f1 zk (gd hG rfl) (num_c)) ?_))
 rintro w103 e103
 have := e103.size
 refine l_g1 rfl rfl (fun hG => zmI rfl) (l_g1 rfl rfl (fun hG => v_eql (gd hG rfl) (gd hG rfl)) ?_)
 refine l_v (v_and rfl rfl) ?_
 refine l_v (zmB rfl) (l_g1 rfl rfl (fun hG => zmI rfl) (l_g1f rfl rfl (fun hG => to_f1 zk (gd hG rfl) (num_c)) ?_))
 rintro w104 e104
 have := e104.size
 refine l_g1 rfl rfl (fun hG => zmI rfl) (l_g1 rfl rfl (fun hG => v_eql (gd hG rfl) (gd hG rfl)) ?_)
 refine l_v (v_and rfl rfl) ?_
 refine l_v (zmB rfl) (l_g1 rfl rfl (fun hG => zmI rfl) (l_g1f rfl rfl (fun hG => to_f1 zk (gd hG rfl) (num_c)) ?_))
 rintro w105 e105
 have := e105.size
 refine l_g1 rfl rfl (fun hG => zmI rfl) (l_g1 rfl rfl (fun hG => v_eql (gd hG rfl) (gd hG rfl)) ?_)
 refine l_v (v_and rfl rfl) ?_
 replace HSo := ((((HSo.ext e6).ext e7).ext e103).ext e104).ext e105
 replace HSp := ((HSp.ext e103).ext e104).ext e105
 refine l_v (zmB rfl) (l_g1 rfl rfl (fun hG => zmS rfl) (l_g1 rfl rfl (fun hG => zmS rfl) (l_g1f rfl rfl (fun hG => to_f2 zk (gd hG rfl) (gd hG rfl) (ints_c HSo HSp)) ?_)))
 rintro w106 e106
 have := e106.size
 refine l_v (v_and rfl rfl) ?_
 replace HSm := ((((HSm.ext e7).ext e103).ext e104).ext e105).ext e106
 replace HSn := (((HSn.ext e103).ext e104).ext e105).ext e106
 refine l_v (zmB rfl) (l_g1 rfl rfl (fun hG => zmS rfl) (l_g1 rfl rfl (fun hG => zmS rfl) (l_g1f rfl rfl (fun hG => to_f2 zk (gd hG rfl) (gd hG rfl) (SameMap_c HSm HSn)) ?_)))
 rintro w107 e107
 have := e107.size
 refine l_v (v_and rfl rfl) ?_
 refine l_v (zmB rfl) (l_g1f rfl rfl (fun hG => to_f0 zk (known_c)) ?_)
 rintro w108 e108
 have := e108.size
 refine l_v (v_and rfl rfl) ?_
 refine l_v (zaB rfl) (l_nil (n_then (c_ret (ret1v rfl zq (zvB rfl) ?_))))
 replace E := (((((((((E.trans e102.keep).trans e5.keep).trans e6.keep).trans e7.keep).trans e103.keep).trans e104.keep).trans e105.keep).trans e106.keep).trans e107.keep).trans e108.keep
 refine ⟨?_, E⟩
 simp
end Go.Proofs.Ytifnkmflmgnfjaa
