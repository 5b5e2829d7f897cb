/- A part of the proof: steps and lemmas for the walks through the given program. -/
import Derived.Test.YtifnkmflmgnfjaaJ26
namespace Go.Proofs.Ytifnkmflmgnfjaa
open Go.Vc
set_option linter.unusedVariables false
set_option linter.unusedSimpArgs false
set_option maxRecDepth 100000

theorem JudgeRequests_c {w : World} {F : Nat → Prop} {v : Value} {n : Int} {l : List EvV} (HSl : SlV tEv w F v l) : CallsR Try.prog 5 #[v, .int .i64 n] w (fun o w' => o = .bool true ∧ Ext w w') := by
 obtain ⟨al, cl, rfl⟩ := HSl.shape
 refine enter 27 Try.func5 rfl rfl (by simp) ?_
 refine c_seq ?_
 have E := Keep.refl (K := NoK) w
 replace HSl := HSl.all
 refine wp_reg zd (l_v (v_assign rfl) (l_nil (n_then (c_seq (c_seq (wp_reg zd (l_v (zmS rfl) (l_to (to_f1 zk (zvS rfl) (CallsR.mono (much_c HSl) ?_))))))))))
 rintro _ w3 ⟨⟨b, rfl, hb⟩, e3⟩
 have := e3.size
 replace E := E.trans e3.keep
 replace HSl := HSl.ext e3
 refine l_nil (n_then (c_cond rfl rfl (fun hc => ?_) (fun hc => ?_)))
 ·
  refine c_seq (wp_reg zd (l_to (to_f0 zk (CallsR.mono (known_c) ?_))))
  rintro _ w101 ⟨rfl, e101⟩
  have := e101.size
  refine l_v (zaB rfl) (l_nil (n_then (c_ret (r_then (ret1v rfl zq (zvB rfl) ?_)))))
  replace E := E.trans e101.keep
  exact ⟨rfl, E⟩
 have hn := hb (by simpa using hc)
 refine c_skip (n_then (c_seq (wp_reg zd (l_v (zmS rfl) (l_to (to_f1 zk (zvS rfl) (CallsR.mono (refRequests_c HSl zo) ?_)))))))
 rintro _ w4 ⟨rv, rfl, HSr, e4⟩
 have := e4.size
 obtain ⟨ar, cr, rfl⟩ := HSr.shape
 refine l_v (zmT rfl) (l_v (v_extract (t := .slice _ _ _) rfl rfl) (l_v (v_extract (t := .int _ _) rfl rfl) (l_v (zaS rfl) (l_v (zaI rfl) (l_nil (n_then (c_seq (wp_reg zd (l_v (zmS rfl) ?_)))))))))
 replace HSl := HSl.ext e4
 refine l_v (zmS rfl) (l_v (zmI rfl) (l_to (to_f3 zk (zvS rfl) (zvS rfl) (zvI rfl) (CallsR.mono (once_c HSl HSr zo) ?_))))
 rintro _ w102 ⟨rfl, e102⟩
 have := e102.size
 replace HSl := HSl.ext e102
 replace HSr := HSr.ext e102
 refine l_v (zmB rfl) (l_g1 rfl rfl (fun hG => zmS rfl) (l_g1 rfl rfl (fun hG => zmS rfl) (l_g1f rfl rfl (fun hG => to_f3 zk (gd hG rfl) (gd hG rfl) (zvI rfl) (once_c HSl HSr zo)) ?_)))
 rintro w103 e103
 have := e103.size
 refine l_v (v_and rfl rfl) ?_
 refine l_v (zmB rfl) (l_g1f rfl rfl (fun hG => to_f0 zk (known_c)) ?_)
 rintro w104 e104
 have := e104.size
 refine l_v (v_and rfl rfl) ?_
 refine l_v (zaB rfl) (l_nil (n_then (c_ret (ret1v rfl zq (zvB rfl) ?_))))
 replace E := (((E.trans e4.keep).trans e102.keep).trans e103.keep).trans e104.keep
 exact ⟨rfl, E⟩
end Go.Proofs.Ytifnkmflmgnfjaa
