/- A part of the proof: steps and lemmas for the walks through the given program. -/
import Derived.Test.YteehplloacefmaaC7
namespace Go.Proofs.Yteehplloacefmaa
open Go.Vc
set_option linter.unusedVariables false
set_option linter.unusedSimpArgs false
set_option maxRecDepth 100000

theorem cm_eq {k k' g g' : Int} {rq rq' : RqV} {mv mv' : MvV} {en en' : List IkV} {an an' key key' : List UInt8} : decide ((k, rq, mv, en, an, key, g) = ((k', rq', mv', en', an', key', g') : CmV)) = (decide (k = k') && decide (rq = rq') && decide (mv = mv') && decide (en = en') && decide (an = an') && decide (key = key') && decide (g = g')) := by
  rw [Bool.eq_iff_iff]; simp only [decide_eq_true_eq, Bool.and_eq_true, Prod.mk.injEq, and_assoc]
theorem rq_eq {c c' n n' : Int} {a a' : AkV} : decide ((c, n, a) = ((c', n', a') : RqV)) = (decide (c = c') && decide (n = n') && decide (a = a')) := by
  rw [Bool.eq_iff_iff]; simp only [decide_eq_true_eq, Bool.and_eq_true, Prod.mk.injEq, and_assoc]
theorem CSame_c {w : World} {F G : Nat → Prop} {v u : Value} {c d : CmV} (HG01 : AgV tCm w F v c) (HG02 : AgV tCm w G u d) : CallsR Try.prog 40 #[v, u] w (fun o w' => o = .bool (decide (c = d)) ∧ Ext w w') := by
 obtain ⟨k, ⟨rc, rn, ra⟩, mv, en, an, key, g⟩ := c
 obtain ⟨k', ⟨rc', rn', ra'⟩, mv', en', an', key', g'⟩ := d
 obtain ⟨a1, c1, a2, c2, a3, c3, a4, c4, a5, c5, a6, c6, a7, c7, a8, c8, a9, c9, rfl, HG1, HG2, HSe, HSa, HSk, hik, hig⟩ := HG01.cm
 obtain ⟨b1, d1, b2, d2, b3, d3, b4, d4, b5, d5, b6, d6, b7, d7, b8, d8, b9, d9, rfl, HG3, HG4, HSf, HSb, HSl, hjk, hjg⟩ := HG02.cm
 clear HG01 HG02
 have HG5 := HG1.rqAk
 have HG6 := HG3.rqAk
 clear HG1 HG3
 refine enter 76 Try.func40 rfl rfl (by simp) ?_
 refine c_seq ?_
 have E := Keep.refl (K := NoK) w
 replace HG5 := HG5.all
 replace HG6 := HG6.all
 replace HG2 := HG2.all
 replace HG4 := HG4.all
 replace HSe := HSe.all
 replace HSa := HSa.all
 replace HSk := HSk.all
 replace HSf := HSf.all
 replace HSb := HSb.all
 replace HSl := HSl.all
 refine wp_reg zd (l_to (to_box (zvA rfl) ?_))
 rintro b31 w1 zb1 HB31 e1 z1
 have := e1.size
 try simp only [Value.cells] at HB31
 refine l_to (to_box (zvA rfl) ?_)
 rintro b32 w2 zb2 HB32 e2 z2
 have := e2.size
 try simp only [Value.cells] at HB32
 replace HB31 := HB31.ext e2
 refine l_v (v_assign rfl) (l_nil (n_then (c_seq (wp_reg zd (l_v (v_fieldAddr (off := 1) (ft := 37) zk rfl) (l_v (v_fieldAddr (off := 0) (ft := 3) zk rfl) (l_v (v_load zk rfl (by first | exact HB32.pv 1 _ rfl | exact HB31.pv 1 _ rfl | exact HB32.pv 0 _ rfl | exact HB31.pv 0 _ rfl | assumption)) ?_)))))))
 refine l_v (v_fieldAddr (off := 1) (ft := 37) zk rfl) (l_v (v_fieldAddr (off := 0) (ft := 3) zk rfl) (l_v (v_load zk rfl (by first | exact HB32.pv 1 _ rfl | exact HB31.pv 1 _ rfl | exact HB32.pv 0 _ rfl | exact HB31.pv 0 _ rfl | assumption)) ?_))
 refine l_v (v_eql rfl rfl) ?_
 refine l_v (zmB rfl) (l_g1 rfl rfl (fun hG => v_fieldAddr (off := 1) (ft := 37) zk rfl) ?_)
 refine l_g1 rfl rfl (fun hG => v_fieldAddr (off := 1) (ft := 2) zk (gd hG rfl)) ?_
 refine l_g1 rfl rfl (fun hG => v_load zk (gd hG rfl) (by first | exact HB32.pv 2 _ rfl | exact HB31.pv 2 _ rfl | exact HB32.pv 1 _ rfl | exact HB31.pv 1 _ rfl | assumption)) ?_
 refine l_g1 rfl rfl (fun hG => v_fieldAddr (off := 1) (ft := 37) zk rfl) ?_
 refine l_g1 rfl rfl (fun hG => v_fieldAddr (off := 1) (ft := 2) zk (gd hG rfl)) ?_
 refine l_g1 rfl rfl (fun hG => v_load zk (gd hG rfl) (by first | exact HB32.pv 2 _ rfl | exact HB31.pv 2 _ rfl | exact HB32.pv 1 _ rfl | exact HB31.pv 1 _ rfl | assumption)) ?_
 refine l_g1 rfl rfl (fun hG => v_eql (gd hG rfl) (gd hG rfl)) ?_
 refine l_v (v_and rfl rfl) ?_
 refine l_v (zmB rfl) (l_g1 rfl rfl (fun hG => v_fieldAddr (off := 1) (ft := 37) zk rfl) ?_)
 refine l_g1 rfl rfl (fun hG => v_fieldAddr (off := 2) (ft := 35) zk (gd hG rfl)) ?_
 refine l_g1 rfl rfl (fun hG => v_loadA zk (gd hG rfl) (by first | exact (show Pv _ _ [_, _, _, _, _, _, _] from pv_sub 3 7 HB32.pv) | exact (show Pv _ _ [_, _, _, _, _, _, _] from pv_sub 3 7 HB31.pv) | exact (show Pv _ _ [_, _, _, _, _, _, _] from pv_sub 2 7 HB32.pv) | exact (show Pv _ _ [_, _, _, _, _, _, _] from pv_sub 2 7 HB31.pv) | exact pv_at 2 HB32.pv | exact pv_at 2 HB31.pv | assumption) rfl) ?_
 refine l_g1 rfl rfl (fun hG => v_fieldAddr (off := 1) (ft := 37) zk rfl) ?_
 refine l_g1 rfl rfl (fun hG => v_fieldAddr (off := 2) (ft := 35) zk (gd hG rfl)) ?_
 refine l_g1 rfl rfl (fun hG => v_loadA zk (gd hG rfl) (by first | exact (show Pv _ _ [_, _, _, _, _, _, _] from pv_sub 3 7 HB32.pv) | exact (show Pv _ _ [_, _, _, _, _, _, _] from pv_sub 3 7 HB31.pv) | exact (show Pv _ _ [_, _, _, _, _, _, _] from pv_sub 2 7 HB32.pv) | exact (show Pv _ _ [_, _, _, _, _, _, _] from pv_sub 2 7 HB31.pv) | exact pv_at 2 HB32.pv | exact pv_at 2 HB31.pv | assumption) rfl) ?_
 replace HG5 := (HG5.ext e1).ext e2
 replace HG6 := (HG6.ext e1).ext e2
 refine l_g1f rfl rfl (fun hG => to_f2 zk (gd hG rfl) (gd hG rfl) (SameAsk_c HG5 HG6)) ?_
 rintro w101 e101
 have := e101.size
 refine l_v (v_and rfl rfl) ?_
 replace HB31 := HB31.ext e101
 replace HB32 := HB32.ext e101
 refine l_v (zaB rfl) (l_nil (n_then (c_seq (wp_reg zd (l_v (v_fieldAddr (off := 16) (ft := 40) zk rfl) (l_v (v_load zk rfl (by first | exact HB32.pv 16 _ rfl | exact HB31.pv 16 _ rfl | assumption)) ?_))))))
 refine l_v (v_fieldAddr (off := 16) (ft := 40) zk rfl) (l_v (v_load zk rfl (by first | exact HB32.pv 16 _ rfl | exact HB31.pv 16 _ rfl | assumption)) ?_)
 replace HSe := ((HSe.ext e1).ext e2).ext e101
 replace HSf := ((HSf.ext e1).ext e2).ext e101
 refine l_to (to_f3 zk (zvS rfl) (zvS rfl) rfl (CallsR.mono (EqualFuncI_c HSe HSf) ?_))
 rintro _ w102 ⟨rfl, e102⟩
 have := e102.size
 refine l_v (zmB rfl) (l_g1 rfl rfl (fun hG => v_fieldAddr (off := 17) (ft := 33) zk rfl) ?_)
 replace HB31 := HB31.ext e102
 replace HB32 := HB32.ext e102
 refine l_g1 rfl rfl (fun hG => v_load zk (gd hG rfl) (by first | exact HB32.pv 17 _ rfl | exact HB31.pv 17 _ rfl | assumption)) ?_
 refine l_g1 rfl rfl (fun hG => v_fieldAddr (off := 17) (ft := 33) zk rfl) ?_
 refine l_g1 rfl rfl (fun hG => v_load zk (gd hG rfl) (by first | exact HB32.pv 17 _ rfl | exact HB31.pv 17 _ rfl | assumption)) ?_
 replace HSa := (((HSa.ext e1).ext e2).ext e101).ext e102
 replace HSb := (((HSb.ext e1).ext e2).ext e101).ext e102
 refine l_g1f rfl rfl (fun hG => to_f2 zk (gd hG rfl) (gd hG rfl) (Equal_c HSa HSb)) ?_
 rintro w103 e103
 have := e103.size
 refine l_v (v_and rfl rfl) ?_
 refine l_v (zmB rfl) (l_g1 rfl rfl (fun hG => v_fieldAddr (off := 18) (ft := 33) zk rfl) ?_)
 replace HB31 := HB31.ext e103
 replace HB32 := HB32.ext e103
 refine l_g1 rfl rfl (fun hG => v_load zk (gd hG rfl) (by first | exact HB32.pv 18 _ rfl | exact HB31.pv 18 _ rfl | assumption)) ?_
 refine l_g1 rfl rfl (fun hG => v_fieldAddr (off := 18) (ft := 33) zk rfl) ?_
 refine l_g1 rfl rfl (fun hG => v_load zk (gd hG rfl) (by first | exact HB32.pv 18 _ rfl | exact HB31.pv 18 _ rfl | assumption)) ?_
 replace HSk := ((((HSk.ext e1).ext e2).ext e101).ext e102).ext e103
 replace HSl := ((((HSl.ext e1).ext e2).ext e101).ext e102).ext e103
 refine l_g1f rfl rfl (fun hG => to_f2 zk (gd hG rfl) (gd hG rfl) (Equal_c HSk HSl)) ?_
 rintro w104 e104
 have := e104.size
 refine l_v (v_and rfl rfl) ?_
 replace HB31 := HB31.ext e104
 replace HB32 := HB32.ext e104
 refine l_v (zaB rfl) (l_nil (n_then (c_seq (wp_reg zd (l_v (v_fieldAddr (off := 0) (ft := 31) zk rfl) (l_v (v_load zk rfl (by first | exact HB32.pv 0 _ rfl | exact HB31.pv 0 _ rfl | assumption)) ?_))))))
 refine l_v (v_fieldAddr (off := 0) (ft := 31) zk rfl) (l_v (v_load zk rfl (by first | exact HB32.pv 0 _ rfl | exact HB31.pv 0 _ rfl | assumption)) ?_)
 refine l_v (v_eql rfl rfl) ?_
 refine l_v (zmB rfl) (l_g1 rfl rfl (fun hG => v_fieldAddr (off := 19) (ft := 3) zk rfl) ?_)
 refine l_g1 rfl rfl (fun hG => v_load zk (gd hG rfl) (by first | exact HB32.pv 19 _ rfl | exact HB31.pv 19 _ rfl | assumption)) ?_
 refine l_g1 rfl rfl (fun hG => v_fieldAddr (off := 19) (ft := 3) zk rfl) ?_
 refine l_g1 rfl rfl (fun hG => v_load zk (gd hG rfl) (by first | exact HB32.pv 19 _ rfl | exact HB31.pv 19 _ rfl | assumption)) ?_
 refine l_g1 rfl rfl (fun hG => v_eql (gd hG rfl) (gd hG rfl)) ?_
 refine l_v (v_and rfl rfl) ?_
 refine l_v (zmB rfl) (l_g1 rfl rfl (fun hG => zmB rfl) (l_v (v_and rfl rfl) ?_))
 refine l_v (zmB rfl) (l_g1 rfl rfl (fun hG => v_fieldAddr (off := 10) (ft := 39) zk rfl) ?_)
 refine l_g1 rfl rfl (fun hG => v_loadA zk (gd hG rfl) (by first | exact (show Pv _ _ [_, _, _, _, _, _] from pv_sub 10 6 HB32.pv) | exact (show Pv _ _ [_, _, _, _, _, _] from pv_sub 10 6 HB31.pv) | exact pv_at 10 HB32.pv | exact pv_at 10 HB31.pv | assumption) rfl) ?_
 refine l_g1 rfl rfl (fun hG => v_fieldAddr (off := 10) (ft := 39) zk rfl) ?_
 refine l_g1 rfl rfl (fun hG => v_loadA zk (gd hG rfl) (by first | exact (show Pv _ _ [_, _, _, _, _, _] from pv_sub 10 6 HB32.pv) | exact (show Pv _ _ [_, _, _, _, _, _] from pv_sub 10 6 HB31.pv) | exact pv_at 10 HB32.pv | exact pv_at 10 HB31.pv | assumption) rfl) ?_
 replace HG2 := (((((HG2.ext e1).ext e2).ext e101).ext e102).ext e103).ext e104
 replace HG4 := (((((HG4.ext e1).ext e2).ext e101).ext e102).ext e103).ext e104
 refine l_g1f rfl rfl (fun hG => to_f2 zk (gd hG rfl) (gd hG rfl) (SameMove_c HG2 HG4)) ?_
 rintro w105 e105
 have := e105.size
 refine l_v (v_and rfl rfl) ?_
 refine l_v (zmB rfl) (l_g1 rfl rfl (fun hG => zmB rfl) (l_v (v_and rfl rfl) ?_))
 refine l_v (zaB rfl) (l_nil (n_then (c_ret (ret1v rfl zq (zvB rfl) ?_))))
 replace E := ((((((E.trans e1.keep).trans e2.keep).trans e101.keep).trans e102.keep).trans e103.keep).trans e104.keep).trans e105.keep
 refine ⟨?_, E⟩
 rw [cm_eq, rq_eq]
 congr 1; rw [Bool.eq_iff_iff]; simp only [Bool.and_eq_true, decide_eq_true_eq, beq_iff_eq, and_assoc]
 exact ⟨fun ⟨a, b, c, d, e, f, g, h, i⟩ => ⟨a, c, d, e, f, g, h, i, b⟩, fun ⟨a, c, d, e, f, g, h, i, b⟩ => ⟨a, b, c, d, e, f, g, h, i⟩⟩
theorem CMay_c {w : World} {F : Nat → Prop} {v : Value} {c : CmV} (HG1 : AgV tCm w F v c) : CallsR Try.prog 14 #[v] w (fun o w' => o = .bool (mayCm c) ∧ Ext w w') := by
 obtain ⟨k, rq, mv, en, an, key, g⟩ := c
 obtain ⟨a1, c1, a2, c2, a3, c3, a4, c4, a5, c5, a6, c6, a7, c7, a8, c8, a9, c9, hv0, _⟩ := HG1.cm
 subst hv0
 refine enter 16 Try.func14 rfl rfl (by simp) ?_
 refine c_seq ?_
 have E := Keep.refl (K := NoK) w
 replace HG1 := HG1.all
 refine wp_reg zd (l_to (to_box (zvA rfl) ?_))
 rintro b31 w1 zb1 HB31 e1 z1
 have := e1.size
 try simp only [Value.cells] at HB31
 refine l_v (v_assign rfl) (l_nil (n_then (c_seq (wp_reg zd (l_v (v_loadA zk rfl (by first | exact HB31.pv | assumption) rfl) ?_)))))
 replace HG1 := HG1.ext e1
 refine l_to (to_f1 zk (zvA rfl) (CallsR.mono (named_c HG1) ?_))
 rintro _ w2 ⟨⟨u2, rfl, HG2⟩, e2⟩
 have := e2.size
 obtain ⟨⟨k', rq', mv', en', an', key', g'⟩, hnm⟩ : ∃ x, x = (nmdC (k, rq, mv, en, an, key, g)).1 := ⟨_, rfl⟩
 rw [← hnm] at HG2
 obtain ⟨b1, d1, b2, d2, b3, d3, b4, d4, b5, d5, b6, d6, b7, d7, b8, d8, b9, d9, rfl, _⟩ := HG2.cm
 refine l_v (zmT rfl) (l_v (v_extract (t := .agg _) rfl rfl) (l_v (v_extract (t := .bool _) rfl rfl) (l_to (to_alloc (z := (.agg #[.int .i64 0, .int .i64 0, .int .i64 0, .int .i64 0, .slice none 0 0, .slice none 0 0, .slice none 0 0, .slice none 0 0, .bool false, .int .i64 0, .int .i64 0, .slice none 0 0, .slice none 0 0, .bool false, .int .i64 0, .int .i64 0, .slice none 0 0, .slice none 0 0, .slice none 0 0, .int .i64 0])) (by unfold kZero; kernel_rfl) ?_))))
 rintro b33 w3 zb3 HB33 e3 z3
 have := e3.size
 try simp only [Value.cells] at HB33
 refine l_to (to_storeA (n := 20) rfl rfl (zvA rfl) zk rfl dj6 HB33 dj5 ?_)
 rintro w101 HX101 k101 z101
 have := k101.size
 replace HB33 := HX101
 clear HX101
 try simp only [zS, Nat.zero_add, Nat.reduceAdd, List.drop_nil] at HB33
 replace HB31 := ((HB31.ext e2).ext e3).keep k101 dj4
 refine l_v (zaB rfl) (l_nil (n_then (c_seq (wp_reg zd (l_v (zmB rfl) (l_v (zmB rfl) (l_g1 rfl rfl (fun hG => v_loadA zk rfl (by first | exact HB33.pv | exact HB31.pv | assumption) rfl) ?_)))))))
 refine l_g1 rfl rfl (fun hG => v_loadA zk rfl (by first | exact HB33.pv | exact HB31.pv | assumption) rfl) ?_
 replace HG1 := ((HG1.ext e2).ext e3).keep k101 dj1
 replace HG2 := (HG2.ext e3).keep k101 dj1
 refine l_g1f rfl rfl (fun hG => to_f2 zk (gd hG rfl) (gd hG rfl) (CSame_c HG2 HG1)) ?_
 rintro w102 e102
 have := e102.size
 refine l_v (v_and rfl rfl) ?_
 refine l_v (zaB rfl) (l_nil (n_then (c_ret (ret1v rfl zq (zvB rfl) ?_))))
 replace E := ((((E.trans e1.keep).trans e2.keep).trans e3.keep).step k101 dj3).trans e102.keep
 refine ⟨?_, E⟩
 unfold mayCm; rw [← hnm]
end Go.Proofs.Yteehplloacefmaa
