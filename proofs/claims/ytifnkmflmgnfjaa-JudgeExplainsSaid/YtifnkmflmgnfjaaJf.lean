/- A part of the proof: steps and lemmas for the walks through the given program. -/
import Derived.Test.YtifnkmflmgnfjaaJ10
namespace Go.Proofs.Ytifnkmflmgnfjaa
open Go.Vc
set_option linter.unusedVariables false
set_option linter.unusedSimpArgs false
set_option maxRecDepth 100000

theorem same_ps {l ps : List PrV} : decide (((0 : Int), l, ([] : List UInt8)) = (0, ps, [])) = decide (ps = l) := by
  by_cases h : ps = l
  · subst h; simp
  · rw [decide_eq_false h, decide_eq_false (fun e => h (by cases e; rfl))]
end Go.Proofs.Ytifnkmflmgnfjaa

namespace Go.Proofs.Ytifnkmflmgnfjaa
open Go.Vc
set_option linter.unusedVariables false
set_option linter.unusedSimpArgs false
set_option maxRecDepth 100000

theorem an_ok {x : AnV} (h : mayAn x = true) : x.2.1.length ≤ 32 ∧ ∀ p ∈ x.2.1, p.1.length ≤ 1000000 ∧ p.2.length ≤ 1000000 := by
  obtain ⟨_, h2, _, h4⟩ := mayAn_iff.1 h
  exact ⟨h2, fun p hp => by have := h4 p hp; omega⟩
theorem doM_len {m : MapV} {a : AkV} (ha : mayAk a = true) : (doM m a).1.length ≤ m.length + 1 := by
  obtain ⟨k, key, to, val, was, no, most⟩ := a
  have h1 : (setM m key val).length ≤ m.length + 1 := by
    have := posM_le m key
    simp only [setM, List.length_append, List.length_cons, List.length_take, List.length_drop]
    split <;> omega
  have h2 : (delM m key).length ≤ m.length + 1 := by
    simp only [delM, List.length_append, List.length_take, List.length_drop]
    omega
  simp only [doM]
  repeat' split
  all_goals first | exact h1 | exact h2 | (simp only []; omega)
theorem Do_c {w : World} {F : Nat → Prop} {vm va : Value} {m : MapV} {a : AkV} (HSm : SlV tPr w F vm m) (HG1 : AgV tAk w F va a) (hm : mayMp m = true) (hn : m.length ≤ 800000) (ha : mayAk a = true) :
    CallsR Try.prog 34 #[vm, va] w (fun o w' => ∃ u x, o = .tuple #[u, x, .int .i64 0] ∧ SlV tPrF w' (fun b => w.heap.size ≤ b) u (doM m a).1 ∧ AgV tAn w' (FxB F w.heap.size) x (doM m a).2 ∧ Ext w w') := by
 obtain ⟨n0, hn0⟩ : ∃ n, n = w.heap.size := ⟨_, rfl⟩
 obtain ⟨a1, c1, a2, c2, a3, c3, a4, c4, rfl, _⟩ := HG1.ak
 obtain ⟨am, cm, rfl⟩ := HSm.shape
 replace HSm := HSm.lt
 replace HG1 := HG1.mono (F' := fun b => F b ∧ b < w.heap.size) fun b hb h => ⟨h, hb⟩
 rw [← hn0] at HSm HG1
 have hmd := doM_may hm ha
 have hld := doM_len (m := m) ha
 have hok := an_ok (doM_an hm ha).1
 have hod : ∀ p ∈ (doM m a).1, p.1.length ≤ 1000000 ∧ p.2.length ≤ 1000000 := fun p hp => by have := okP_len (mayMp_ok hmd p hp); omega
 obtain ⟨mo, hmo⟩ : ∃ x, x = (doM m a).1 := ⟨_, rfl⟩
 obtain ⟨xo, hxo⟩ : ∃ x, x = (doM m a).2 := ⟨_, rfl⟩
 refine enter 31 Try.func34 rfl rfl (by simp) ?_
 refine c_seq ?_
 have E := Keep.refl (K := NoK) w
 refine wp_reg zd (l_to (to_box (zvA rfl) ?_))
 rintro b1 w1 zb1 HB1 e1 z1
 have := e1.size
 try simp only [Value.cells] at HB1
 refine l_v (v_assign rfl) (l_to (to_alloc (z := (.agg #[.int .i64 0, .slice none 0 0, .slice none 0 0])) (by unfold kZero; kernel_rfl) ?_))
 rintro b2 w2 zb2 HB2 e2 z2
 have := e2.size
 try simp only [Value.cells] at HB2
 replace HSm := (HSm.ext e1).ext e2
 refine l_v (v_assign rfl) (l_nil (n_then (c_seq (c_seq (wp_reg zd (l_v (zmS rfl) (l_to (to_f1 zk (zvS rfl) (CallsR.mono (MayMap_c HSm) ?_)))))))))
 rintro _ w101 ⟨rfl, e101⟩
 have := e101.size
 refine l_v (v_not rfl) ?_
 replace HB1 := (HB1.ext e2).ext e101
 replace HB2 := HB2.ext e101
 refine l_v (zmB rfl) (l_g1 rfl rfl (fun hG => v_loadA zk rfl (by first | exact HB2.pv | exact HB1.pv | assumption) rfl) ?_)
 replace HG1 := ((HG1.ext e1).ext e2).ext e101
 refine l_g1f rfl rfl (fun hG => to_f1 zk (gd hG rfl) (MayAsk_c HG1)) ?_
 rintro w102 e102
 have := e102.size
 refine l_g1 rfl rfl (fun hG => v_not (gd hG rfl)) ?_
 refine l_v (v_or rfl rfl) ?_
 replace E := (((E.trans e1.keep).trans e2.keep).trans e101.keep).trans e102.keep
 replace HSm := (HSm.ext e101).ext e102
 replace HG1 := HG1.ext e102
 replace HB1 := HB1.ext e102
 replace HB2 := HB2.ext e102
 refine l_nil (n_then (c_cond rfl rfl (fun h16 => ?_) (fun h16 => ?_)))
 ·
  rw [hm, ha] at h16; cases h16
 obtain ⟨n6, hn6⟩ : ∃ n, n = w102.heap.size := ⟨_, rfl⟩
 refine c_skip (n_then (c_seq (wp_reg zd (l_v (zmS rfl) (l_v (v_loadA zk rfl (by first | exact HB2.pv | exact HB1.pv | assumption) rfl) ?_)))))
 refine l_to (to_f2 zk (zvS rfl) (zvA rfl) (CallsR.mono (do_c HSm HG1 hm zo ha) ?_))
 rintro _ w9 ⟨u, x, rfl, HSu, HGx, e9⟩
 have := e9.size
 rw [← hmo] at HSu hld hod ⊢
 rw [← hxo] at HGx hok ⊢
 replace HSu := HSu.mono (F' := fun b => ((F b ∧ b < n0) ∨ n6 ≤ b) ∧ b < w9.heap.size) (fun b hb h => ⟨h.imp (fun h => h) (fun h => by omega), hb⟩)
 replace HGx := HGx.mono (F' := fun b => ((F b ∧ b < n0) ∨ n6 ≤ b) ∧ b < w9.heap.size) (fun b hb h => ⟨h.imp (fun h => h) (fun h => by omega), hb⟩)
 obtain ⟨d5, d6, rfl⟩ := HSu.shape
 obtain ⟨d1, d2, d3, d4, rfl, HSxp, HSxn, hix⟩ := HGx.an
 refine l_v (zmT rfl) (l_v (v_extract (t := .slice _ _ _) rfl rfl) (l_v (v_extract (t := .agg _) rfl rfl) (l_to (to_alloc (z := .agg #[.int .i64 0, .slice none 0 0, .slice none 0 0]) (by unfold kZero; kernel_rfl) ?_))))
 rintro b103 w103 zb103 HB103 e103 z103
 have := e103.size
 try simp only [Value.cells] at HB103
 refine l_v (zaS rfl) (l_to (to_storeA (n := 3) rfl rfl (zvA rfl) zk rfl dj6 HB103 dj5 ?_))
 rintro w104 HX104 k104 z104
 have := k104.size
 replace HB103 := HX104
 clear HX104
 try simp only [zS, Nat.zero_add, Nat.reduceAdd, List.drop_nil] at HB103
 replace HB1 := ((HB1.ext e9).ext e103).keep k104 dj4
 replace HB2 := ((HB2.ext e9).ext e103).keep k104 dj4
 refine l_nil (n_then (c_seq (wp_reg zd (l_v (v_fieldAddr (off := 1) (ft := 22) zk rfl) (l_v (v_load zk rfl (by first | exact HB103.pv 1 _ rfl | exact HB2.pv 1 _ rfl | exact HB1.pv 1 _ rfl | assumption)) ?_)))))
 replace HSxp := (HSxp.ext e103).keep k104 dj1
 refine l_to (to_f1 zk (zvS rfl) (CallsR.mono (jclone_c HSxp zo hok.2) ?_))
 rintro u20 w20 ⟨HS20, e20⟩
 have := e20.size
 obtain ⟨d7, d8, rfl⟩ := HS20.shape
 replace HSu := ((HSu.ext e103).keep k104 dj1).ext e20
 replace HSxn := ((HSxn.ext e103).keep k104 dj1).ext e20
 obtain ⟨n8, hn8⟩ : ∃ n, n = w20.heap.size := ⟨_, rfl⟩
 replace HB103 := HB103.ext e20
 refine l_v (v_fieldAddr (off := 1) (ft := 22) zk rfl) (l_to (to_store rfl rfl (zvS rfl) rfl zk HB103 dj5 ?_))
 rintro w105 HX105 k105 z105
 have := k105.size
 replace HB103 := HX105
 clear HX105
 try simp only [zS, Nat.zero_add, Nat.reduceAdd, List.drop_nil] at HB103
 refine l_nil (n_then (c_seq (wp_any zk ?_)))
 have e106 : Ext w105 { w105 with drawn := w105.drawn + 1 } := Keep.drawn _ _
 replace E := ((((E.trans e9.keep).trans e103.keep).step k104 dj3).trans e20.keep).step k105 dj3
 replace HB1 := (HB1.ext e20).keep k105 dj4
 replace HB2 := (HB2.ext e20).keep k105 dj4
 replace HSu := HSu.keep k105 dj1
 replace HSxn := HSxn.keep k105 dj1
 replace HS20 := HS20.keep k105 dj1
 generalize hw106 : ({ w105 with drawn := w105.drawn + 1 } : World) = w106 at e106 ⊢
 clear hw106
 have := e106.size
 refine r_cut 4 rfl zd zd zd ?_
 refine wp_regdW (NoK) zd zd ?_
 refine rt_v (fun vals w hR hd => zmS rfl) ?_
 replace HSu := HSu.ext e106
 refine rt_to (fun v W => SlV tPrF W (fun b => n8 ≤ b) v mo) (fun v w w' h k => h.ext k) (fun vals w hR hd => to_f1 zk (hd 0 rfl) (CallsR.mono (jclone_c (HSu.ext hR) zo hod) fun v w1 h => ⟨h.2, h.1.mono fun b _ h => by have := hR.size; omega⟩)) ?_
 replace HB1 := HB1.ext e106
 replace HB2 := HB2.ext e106
 replace HB103 := HB103.ext e106
 refine rt_v (fun vals w hR hd => v_loadA zk rfl (by first | exact (HB103.ext hR).pv | exact (HB2.ext hR).pv | exact (HB1.ext hR).pv | assumption) rfl) ?_
 refine rt_to (fun v W => SlV tPrF W (fun b => n8 ≤ b) v mo) (fun v w w' h k => h.ext k) (fun vals w hR hd => OpTo.of_v (v_assign rfl) ⟨Keep.refl _, (show SlV tPrF _ (fun b => n8 ≤ b) _ mo from hd 1 rfl)⟩) ?_
 refine rt_nil (fun w40 e40 => ?_)
 rintro _ rfl v29 HS29 _ rfl v4 HS4'
 have := e40.size
 have HS4' : SlV tPrF _ (fun b => n8 ≤ b) v4 mo := HS4'
 obtain ⟨d9, d10, rfl⟩ := HS4'.shape
 refine fin_nil (n_then (r_cut 1 rfl zd zd zd ?_))
 refine r_one zd rfl ?_
 replace HB2 := HB2.ext e40
 refine l_to (to_storeA (n := 3) rfl rfl (zvA rfl) zk rfl dj6 HB2 dj5 ?_)
 rintro w107 HX107 k107 z107
 have := k107.size
 replace HB2 := HX107
 clear HX107
 try simp only [zS, Nat.zero_add, Nat.reduceAdd, List.drop_nil] at HB2
 refine l_nil (n_then (r_one zd rfl ?_))
 refine l_v (v_assign rfl) (l_nil (n_then (c_ret (ret3tct (n := 3) rfl zq zq zq rfl zk HB2.pv rfl (zvS rfl) (zvI rfl) ?_))))
 replace E := ((E.trans e106.keep).trans e40.keep).step k107 dj3
 replace HS4' := HS4'.keep k107 dj1
 refine ⟨_, _, rfl, HS4'.mono fun b _ h => by omega, ?_, E⟩
 replace HSxn := ((HSxn.ext e106).ext e40).keep k107 dj1
 replace HS20 := ((HS20.ext e106).ext e40).keep k107 dj1
 exact AgV.mkAn' (a := xo) ((imp_pr.sl HS20).mono fun b _ h => .inr zo) (HSxn.mono fun b _ h => h.1.imp (fun h => h.1) (fun h => by omega)) hix
end Go.Proofs.Ytifnkmflmgnfjaa
