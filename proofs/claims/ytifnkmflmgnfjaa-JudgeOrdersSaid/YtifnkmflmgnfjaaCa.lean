/- A part of the proof: steps and lemmas for the walks through the given program. -/
import Derived.Test.YtifnkmflmgnfjaaGw
import Derived.Test.YtifnkmflmgnfjaaGu
import Derived.Test.YtifnkmflmgnfjaaCz
import Derived.Test.YtifnkmflmgnfjaaGr
namespace Go.Proofs.Ytifnkmflmgnfjaa
open Go.Vc
set_option linter.unusedVariables false
set_option linter.unusedSimpArgs false
set_option maxRecDepth 100000

end Go.Proofs.Ytifnkmflmgnfjaa

namespace Go.Proofs.Ytifnkmflmgnfjaa
open Go.Vc
set_option linter.unusedVariables false
set_option linter.unusedSimpArgs false
set_option maxRecDepth 100000

theorem refkey_c {w : World} {F : Nat → Prop} {v : Value} {k : List UInt8} (HS1 : Bv w F v k) : CallsR Try.prog 53 #[v] w (fun o w' => o = .bool (keyB k) ∧ Ext w w') := by
  obtain ⟨a, c, rfl⟩ := HS1.shape
  refine enter 11 Try.func53 rfl rfl (by simp) ?_
  refine c_seq ?_
  have E := Keep.refl (K := NoK) w
  replace HS1 := HS1.all
  refine wp_reg zd (l_v (v_assign rfl) (l_nil (n_then (c_seq (wp_reg zd (l_v (zmS rfl) (l_v (v_len (et := 5) zk rfl) ?_)))))))
  refine l_v (v_geq rfl rfl) ?_
  refine l_v (zmB rfl) (l_g1 rfl rfl (fun hG => zmS rfl) (l_g1 rfl rfl (fun hG => v_len (et := 5) zk (gd hG rfl)) ?_))
  refine l_g1 rfl rfl (fun hG => v_leq (gd hG rfl) rfl) ?_
  refine l_v (v_and rfl rfl) ?_
  refine l_v (zaB rfl) (l_nil (n_then (c_ret (ret1v rfl zq (zvB rfl) ?_))))
  refine ⟨?_, E⟩
  congr 1; unfold keyB; rw [Bool.eq_iff_iff]; simp
  omega
/-- what the kinds name, all in a row -/
def asksC : Array Value := #[.bool false, .bool false, .bool false, .bool false, .bool false, .bool true, .bool false, .bool false, .bool false, .bool false, .bool true, .bool false, .bool true, .bool false, .bool false, .bool true, .bool false, .bool false, .bool false, .bool false, .bool true, .bool false, .bool true, .bool true, .bool false, .bool false, .bool true, .bool false, .bool false, .bool true]
def nmC (k : Int) : Value := .agg #[.bool (nmT k).1, .bool (nmT k).2.1, .bool (nmT k).2.2.1, .bool (nmT k).2.2.2.1, .bool (nmT k).2.2.2.2]
theorem nmC_at {k : Int} (h0 : 0 ≤ k) (h5 : k ≤ 5) : Value.agg (asksC.extract (k.toNat * 5) (k.toNat * 5 + 5)) = nmC k := by
  obtain ⟨m, rfl⟩ := Int.eq_ofNat_of_zero_le h0
  have hm : m ≤ 5 := by omega
  match m, hm with
  | 0, _ => rfl
  | 1, _ => rfl
  | 2, _ => rfl
  | 3, _ => rfl
  | 4, _ => rfl
  | 5, _ => rfl
theorem asks_c {w : World} : CallsR Try.prog 59 #[] w (fun o w' => o = .agg asksC ∧ Ext w w') := by
 refine enter 7 Try.func59 rfl rfl (by simp) ?_
 refine c_seq ?_
 have E := Keep.refl (K := NoK) w
 refine wp_reg zd (l_to (to_alloc (z := (.agg #[.bool false, .bool false, .bool false, .bool false, .bool false, .bool false, .bool false, .bool false, .bool false, .bool false, .bool false, .bool false, .bool false, .bool false, .bool false, .bool false, .bool false, .bool false, .bool false, .bool false, .bool false, .bool false, .bool false, .bool false, .bool false, .bool false, .bool false, .bool false, .bool false, .bool false])) (by unfold kZero; kernel_rfl) ?_))
 rintro b1 w1 zb1 HB1 e1 z1
 have := e1.size
 try simp only [Value.cells] at HB1
 refine l_nil (n_then (c_seq (wp_reg zd (l_v (v_build (pl := [(0, 1), (1, 1), (2, 1), (3, 1), (4, 1)]) (z := .agg #[.bool false, .bool false, .bool false, .bool false, .bool false]) (zl := [.bool false, .bool false, .bool false, .bool false, .bool false]) zk (by unfold kZero; kernel_rfl) rfl rfl (cells := [_, _, _, _, _]) rfl) ?_))))
 refine l_v (v_build (pl := [(0, 1), (1, 1), (2, 1), (3, 1), (4, 1)]) (z := .agg #[.bool false, .bool false, .bool false, .bool false, .bool false]) (zl := [.bool false, .bool false, .bool false, .bool false, .bool false]) zk (by unfold kZero; kernel_rfl) rfl rfl (cells := [_, _, _, _, _]) rfl) ?_
 refine l_v (v_build (pl := [(0, 1), (1, 1), (2, 1), (3, 1), (4, 1)]) (z := .agg #[.bool false, .bool false, .bool false, .bool false, .bool false]) (zl := [.bool false, .bool false, .bool false, .bool false, .bool false]) zk (by unfold kZero; kernel_rfl) rfl rfl (cells := [_, _, _, _, _]) rfl) ?_
 refine l_v (v_build (pl := [(0, 1), (1, 1), (2, 1), (3, 1), (4, 1)]) (z := .agg #[.bool false, .bool false, .bool false, .bool false, .bool false]) (zl := [.bool false, .bool false, .bool false, .bool false, .bool false]) zk (by unfold kZero; kernel_rfl) rfl rfl (cells := [_, _, _, _, _]) rfl) ?_
 refine l_v (v_build (pl := [(0, 1), (1, 1), (2, 1), (3, 1), (4, 1)]) (z := .agg #[.bool false, .bool false, .bool false, .bool false, .bool false]) (zl := [.bool false, .bool false, .bool false, .bool false, .bool false]) zk (by unfold kZero; kernel_rfl) rfl rfl (cells := [_, _, _, _, _]) rfl) ?_
 refine l_v (v_buildArr (et := 112) (n := 6) (sz := 5) (z := .agg #[.bool false, .bool false, .bool false, .bool false, .bool false, .bool false, .bool false, .bool false, .bool false, .bool false, .bool false, .bool false, .bool false, .bool false, .bool false, .bool false, .bool false, .bool false, .bool false, .bool false, .bool false, .bool false, .bool false, .bool false, .bool false, .bool false, .bool false, .bool false, .bool false, .bool false]) (zl := [.bool false, .bool false, .bool false, .bool false, .bool false, .bool false, .bool false, .bool false, .bool false, .bool false, .bool false, .bool false, .bool false, .bool false, .bool false, .bool false, .bool false, .bool false, .bool false, .bool false, .bool false, .bool false, .bool false, .bool false, .bool false, .bool false, .bool false, .bool false, .bool false, .bool false]) zk (by unfold kZero; kernel_rfl) rfl rfl (cells := [_, _, _, _, _, _, _, _, _, _, _, _, _, _, _, _, _, _, _, _, _, _, _, _, _, _, _, _, _, _]) rfl) ?_
 refine l_to (to_storeA (n := 30) rfl rfl (zvA rfl) zk rfl dj6 HB1 dj5 ?_)
 rintro w101 HX101 k101 z101
 have := k101.size
 replace HB1 := HX101
 clear HX101
 try simp only [zS, Nat.zero_add, Nat.reduceAdd, List.drop_nil] at HB1
 refine l_nil (n_then (c_ret (ret1c (n := 30) rfl zq rfl zk HB1.pv rfl ?_)))
 replace E := (E.trans e1.keep).step k101 dj3
 exact ⟨rfl, E⟩
theorem most_c {w : World} {is : Bool} {n : Int} : CallsR Try.prog 60 (#[.bool is, .int .i64 n] ++ #[]) w (fun o w' => o = .int .i64 (if is then n else 0) ∧ Ext w w') := by
  show CallsR _ _ #[_, _] _ _
  refine enter 8 Try.func60 rfl rfl (by simp) ?_
  refine c_seq ?_
  have E := Keep.refl (K := NoK) w
  refine wp_reg zd (l_v (v_assign rfl) (l_nil (n_then (c_seq (c_seq (wp_reg zd (l_v (zmB rfl) (l_v (v_not rfl) ?_))))))))
  refine l_nil (n_then (c_cond rfl rfl (fun h => ?_) (fun h => ?_)))
  · skip
    refine c_seq (wp_reg zd (l_v (v_assign rfl) (l_nil (n_then (c_ret (r_then (ret1v rfl zq (zvI rfl) ?_)))))))
    refine ⟨?_, E⟩
    cases is <;> simp_all
  · skip
    refine c_skip (n_then (c_seq (wp_reg zd (l_v (zmI rfl) (l_v (zaI rfl) (l_nil (n_then (c_ret (ret1v rfl zq (zvI rfl) ?_)))))))))
    refine ⟨?_, E⟩
    cases is <;> simp_all
end Go.Proofs.Ytifnkmflmgnfjaa

namespace Go.Proofs.Ytifnkmflmgnfjaa
open Go.Vc
set_option linter.unusedVariables false
set_option linter.unusedSimpArgs false
set_option maxRecDepth 100000

theorem mayAk_rng {k : Int} {key to val was : List UInt8} {no : Bool} {most : Int} (h : (decide (k < 1) || decide (5 < k)) = true) : mayAk (k, key, to, val, was, no, most) = false := by
  simp only [Bool.or_eq_true, decide_eq_true_eq] at h
  simp only [mayAk]
  rw [if_neg zo, if_neg zo, if_neg zo, if_neg zo]
def mstN (is : Bool) (n : Int) : Int := if is then n else 0
theorem mayAk_go {k : Int} {key to val was : List UInt8} {no : Bool} {most : Int} (h : (decide (k < 1) || decide (5 < k)) = false) :
    (((((((!(nmT k).1 || decide (0 < (key.length : Int))) && decide ((key.length : Int) ≤ 24)) && decide ((to.length : Int) ≤ mstN (nmT k).2.1 24))) &&
      (((decide ((val.length : Int) ≤ mstN (nmT k).2.2.1 40) && decide ((was.length : Int) ≤ mstN (nmT k).2.2.2.1 40)) && (!no || ((nmT k).2.2.2.1 && decide ((was.length : Int) = 0)))))) &&
      decide (mstN (nmT k).2.2.2.2 1 ≤ most)) && decide (most ≤ mstN (nmT k).2.2.2.2 32)) = mayAk (k, key, to, val, was, no, most) := by
  simp only [Bool.or_eq_false_iff, decide_eq_false_iff_not] at h
  obtain ⟨m, rfl⟩ := Int.eq_ofNat_of_zero_le (show 0 ≤ k by omega)
  have h0 : 1 ≤ m := by omega
  have hm : m ≤ 5 := by omega
  have le : ∀ (l : List UInt8), l.isEmpty = decide (l.length = 0) := fun l => by cases l <;> simp
  match m, h0, hm with
  | 1, _, _ => simp only [mayAk, keyB, le]; generalize key.length = x1; generalize to.length = x2; generalize val.length = x3; generalize was.length = x4; rw [Bool.eq_iff_iff]; cases no <;> simp [nmT, mstN] <;> omega
  | 2, _, _ => simp only [mayAk, keyB, le]; generalize key.length = x1; generalize to.length = x2; generalize val.length = x3; generalize was.length = x4; rw [Bool.eq_iff_iff]; cases no <;> simp [nmT, mstN] <;> omega
  | 3, _, _ => simp only [mayAk, keyB, le]; generalize key.length = x1; generalize to.length = x2; generalize val.length = x3; generalize was.length = x4; rw [Bool.eq_iff_iff]; cases no <;> simp [nmT, mstN] <;> omega
  | 4, _, _ => simp only [mayAk, keyB, le]; generalize key.length = x1; generalize to.length = x2; generalize val.length = x3; generalize was.length = x4; rw [Bool.eq_iff_iff]; cases no <;> simp [nmT, mstN] <;> omega
  | 5, _, _ => simp only [mayAk, keyB, le]; generalize key.length = x1; generalize to.length = x2; generalize val.length = x3; generalize was.length = x4; rw [Bool.eq_iff_iff]; cases no <;> simp [nmT, mstN] <;> omega
theorem most_d {w : World} {is : Bool} {n : Int} : CallsR Try.prog 60 (#[.bool is, .int .i64 n] ++ #[]) w (fun o w' => o = .int .i64 (mstN is n) ∧ Ext w w') := most_c
theorem MayAsk_c {w : World} {F : Nat → Prop} {v : Value} {a : AkV} (HG1 : AgV tAk w F v a) : CallsR Try.prog 40 #[v] w (fun o w' => o = .bool (mayAk a) ∧ Ext w w') := by
 obtain ⟨k, key, to, val, was, no, most⟩ := a
 obtain ⟨a1, c1, a2, c2, a3, c3, a4, c4, rfl, HS1, HS2, HS3, HS4, hi1, hi2⟩ := HG1.ak
 simp only [] at HS1 HS2 HS3 HS4 hi1 hi2 ⊢
 refine enter 99 Try.func40 rfl rfl (by simp) ?_
 refine c_seq ?_
 have E := Keep.refl (K := NoK) w
 replace HS1 := HS1.all
 replace HS2 := HS2.all
 replace HS3 := HS3.all
 replace HS4 := HS4.all
 refine wp_reg zd (l_to (to_box (zvA rfl) ?_))
 rintro b1 w1 zb1 HB1 e1 z1
 have := e1.size
 try simp only [Value.cells] at HB1
 refine l_v (v_assign rfl) (l_nil (n_then (c_seq (c_seq (wp_reg zd (l_v (v_fieldAddr (off := 0) (ft := 25) zk rfl) (l_v (v_load zk rfl (by first | exact HB1.pv 0 _ rfl | assumption)) ?_)))))))
 refine l_v (v_lss rfl rfl) ?_
 refine l_v (zmB rfl) (l_g1 rfl rfl (fun hG => v_fieldAddr (off := 0) (ft := 25) zk rfl) ?_)
 refine l_g1 rfl rfl (fun hG => v_load zk (gd hG rfl) (by first | exact HB1.pv 0 _ rfl | assumption)) ?_
 refine l_g1 rfl rfl (fun hG => v_gtr (gd hG rfl) rfl) ?_
 refine l_v (v_or rfl rfl) ?_
 replace E := E.trans e1.keep
 replace HS1 := HS1.ext e1
 replace HS2 := HS2.ext e1
 replace HS3 := HS3.ext e1
 replace HS4 := HS4.ext e1
 refine l_nil (n_then (c_cond rfl rfl (fun hc => ?_) (fun hc => ?_)))
 ·
  refine c_seq (wp_reg zd (l_v (v_assign rfl) (l_nil (n_then (c_ret (r_then (ret1v rfl zq (zvB rfl) ?_)))))))
  exact ⟨by rw [mayAk_rng hc], E⟩
 have hk : 1 ≤ k ∧ k ≤ 5 := by simp at hc; omega
 refine c_skip (n_then (c_seq (wp_any zk ?_)))
 have e101 : Ext w1 { w1 with drawn := w1.drawn + 1 } := Keep.drawn _ _
 generalize hw101 : ({ w1 with drawn := w1.drawn + 1 } : World) = w101 at e101 ⊢
 clear hw101
 have := e101.size
 refine r_cut 5 rfl zd zd zd ?_
 refine wp_regJW (fun k => w101.heap.size ≤ k) (AlJ w101.heap.size [⟨4, none, 112, ([.bool false, .bool false, .bool false, .bool false, .bool false] : List Value), ([.bool false, .bool false, .bool false, .bool false, .bool false] : List Value)⟩]) zd zd (fun vals done hd => AlJ.start (Nat.le_refl _) (fun a ha => hd a.al (al_lt (n := 5) rfl a ha))) ?_
 refine rj_vfJ (fun done vals w hR hcl hdk hJ hdn hd => to_f0 zk (asks_c)) (fun done vals w w1 hdk hJ e => hJ.src e rfl) ?_
 refine rj_vJ (fun done vals w hR hcl hdk hJ hdn hd => v_fieldAddr (off := 0) (ft := 25) zk rfl) (fun _ _ _ _ j => j.src (Keep.refl _) rfl) ?_
 replace HB1 := HB1.ext e101
 refine rj_vJ (fun done vals w hR hcl hdk hJ hdn hd => v_load zk (hd 1 rfl) (by first | exact (HB1.keep hR dj4).pv 0 _ rfl | assumption)) (fun _ _ _ _ j => j.src (Keep.refl _) rfl) ?_
 refine rj_vJ (fun done vals w hR hcl hdk hJ hdn hd => v_indexA (et := 112) (n := 6) (sz := 5) (k := k.toNat) zk zk (hd 0 rfl) (hd 2 rfl) zo zo (Value.agg.inj (nmC_at zo zo))) (fun _ _ _ _ j => j.src (Keep.refl _) rfl) ?_
 refine rj_d (fun done vals w hR hcl hdk hJ hdn hd => to_alloc (z := .agg #[.bool false, .bool false, .bool false, .bool false, .bool false]) (by unfold kZero; kernel_rfl) fun b w1 hb hB e hz => ⟨Ext.keep e, hJ.al (i := 0) rfl rfl hdk hcl (fun m a hm he => alOne_al (i := 0) (m := m) rfl rfl hm he) (fun a ha => alSt_ne rfl ha (List.mem_of_getElem? (i := 0) rfl)) (fun s hs => by cases hs) hb hB e⟩) ?_
 refine rj_nil (fun vals w102 k102 J102 => ?_)
 rintro _ - rfl _ - rfl _ - rfl _ - rfl v3 qv3 -
 have := k102.size
 obtain ⟨b3, hb3, zb3, HB3⟩ := J102.fin (i := 0) rfl
 try dsimp only at HB3
 have zl3 := HB3.lt
 obtain rfl := qv3.trans hb3
 refine fin_nilJ (n_then (r_one zd rfl ?_))
 refine l_to (to_storeA (n := 5) rfl rfl (zvA rfl) zk rfl dj6 HB3 dj5 ?_)
 rintro w103 HX103 k103 z103
 have := k103.size
 replace HB3 := HX103
 clear HX103
 try simp only [zS, Nat.zero_add, Nat.reduceAdd, List.drop_nil] at HB3
 refine l_nil (n_then (c_seq (wp_reg zd (l_v (zaF rfl) (l_nil (n_then (c_seq (wp_regd (NoK) zk zd zd ?_))))))))
 refine rt_v (fun vals w hR hd => v_fieldAddr (off := 0) (ft := 4) zk rfl) ?_
 replace HB1 := (HB1.keep k102 dj4).keep k103 dj4
 refine rt_v (fun vals w hR hd => v_load zk (hd 0 rfl) (by first | exact (HB3.ext hR).pv 0 _ rfl | exact (HB1.ext hR).pv 0 _ rfl | assumption)) ?_
 refine rt_v (fun vals w hR hd => v_not (hd 1 rfl)) ?_
 refine rt_v (fun vals w hR hd => v_move (t := .bool _) (hd 2 rfl)) ?_
 refine rt_g1 rfl (fun vals w hd => hd 3 rfl) (fun vals w hR hd hG => v_fieldAddr (off := 1) (ft := 26) zk rfl) ?_
 refine rt_g1 rfl (fun vals w hd => hd 3 rfl) (fun vals w hR hd hG => v_load zk (gd hG (hd 4 rfl)) (by first | exact (HB3.ext hR).pv 1 _ rfl | exact (HB1.ext hR).pv 1 _ rfl | assumption)) ?_
 refine rt_g1 rfl (fun vals w hd => hd 3 rfl) (fun vals w hR hd hG => v_len (et := 5) zk (gd hG (hd 5 rfl))) ?_
 refine rt_g1 rfl (fun vals w hd => hd 3 rfl) (fun vals w hR hd hG => v_gtr (gd hG (hd 6 rfl)) rfl) ?_
 refine rt_v (fun vals w hR hd => v_or (hd 3 rfl) (hd 7 rfl)) ?_
 refine rt_v (fun vals w hR hd => v_move (t := .bool _) (hd 8 rfl)) ?_
 refine rt_g1 rfl (fun vals w hd => hd 9 rfl) (fun vals w hR hd hG => v_fieldAddr (off := 1) (ft := 26) zk rfl) ?_
 refine rt_g1 rfl (fun vals w hd => hd 9 rfl) (fun vals w hR hd hG => v_load zk (gd hG (hd 10 rfl)) (by first | exact (HB3.ext hR).pv 1 _ rfl | exact (HB1.ext hR).pv 1 _ rfl | assumption)) ?_
 refine rt_g1 rfl (fun vals w hd => hd 9 rfl) (fun vals w hR hd hG => v_len (et := 5) zk (gd hG (hd 11 rfl))) ?_
 refine rt_g1 rfl (fun vals w hd => hd 9 rfl) (fun vals w hR hd hG => v_leq (gd hG (hd 12 rfl)) rfl) ?_
 refine rt_v (fun vals w hR hd => v_and (hd 9 rfl) (hd 13 rfl)) ?_
 refine rt_v (fun vals w hR hd => v_move (t := .bool _) (hd 14 rfl)) ?_
 refine rt_g1 rfl (fun vals w hd => hd 15 rfl) (fun vals w hR hd hG => v_fieldAddr (off := 2) (ft := 26) zk rfl) ?_
 refine rt_g1 rfl (fun vals w hd => hd 15 rfl) (fun vals w hR hd hG => v_load zk (gd hG (hd 16 rfl)) (by first | exact (HB3.ext hR).pv 2 _ rfl | exact (HB1.ext hR).pv 2 _ rfl | assumption)) ?_
 refine rt_g1 rfl (fun vals w hd => hd 15 rfl) (fun vals w hR hd hG => v_len (et := 5) zk (gd hG (hd 17 rfl))) ?_
 refine rt_g1 rfl (fun vals w hd => hd 15 rfl) (fun vals w hR hd hG => zmF rfl) ?_
 refine rt_g1 rfl (fun vals w hd => hd 15 rfl) (fun vals w hR hd hG => v_fieldAddr (off := 1) (ft := 4) zk rfl) ?_
 refine rt_g1 rfl (fun vals w hd => hd 15 rfl) (fun vals w hR hd hG => v_load zk (gd hG (hd 20 rfl)) (by first | exact (HB3.ext hR).pv 1 _ rfl | exact (HB1.ext hR).pv 1 _ rfl | assumption)) ?_
 refine rt_g1f rfl (fun vals w hd => hd 15 rfl) (fun vals w hR hd hG => to_call2 (by first | assumption | kernel_rfl) (gd hG (hd 19 rfl)) (gd hG (hd 21 rfl)) (zvI rfl) (most_d)) ?_
 refine rt_g1 rfl (fun vals w hd => hd 15 rfl) (fun vals w hR hd hG => v_leq (gd hG (hd 18 rfl)) (gd hG (hd 22 rfl))) ?_
 refine rt_v (fun vals w hR hd => v_and (hd 15 rfl) (hd 23 rfl)) ?_
 refine rt_v (fun vals w hR hd => v_assign (t := .bool _) (hd 24 rfl)) ?_
 refine rt_nil (fun w104 e104 => ?_)
 replace HS1 := ((HS1.ext e101).keep k102 dj1).keep k103 dj1
 replace HS2 := ((HS2.ext e101).keep k102 dj1).keep k103 dj1
 replace HS3 := ((HS3.ext e101).keep k102 dj1).keep k103 dj1
 replace HS4 := ((HS4.ext e101).keep k102 dj1).keep k103 dj1
 rintro _ rfl _ rfl _ rfl _ rfl _ rfl _ rfl _ rfl _ rfl _ rfl _ rfl _ rfl _ rfl _ rfl _ rfl _ rfl _ rfl _ rfl _ rfl _ rfl _ rfl _ rfl _ rfl _ rfl _ rfl _ rfl _ rfl
 have := e104.size
 refine fin_nil (n_then (c_seq (wp_regd (NoK) zk zd zd ?_)))
 refine rt_v (fun vals w hR hd => v_fieldAddr (off := 3) (ft := 26) zk rfl) ?_
 replace HB1 := HB1.ext e104
 replace HB3 := HB3.ext e104
 refine rt_v (fun vals w hR hd => v_load zk (hd 0 rfl) (by first | exact (HB3.ext hR).pv 3 _ rfl | exact (HB1.ext hR).pv 3 _ rfl | assumption)) ?_
 refine rt_v (fun vals w hR hd => v_len (et := 5) zk (hd 1 rfl)) ?_
 refine rt_v (fun vals w hR hd => zmF rfl) ?_
 refine rt_v (fun vals w hR hd => v_fieldAddr (off := 2) (ft := 4) zk rfl) ?_
 refine rt_v (fun vals w hR hd => v_load zk (hd 4 rfl) (by first | exact (HB3.ext hR).pv 2 _ rfl | exact (HB1.ext hR).pv 2 _ rfl | assumption)) ?_
 refine rt_vf (fun vals w hR hd => to_call2 (by first | assumption | kernel_rfl) (hd 3 rfl) (hd 5 rfl) (zvI rfl) (most_d)) ?_
 refine rt_v (fun vals w hR hd => v_leq (hd 2 rfl) (hd 6 rfl)) ?_
 refine rt_v (fun vals w hR hd => v_move (t := .bool _) (hd 7 rfl)) ?_
 refine rt_g1 rfl (fun vals w hd => hd 8 rfl) (fun vals w hR hd hG => v_fieldAddr (off := 4) (ft := 26) zk rfl) ?_
 refine rt_g1 rfl (fun vals w hd => hd 8 rfl) (fun vals w hR hd hG => v_load zk (gd hG (hd 9 rfl)) (by first | exact (HB3.ext hR).pv 4 _ rfl | exact (HB1.ext hR).pv 4 _ rfl | assumption)) ?_
 refine rt_g1 rfl (fun vals w hd => hd 8 rfl) (fun vals w hR hd hG => v_len (et := 5) zk (gd hG (hd 10 rfl))) ?_
 refine rt_g1 rfl (fun vals w hd => hd 8 rfl) (fun vals w hR hd hG => zmF rfl) ?_
 refine rt_g1 rfl (fun vals w hd => hd 8 rfl) (fun vals w hR hd hG => v_fieldAddr (off := 3) (ft := 4) zk rfl) ?_
 refine rt_g1 rfl (fun vals w hd => hd 8 rfl) (fun vals w hR hd hG => v_load zk (gd hG (hd 13 rfl)) (by first | exact (HB3.ext hR).pv 3 _ rfl | exact (HB1.ext hR).pv 3 _ rfl | assumption)) ?_
 refine rt_g1f rfl (fun vals w hd => hd 8 rfl) (fun vals w hR hd hG => to_call2 (by first | assumption | kernel_rfl) (gd hG (hd 12 rfl)) (gd hG (hd 14 rfl)) (zvI rfl) (most_d)) ?_
 refine rt_g1 rfl (fun vals w hd => hd 8 rfl) (fun vals w hR hd hG => v_leq (gd hG (hd 11 rfl)) (gd hG (hd 15 rfl))) ?_
 refine rt_v (fun vals w hR hd => v_and (hd 8 rfl) (hd 16 rfl)) ?_
 refine rt_v (fun vals w hR hd => v_move (t := .bool _) (hd 17 rfl)) ?_
 refine rt_g1 rfl (fun vals w hd => hd 18 rfl) (fun vals w hR hd hG => v_fieldAddr (off := 5) (ft := 4) zk rfl) ?_
 refine rt_g1 rfl (fun vals w hd => hd 18 rfl) (fun vals w hR hd hG => v_load zk (gd hG (hd 19 rfl)) (by first | exact (HB3.ext hR).pv 5 _ rfl | exact (HB1.ext hR).pv 5 _ rfl | assumption)) ?_
 refine rt_g1 rfl (fun vals w hd => hd 18 rfl) (fun vals w hR hd hG => v_not (gd hG (hd 20 rfl))) ?_
 refine rt_g1 rfl (fun vals w hd => hd 18 rfl) (fun vals w hR hd hG => v_move (t := .bool _) (gd hG (hd 21 rfl))) ?_
 refine rt_g2 rfl (fun vals w hd => hd 22 rfl) (fun vals w hR hd hG => v_fieldAddr (off := 3) (ft := 4) zk rfl) ?_
 refine rt_g2 rfl (fun vals w hd => hd 22 rfl) (fun vals w hR hd hG => v_load zk (gd hG (hd 23 rfl)) (by first | exact (HB3.ext hR).pv 3 _ rfl | exact (HB1.ext hR).pv 3 _ rfl | assumption)) ?_
 refine rt_g2 rfl (fun vals w hd => hd 22 rfl) (fun vals w hR hd hG => v_move (t := .bool _) (gd hG (hd 24 rfl))) ?_
 refine rt_g2 rfl (fun vals w hd => hd 25 rfl) (fun vals w hR hd hG => v_fieldAddr (off := 4) (ft := 26) zk rfl) ?_
 refine rt_g2 rfl (fun vals w hd => hd 25 rfl) (fun vals w hR hd hG => v_load zk (gd hG (hd 26 rfl)) (by first | exact (HB3.ext hR).pv 4 _ rfl | exact (HB1.ext hR).pv 4 _ rfl | assumption)) ?_
 refine rt_g2 rfl (fun vals w hd => hd 25 rfl) (fun vals w hR hd hG => v_len (et := 5) zk (gd hG (hd 27 rfl))) ?_
 refine rt_g2 rfl (fun vals w hd => hd 25 rfl) (fun vals w hR hd hG => v_eql (gd hG (hd 28 rfl)) rfl) ?_
 refine rt_g2 rfl (fun vals w hd => hd 22 rfl) (fun vals w hR hd hG => v_and (gd hG (hd 25 rfl)) (gda hG (hd 29 rfl))) ?_
 refine rt_g1 rfl (fun vals w hd => hd 18 rfl) (fun vals w hR hd hG => v_or (gd hG (hd 22 rfl)) (gda hG (hd 30 rfl))) ?_
 refine rt_v (fun vals w hR hd => v_and (hd 18 rfl) (hd 31 rfl)) ?_
 refine rt_v (fun vals w hR hd => v_assign (t := .bool _) (hd 32 rfl)) ?_
 refine rt_nil (fun w105 e105 => ?_)
 rintro _ rfl _ rfl _ rfl _ rfl _ rfl _ rfl _ rfl _ rfl _ rfl _ rfl _ rfl _ rfl _ rfl _ rfl _ rfl _ rfl _ rfl _ rfl _ rfl _ rfl _ rfl _ rfl _ rfl _ rfl _ rfl _ rfl _ rfl _ rfl _ rfl _ rfl _ rfl _ rfl _ rfl _ rfl
 have := e105.size
 refine fin_nil (n_then (c_seq (wp_regd (NoK) zk zd zd ?_)))
 refine rt_v (fun vals w hR hd => zmB rfl) ?_
 refine rt_v (fun vals w hR hd => v_move (t := .bool _) (hd 0 rfl)) ?_
 refine rt_g1 rfl (fun vals w hd => hd 1 rfl) (fun vals w hR hd hG => zmB rfl) ?_
 refine rt_v (fun vals w hR hd => v_and (hd 1 rfl) (hd 2 rfl)) ?_
 refine rt_v (fun vals w hR hd => v_move (t := .bool _) (hd 3 rfl)) ?_
 refine rt_g1 rfl (fun vals w hd => hd 4 rfl) (fun vals w hR hd hG => v_fieldAddr (off := 6) (ft := 3) zk rfl) ?_
 replace HB1 := HB1.ext e105
 replace HB3 := HB3.ext e105
 refine rt_g1 rfl (fun vals w hd => hd 4 rfl) (fun vals w hR hd hG => v_load zk (gd hG (hd 5 rfl)) (by first | exact (HB3.ext hR).pv 6 _ rfl | exact (HB1.ext hR).pv 6 _ rfl | assumption)) ?_
 refine rt_g1 rfl (fun vals w hd => hd 4 rfl) (fun vals w hR hd hG => zmF rfl) ?_
 refine rt_g1 rfl (fun vals w hd => hd 4 rfl) (fun vals w hR hd hG => v_fieldAddr (off := 4) (ft := 4) zk rfl) ?_
 refine rt_g1 rfl (fun vals w hd => hd 4 rfl) (fun vals w hR hd hG => v_load zk (gd hG (hd 8 rfl)) (by first | exact (HB3.ext hR).pv 4 _ rfl | exact (HB1.ext hR).pv 4 _ rfl | assumption)) ?_
 refine rt_g1f rfl (fun vals w hd => hd 4 rfl) (fun vals w hR hd hG => to_call2 (by first | assumption | kernel_rfl) (gd hG (hd 7 rfl)) (gd hG (hd 9 rfl)) (zvI rfl) (most_d)) ?_
 refine rt_g1 rfl (fun vals w hd => hd 4 rfl) (fun vals w hR hd hG => v_geq (gd hG (hd 6 rfl)) (gd hG (hd 10 rfl))) ?_
 refine rt_v (fun vals w hR hd => v_and (hd 4 rfl) (hd 11 rfl)) ?_
 refine rt_v (fun vals w hR hd => v_move (t := .bool _) (hd 12 rfl)) ?_
 refine rt_g1 rfl (fun vals w hd => hd 13 rfl) (fun vals w hR hd hG => v_fieldAddr (off := 6) (ft := 3) zk rfl) ?_
 refine rt_g1 rfl (fun vals w hd => hd 13 rfl) (fun vals w hR hd hG => v_load zk (gd hG (hd 14 rfl)) (by first | exact (HB3.ext hR).pv 6 _ rfl | exact (HB1.ext hR).pv 6 _ rfl | assumption)) ?_
 refine rt_g1 rfl (fun vals w hd => hd 13 rfl) (fun vals w hR hd hG => zmF rfl) ?_
 refine rt_g1 rfl (fun vals w hd => hd 13 rfl) (fun vals w hR hd hG => v_fieldAddr (off := 4) (ft := 4) zk rfl) ?_
 refine rt_g1 rfl (fun vals w hd => hd 13 rfl) (fun vals w hR hd hG => v_load zk (gd hG (hd 17 rfl)) (by first | exact (HB3.ext hR).pv 4 _ rfl | exact (HB1.ext hR).pv 4 _ rfl | assumption)) ?_
 refine rt_g1f rfl (fun vals w hd => hd 13 rfl) (fun vals w hR hd hG => to_call2 (by first | assumption | kernel_rfl) (gd hG (hd 16 rfl)) (gd hG (hd 18 rfl)) (zvI rfl) (most_d)) ?_
 refine rt_g1 rfl (fun vals w hd => hd 13 rfl) (fun vals w hR hd hG => v_leq (gd hG (hd 15 rfl)) (gd hG (hd 19 rfl))) ?_
 refine rt_v (fun vals w hR hd => v_and (hd 13 rfl) (hd 20 rfl)) ?_
 refine rt_v (fun vals w hR hd => v_assign (t := .bool _) (hd 21 rfl)) ?_
 refine rt_nil (fun w106 e106 => ?_)
 rintro _ rfl _ rfl _ rfl _ rfl _ rfl _ rfl _ rfl _ rfl _ rfl _ rfl _ rfl _ rfl _ rfl _ rfl _ rfl _ rfl _ rfl _ rfl _ rfl _ rfl _ rfl _ rfl _ rfl
 have := e106.size
 refine fin_nil (n_then (c_ret (ret1v rfl zq (zvB rfl) ?_)))
 replace E := (((((E.trans e101.keep).step k102 dj3).step k103 dj3).trans e104.keep).trans e105.keep).trans e106.keep
 exact ⟨by rw [mayAk_go hc], E⟩
theorem refMayAsk_c {w : World} {F : Nat → Prop} {v : Value} {a : AkV} (HG1 : AgV tAk w F v a) : CallsR Try.prog 35 #[v] w (fun o w' => o = .bool (mayAk a) ∧ Ext w w') := by
 obtain ⟨k, key, to, val, was, no, most⟩ := a
 obtain ⟨a1, c1, a2, c2, a3, c3, a4, c4, rfl, HS1, HS2, HS3, HS4, hi1, hi2⟩ := HG1.ak
 simp only [] at HS1 HS2 HS3 HS4 hi1 hi2 ⊢
 have le : ∀ (l : List UInt8), l.isEmpty = decide (l.length = 0) := fun l => by cases l <;> simp
 refine enter 133 Try.func35 rfl rfl (by simp) ?_
 refine c_seq ?_
 have E := Keep.refl (K := NoK) w
 replace HS1 := HS1.all
 replace HS2 := HS2.all
 replace HS3 := HS3.all
 replace HS4 := HS4.all
 refine wp_reg zd (l_to (to_box (zvA rfl) ?_))
 rintro b1 w1 zb1 HB1 e1 z1
 have := e1.size
 try simp only [Value.cells] at HB1
 refine l_v (v_assign rfl) (l_nil (n_then (c_seq (wp_reg zd (l_v (v_fieldAddr (off := 2) (ft := 26) zk rfl) (l_v (v_load zk rfl (by first | exact HB1.pv 2 _ rfl | assumption)) ?_))))))
 refine l_v (v_len (et := 5) zk rfl) ?_
 refine l_v (v_eql rfl rfl) ?_
 refine l_v (zmB rfl) (l_g1 rfl rfl (fun hG => v_fieldAddr (off := 4) (ft := 26) zk rfl) ?_)
 refine l_g1 rfl rfl (fun hG => v_load zk (gd hG rfl) (by first | exact HB1.pv 4 _ rfl | assumption)) ?_
 refine l_g1 rfl rfl (fun hG => v_len (et := 5) zk (gd hG rfl)) ?_
 refine l_g1 rfl rfl (fun hG => v_eql (gd hG rfl) rfl) ?_
 refine l_v (v_and rfl rfl) ?_
 refine l_v (zmB rfl) (l_g1 rfl rfl (fun hG => v_fieldAddr (off := 5) (ft := 4) zk rfl) ?_)
 refine l_g1 rfl rfl (fun hG => v_load zk (gd hG rfl) (by first | exact HB1.pv 5 _ rfl | assumption)) ?_
 refine l_g1 rfl rfl (fun hG => v_not (gd hG rfl)) ?_
 refine l_v (v_and rfl rfl) ?_
 refine l_v (zmB rfl) (l_g1 rfl rfl (fun hG => v_fieldAddr (off := 6) (ft := 3) zk rfl) ?_)
 refine l_g1 rfl rfl (fun hG => v_load zk (gd hG rfl) (by first | exact HB1.pv 6 _ rfl | assumption)) ?_
 refine l_g1 rfl rfl (fun hG => v_eql (gd hG rfl) rfl) ?_
 refine l_v (v_and rfl rfl) ?_
 refine l_v (zaB rfl) (l_nil (n_then (c_seq (c_seq (wp_reg zd (l_v (v_fieldAddr (off := 0) (ft := 25) zk rfl) (l_v (v_load zk rfl (by first | exact HB1.pv 0 _ rfl | assumption)) ?_)))))))
 refine l_nil (n_then (c_block (c_seq (c_seq (wp_reg zd (l_v (v_eql rfl rfl) ?_))))))
 replace E := E.trans e1.keep
 replace HS1 := HS1.ext e1
 replace HS2 := HS2.ext e1
 replace HS3 := HS3.ext e1
 replace HS4 := HS4.ext e1
 refine l_v (zaB rfl) (l_nil (n_then (c_cond rfl rfl (fun h1 => ?_) (fun h1 => ?_))))
 ·
  refine c_skip (n_then (c_cond rfl rfl (fun hx => ?_) (fun hx => ?_)))
  ·
   refine c_seq (wp_reg zd (l_v (v_fieldAddr (off := 1) (ft := 26) zk rfl) (l_v (v_load zk rfl (by first | exact HB1.pv 1 _ rfl | assumption)) ?_)))
   refine l_to (to_f1 zk (zvS rfl) (CallsR.mono (refkey_c HS1) ?_))
   rintro _ w101 ⟨rfl, e101⟩
   have := e101.size
   refine l_v (zmB rfl) (l_g1 rfl rfl (fun hG => zmB rfl) (l_v (v_and rfl rfl) ?_))
   refine l_v (zmB rfl) (l_g1 rfl rfl (fun hG => v_fieldAddr (off := 3) (ft := 26) zk rfl) ?_)
   replace HB1 := HB1.ext e101
   refine l_g1 rfl rfl (fun hG => v_load zk (gd hG rfl) (by first | exact HB1.pv 3 _ rfl | assumption)) ?_
   refine l_g1 rfl rfl (fun hG => v_len (et := 5) zk (gd hG rfl)) ?_
   refine l_g1 rfl rfl (fun hG => v_eql (gd hG rfl) rfl) ?_
   refine l_v (v_and rfl rfl) ?_
   refine l_v (zaB rfl) (l_nil (n_then (c_ret (r_blk (r_then (ret1v rfl zq (zvB rfl) ?_))))))
   replace E := E.trans e101.keep
   refine ⟨?_, E⟩
   obtain rfl : k = 1 := by simpa using h1
   simp only [mayAk, le]; generalize key.length = x1; generalize to.length = x2; generalize val.length = x3; generalize was.length = x4
   generalize keyB key = kb; congr 1; rw [Bool.eq_iff_iff]; cases kb <;> cases no <;> simp <;> omega
  rw [h1] at hx; cases hx
 refine wp_reg zd (l_v (v_eql rfl rfl) ?_)
 refine l_v (zaB rfl) (l_nil (n_then (c_cond rfl rfl (fun h3 => ?_) (fun h3 => ?_))))
 ·
  refine c_seq (wp_reg zd (l_v (v_fieldAddr (off := 1) (ft := 26) zk rfl) (l_v (v_load zk rfl (by first | exact HB1.pv 1 _ rfl | assumption)) ?_)))
  refine l_to (to_f1 zk (zvS rfl) (CallsR.mono (refkey_c HS1) ?_))
  rintro _ w102 ⟨rfl, e102⟩
  have := e102.size
  refine l_v (zmB rfl) (l_g1 rfl rfl (fun hG => zmB rfl) (l_v (v_and rfl rfl) ?_))
  refine l_v (zmB rfl) (l_g1 rfl rfl (fun hG => v_fieldAddr (off := 3) (ft := 26) zk rfl) ?_)
  replace HB1 := HB1.ext e102
  refine l_g1 rfl rfl (fun hG => v_load zk (gd hG rfl) (by first | exact HB1.pv 3 _ rfl | assumption)) ?_
  refine l_g1 rfl rfl (fun hG => v_len (et := 5) zk (gd hG rfl)) ?_
  refine l_g1 rfl rfl (fun hG => v_eql (gd hG rfl) rfl) ?_
  refine l_v (v_and rfl rfl) ?_
  refine l_v (zaB rfl) (l_nil (n_then (c_ret (r_blk (r_then (ret1v rfl zq (zvB rfl) ?_))))))
  replace E := E.trans e102.keep
  refine ⟨?_, E⟩
  obtain rfl : k = 3 := by simpa using h3
  simp only [mayAk, le]; generalize key.length = x1; generalize to.length = x2; generalize val.length = x3; generalize was.length = x4
  generalize keyB key = kb; congr 1; rw [Bool.eq_iff_iff]; cases kb <;> cases no <;> simp <;> omega
 refine c_seq (wp_reg zd (l_v (v_eql rfl rfl) ?_))
 refine l_v (zaB rfl) (l_nil (n_then (c_cond rfl rfl (fun h2 => ?_) (fun h2 => ?_))))
 ·
  refine c_seq (wp_reg zd (l_v (v_fieldAddr (off := 1) (ft := 26) zk rfl) (l_v (v_load zk rfl (by first | exact HB1.pv 1 _ rfl | assumption)) ?_)))
  refine l_to (to_f1 zk (zvS rfl) (CallsR.mono (refkey_c HS1) ?_))
  rintro _ w103 ⟨rfl, e103⟩
  have := e103.size
  refine l_v (zmB rfl) (l_g1 rfl rfl (fun hG => zmB rfl) (l_v (v_and rfl rfl) ?_))
  refine l_v (zmB rfl) (l_g1 rfl rfl (fun hG => v_fieldAddr (off := 3) (ft := 26) zk rfl) ?_)
  replace HB1 := HB1.ext e103
  refine l_g1 rfl rfl (fun hG => v_load zk (gd hG rfl) (by first | exact HB1.pv 3 _ rfl | assumption)) ?_
  refine l_g1 rfl rfl (fun hG => v_len (et := 5) zk (gd hG rfl)) ?_
  refine l_g1 rfl rfl (fun hG => v_leq (gd hG rfl) rfl) ?_
  refine l_v (v_and rfl rfl) ?_
  refine l_v (zaB rfl) (l_nil (n_then (c_ret (r_blk (r_then (ret1v rfl zq (zvB rfl) ?_))))))
  replace E := E.trans e103.keep
  refine ⟨?_, E⟩
  obtain rfl : k = 2 := by simpa using h2
  simp only [mayAk, le]; generalize key.length = x1; generalize to.length = x2; generalize val.length = x3; generalize was.length = x4
  generalize keyB key = kb; congr 1; rw [Bool.eq_iff_iff]; cases kb <;> cases no <;> simp <;> omega
 refine c_seq (wp_reg zd (l_v (v_eql rfl rfl) ?_))
 refine l_v (zaB rfl) (l_nil (n_then (c_cond rfl rfl (fun h4 => ?_) (fun h4 => ?_))))
 ·
  refine c_seq (wp_reg zd (l_v (v_fieldAddr (off := 1) (ft := 26) zk rfl) (l_v (v_load zk rfl (by first | exact HB1.pv 1 _ rfl | assumption)) ?_)))
  refine l_to (to_f1 zk (zvS rfl) (CallsR.mono (refkey_c HS1) ?_))
  rintro _ w104 ⟨rfl, e104⟩
  have := e104.size
  refine l_v (zmB rfl) (l_g1 rfl rfl (fun hG => v_fieldAddr (off := 3) (ft := 26) zk rfl) ?_)
  replace HB1 := HB1.ext e104
  refine l_g1 rfl rfl (fun hG => v_load zk (gd hG rfl) (by first | exact HB1.pv 3 _ rfl | assumption)) ?_
  refine l_g1 rfl rfl (fun hG => v_len (et := 5) zk (gd hG rfl)) ?_
  refine l_g1 rfl rfl (fun hG => v_leq (gd hG rfl) rfl) ?_
  refine l_v (v_and rfl rfl) ?_
  refine l_v (zmB rfl) (l_g1 rfl rfl (fun hG => v_fieldAddr (off := 4) (ft := 26) zk rfl) ?_)
  refine l_g1 rfl rfl (fun hG => v_load zk (gd hG rfl) (by first | exact HB1.pv 4 _ rfl | assumption)) ?_
  refine l_g1 rfl rfl (fun hG => v_len (et := 5) zk (gd hG rfl)) ?_
  refine l_g1 rfl rfl (fun hG => v_leq (gd hG rfl) rfl) ?_
  refine l_v (v_and rfl rfl) ?_
  refine l_v (zmB rfl) (l_g1 rfl rfl (fun hG => v_fieldAddr (off := 5) (ft := 4) zk rfl) ?_)
  refine l_g1 rfl rfl (fun hG => v_load zk (gd hG rfl) (by first | exact HB1.pv 5 _ rfl | assumption)) ?_
  refine l_g1 rfl rfl (fun hG => v_move (t := .bool _) (gd hG rfl)) ?_
  refine l_g2 rfl rfl (fun hG => v_fieldAddr (off := 4) (ft := 26) zk rfl) ?_
  refine l_g2 rfl rfl (fun hG => v_load zk (gd hG rfl) (by first | exact HB1.pv 4 _ rfl | assumption)) ?_
  refine l_g2 rfl rfl (fun hG => v_len (et := 5) zk (gd hG rfl)) ?_
  refine l_g2 rfl rfl (fun hG => v_gtr (gd hG rfl) rfl) ?_
  refine l_g1 rfl rfl (fun hG => v_and (gd hG rfl) (gda hG rfl)) ?_
  refine l_g1 rfl rfl (fun hG => v_not (gd hG rfl)) ?_
  refine l_v (v_and rfl rfl) ?_
  refine l_v (zmB rfl) (l_g1 rfl rfl (fun hG => v_fieldAddr (off := 2) (ft := 26) zk rfl) ?_)
  refine l_g1 rfl rfl (fun hG => v_load zk (gd hG rfl) (by first | exact HB1.pv 2 _ rfl | assumption)) ?_
  refine l_g1 rfl rfl (fun hG => v_len (et := 5) zk (gd hG rfl)) ?_
  refine l_g1 rfl rfl (fun hG => v_eql (gd hG rfl) rfl) ?_
  refine l_v (v_and rfl rfl) ?_
  refine l_v (zmB rfl) (l_g1 rfl rfl (fun hG => v_fieldAddr (off := 6) (ft := 3) zk rfl) ?_)
  refine l_g1 rfl rfl (fun hG => v_load zk (gd hG rfl) (by first | exact HB1.pv 6 _ rfl | assumption)) ?_
  refine l_g1 rfl rfl (fun hG => v_eql (gd hG rfl) rfl) ?_
  refine l_v (v_and rfl rfl) ?_
  refine l_v (zaB rfl) (l_nil (n_then (c_ret (r_blk (r_then (ret1v rfl zq (zvB rfl) ?_))))))
  replace E := E.trans e104.keep
  refine ⟨?_, E⟩
  obtain rfl : k = 4 := by simpa using h4
  simp only [mayAk, le]; generalize key.length = x1; generalize to.length = x2; generalize val.length = x3; generalize was.length = x4
  generalize keyB key = kb; congr 1; rw [Bool.eq_iff_iff]; cases kb <;> cases no <;> simp <;> omega
 refine c_seq (wp_reg zd (l_v (v_eql rfl rfl) ?_))
 refine l_v (zaB rfl) (l_nil (n_then (c_cond rfl rfl (fun h5 => ?_) (fun h5 => ?_))))
 ·
  refine c_seq (wp_reg zd (l_v (v_fieldAddr (off := 1) (ft := 26) zk rfl) (l_v (v_load zk rfl (by first | exact HB1.pv 1 _ rfl | assumption)) ?_)))
  refine l_v (v_len (et := 5) zk rfl) ?_
  refine l_v (v_leq rfl rfl) ?_
  refine l_v (zmB rfl) (l_g1 rfl rfl (fun hG => v_fieldAddr (off := 2) (ft := 26) zk rfl) ?_)
  refine l_g1 rfl rfl (fun hG => v_load zk (gd hG rfl) (by first | exact HB1.pv 2 _ rfl | assumption)) ?_
  refine l_g1 rfl rfl (fun hG => v_len (et := 5) zk (gd hG rfl)) ?_
  refine l_g1 rfl rfl (fun hG => v_leq (gd hG rfl) rfl) ?_
  refine l_v (v_and rfl rfl) ?_
  refine l_v (zmB rfl) (l_g1 rfl rfl (fun hG => v_fieldAddr (off := 6) (ft := 3) zk rfl) ?_)
  refine l_g1 rfl rfl (fun hG => v_load zk (gd hG rfl) (by first | exact HB1.pv 6 _ rfl | assumption)) ?_
  refine l_g1 rfl rfl (fun hG => v_geq (gd hG rfl) rfl) ?_
  refine l_v (v_and rfl rfl) ?_
  refine l_v (zmB rfl) (l_g1 rfl rfl (fun hG => v_fieldAddr (off := 6) (ft := 3) zk rfl) ?_)
  refine l_g1 rfl rfl (fun hG => v_load zk (gd hG rfl) (by first | exact HB1.pv 6 _ rfl | assumption)) ?_
  refine l_g1 rfl rfl (fun hG => v_leq (gd hG rfl) rfl) ?_
  refine l_v (v_and rfl rfl) ?_
  refine l_v (zmB rfl) (l_g1 rfl rfl (fun hG => v_fieldAddr (off := 3) (ft := 26) zk rfl) ?_)
  refine l_g1 rfl rfl (fun hG => v_load zk (gd hG rfl) (by first | exact HB1.pv 3 _ rfl | assumption)) ?_
  refine l_g1 rfl rfl (fun hG => v_len (et := 5) zk (gd hG rfl)) ?_
  refine l_g1 rfl rfl (fun hG => v_eql (gd hG rfl) rfl) ?_
  refine l_v (v_and rfl rfl) ?_
  refine l_v (zmB rfl) (l_g1 rfl rfl (fun hG => v_fieldAddr (off := 4) (ft := 26) zk rfl) ?_)
  refine l_g1 rfl rfl (fun hG => v_load zk (gd hG rfl) (by first | exact HB1.pv 4 _ rfl | assumption)) ?_
  refine l_g1 rfl rfl (fun hG => v_len (et := 5) zk (gd hG rfl)) ?_
  refine l_g1 rfl rfl (fun hG => v_eql (gd hG rfl) rfl) ?_
  refine l_v (v_and rfl rfl) ?_
  refine l_v (zmB rfl) (l_g1 rfl rfl (fun hG => v_fieldAddr (off := 5) (ft := 4) zk rfl) ?_)
  refine l_g1 rfl rfl (fun hG => v_load zk (gd hG rfl) (by first | exact HB1.pv 5 _ rfl | assumption)) ?_
  refine l_g1 rfl rfl (fun hG => v_not (gd hG rfl)) ?_
  refine l_v (v_and rfl rfl) ?_
  refine l_v (zaB rfl) (l_nil (n_then (c_ret (r_blk (r_then (ret1v rfl zq (zvB rfl) ?_))))))
  refine ⟨?_, E⟩
  obtain rfl : k = 5 := by simpa using h5
  simp only [mayAk, le]; generalize key.length = x1; generalize to.length = x2; generalize val.length = x3; generalize was.length = x4
  generalize keyB key = kb; congr 1; rw [Bool.eq_iff_iff]; cases kb <;> cases no <;> simp <;> omega
 refine c_skip (n_blk (n_then (c_seq (wp_reg zd (l_v (v_assign rfl) (l_nil (n_then (c_ret (ret1v rfl zq (zvB rfl) ?_)))))))))
 refine ⟨?_, E⟩
 simp only [decide_eq_false_iff_not] at h1 h2 h3 h4 h5
 simp [mayAk, h1, h2, h3, h4, h5]
def rdsB (k : Int) : Bool := decide (k = 1) || decide (k = 5)
theorem Reads_c {w : World} {F : Nat → Prop} {v : Value} {a : AkV} (HG1 : AgV tAk w F v a) : CallsR Try.prog 92 #[v] w (fun o w' => o = .bool (rdsB a.1) ∧ Ext w w') := by
  obtain ⟨a1, c1, a2, c2, a3, c3, a4, c4, rfl, HS1, HS2, HS3, HS4, hi1, hi2⟩ := HG1.ak
  clear HG1 HS1 HS2 HS3 HS4
  refine enter 11 Try.func92 rfl rfl (by simp) ?_
  refine c_seq ?_
  have E := Keep.refl (K := NoK) w
  refine wp_reg zd (l_to (to_box (zvA rfl) ?_))
  rintro b1 w1 zb1 HB1 e1 z1
  have := e1.size
  try simp only [Value.cells] at HB1
  refine l_v (v_assign rfl) (l_nil (n_then (c_seq (wp_reg zd (l_v (v_fieldAddr (off := 0) (ft := 25) zk rfl) (l_v (v_load zk rfl (by first | exact HB1.pv 0 _ rfl | assumption)) ?_))))))
  refine l_v (v_eql rfl rfl) ?_
  refine l_v (zmB rfl) (l_g1 rfl rfl (fun hG => v_fieldAddr (off := 0) (ft := 25) zk rfl) ?_)
  refine l_g1 rfl rfl (fun hG => v_load zk (gd hG rfl) (by first | exact HB1.pv 0 _ rfl | assumption)) ?_
  refine l_g1 rfl rfl (fun hG => v_eql (gd hG rfl) rfl) ?_
  refine l_v (v_or rfl rfl) ?_
  refine l_v (zaB rfl) (l_nil (n_then (c_ret (ret1v rfl zq (zvB rfl) ?_))))
  replace E := E.trans e1.keep
  exact ⟨rfl, E⟩
theorem ak_eq {k k' : Int} {x x' y y' z z' u u' : List UInt8} {b b' : Bool} {m m' : Int} : decide ((k, x, y, z, u, b, m) = ((k', x', y', z', u', b', m') : AkV)) = (decide (k = k') && decide (x = x') && decide (y = y') && decide (z = z') && decide (u = u') && decide (b = b') && decide (m = m')) := by
  rw [Bool.eq_iff_iff]; simp [and_assoc]
theorem SameAsk_c {w : World} {F G : Nat → Prop} {v u : Value} {a b : AkV} (HG1 : AgV tAk w F v a) (HG2 : AgV tAk w G u b) : CallsR Try.prog 90 #[v, u] w (fun o w' => o = .bool (decide (a = b)) ∧ Ext w w') := by
 obtain ⟨a1, c1, a2, c2, a3, c3, a4, c4, rfl, HS1, HS2, HS3, HS4, _⟩ := HG1.ak
 obtain ⟨a5, c5, a6, c6, a7, c7, a8, c8, rfl, HS5, HS6, HS7, HS8, _⟩ := HG2.ak
 obtain ⟨k, key, to, val, was, no, most⟩ := a
 obtain ⟨k', key', to', val', was', no', most'⟩ := b
 clear HG1 HG2
 refine enter 54 Try.func90 rfl rfl (by simp) ?_
 refine c_seq ?_
 have E := Keep.refl (K := NoK) w
 replace HS1 := HS1.all
 replace HS2 := HS2.all
 replace HS3 := HS3.all
 replace HS4 := HS4.all
 replace HS5 := HS5.all
 replace HS6 := HS6.all
 replace HS7 := HS7.all
 replace HS8 := HS8.all
 refine wp_reg zd (l_to (to_box (zvA rfl) ?_))
 rintro b1 w1 zb1 HB1 e1 z1
 have := e1.size
 try simp only [Value.cells] at HB1
 refine l_to (to_box (zvA rfl) ?_)
 rintro b2 w2 zb2 HB2 e2 z2
 have := e2.size
 try simp only [Value.cells] at HB2
 replace HB1 := HB1.ext e2
 refine l_v (v_assign rfl) (l_nil (n_then (c_seq (wp_reg zd (l_v (v_fieldAddr (off := 1) (ft := 26) zk rfl) (l_v (v_load zk rfl (by first | exact HB2.pv 1 _ rfl | exact HB1.pv 1 _ rfl | assumption)) ?_))))))
 refine l_v (v_fieldAddr (off := 1) (ft := 26) zk rfl) (l_v (v_load zk rfl (by first | exact HB2.pv 1 _ rfl | exact HB1.pv 1 _ rfl | assumption)) ?_)
 replace HS1 := (HS1.ext e1).ext e2
 replace HS5 := (HS5.ext e1).ext e2
 refine l_to (to_f2 zk (zvS rfl) (zvS rfl) (CallsR.mono (Equal_c HS1 HS5) ?_))
 rintro _ w101 ⟨rfl, e101⟩
 have := e101.size
 refine l_v (zmB rfl) (l_g1 rfl rfl (fun hG => v_fieldAddr (off := 2) (ft := 26) zk rfl) ?_)
 replace HB1 := HB1.ext e101
 replace HB2 := HB2.ext e101
 refine l_g1 rfl rfl (fun hG => v_load zk (gd hG rfl) (by first | exact HB2.pv 2 _ rfl | exact HB1.pv 2 _ rfl | assumption)) ?_
 refine l_g1 rfl rfl (fun hG => v_fieldAddr (off := 2) (ft := 26) zk rfl) ?_
 refine l_g1 rfl rfl (fun hG => v_load zk (gd hG rfl) (by first | exact HB2.pv 2 _ rfl | exact HB1.pv 2 _ rfl | assumption)) ?_
 replace HS2 := ((HS2.ext e1).ext e2).ext e101
 replace HS6 := ((HS6.ext e1).ext e2).ext e101
 refine l_g1f rfl rfl (fun hG => to_f2 zk (gd hG rfl) (gd hG rfl) (Equal_c HS2 HS6)) ?_
 rintro w102 e102
 have := e102.size
 refine l_v (v_and rfl rfl) ?_
 refine l_v (zmB rfl) (l_g1 rfl rfl (fun hG => v_fieldAddr (off := 3) (ft := 26) zk rfl) ?_)
 replace HB1 := HB1.ext e102
 replace HB2 := HB2.ext e102
 refine l_g1 rfl rfl (fun hG => v_load zk (gd hG rfl) (by first | exact HB2.pv 3 _ rfl | exact HB1.pv 3 _ rfl | assumption)) ?_
 refine l_g1 rfl rfl (fun hG => v_fieldAddr (off := 3) (ft := 26) zk rfl) ?_
 refine l_g1 rfl rfl (fun hG => v_load zk (gd hG rfl) (by first | exact HB2.pv 3 _ rfl | exact HB1.pv 3 _ rfl | assumption)) ?_
 replace HS3 := (((HS3.ext e1).ext e2).ext e101).ext e102
 replace HS7 := (((HS7.ext e1).ext e2).ext e101).ext e102
 refine l_g1f rfl rfl (fun hG => to_f2 zk (gd hG rfl) (gd hG rfl) (Equal_c HS3 HS7)) ?_
 rintro w103 e103
 have := e103.size
 refine l_v (v_and rfl rfl) ?_
 refine l_v (zmB rfl) (l_g1 rfl rfl (fun hG => v_fieldAddr (off := 4) (ft := 26) zk rfl) ?_)
 replace HB1 := HB1.ext e103
 replace HB2 := HB2.ext e103
 refine l_g1 rfl rfl (fun hG => v_load zk (gd hG rfl) (by first | exact HB2.pv 4 _ rfl | exact HB1.pv 4 _ rfl | assumption)) ?_
 refine l_g1 rfl rfl (fun hG => v_fieldAddr (off := 4) (ft := 26) zk rfl) ?_
 refine l_g1 rfl rfl (fun hG => v_load zk (gd hG rfl) (by first | exact HB2.pv 4 _ rfl | exact HB1.pv 4 _ rfl | assumption)) ?_
 replace HS4 := ((((HS4.ext e1).ext e2).ext e101).ext e102).ext e103
 replace HS8 := ((((HS8.ext e1).ext e2).ext e101).ext e102).ext e103
 refine l_g1f rfl rfl (fun hG => to_f2 zk (gd hG rfl) (gd hG rfl) (Equal_c HS4 HS8)) ?_
 rintro w104 e104
 have := e104.size
 refine l_v (v_and rfl rfl) ?_
 refine l_v (zaB rfl) (l_nil (n_then (c_seq (wp_reg zd (l_v (zmB rfl) (l_v (zmB rfl) (l_g1 rfl rfl (fun hG => v_fieldAddr (off := 0) (ft := 25) zk rfl) ?_)))))))
 replace HB1 := HB1.ext e104
 replace HB2 := HB2.ext e104
 refine l_g1 rfl rfl (fun hG => v_load zk (gd hG rfl) (by first | exact HB2.pv 0 _ rfl | exact HB1.pv 0 _ rfl | assumption)) ?_
 refine l_g1 rfl rfl (fun hG => v_fieldAddr (off := 0) (ft := 25) zk rfl) ?_
 refine l_g1 rfl rfl (fun hG => v_load zk (gd hG rfl) (by first | exact HB2.pv 0 _ rfl | exact HB1.pv 0 _ rfl | assumption)) ?_
 refine l_g1 rfl rfl (fun hG => v_eql (gd hG rfl) (gd hG rfl)) ?_
 refine l_v (v_and rfl rfl) ?_
 refine l_v (zmB rfl) (l_g1 rfl rfl (fun hG => v_fieldAddr (off := 5) (ft := 4) zk rfl) ?_)
 refine l_g1 rfl rfl (fun hG => v_load zk (gd hG rfl) (by first | exact HB2.pv 5 _ rfl | exact HB1.pv 5 _ rfl | assumption)) ?_
 refine l_g1 rfl rfl (fun hG => v_fieldAddr (off := 5) (ft := 4) zk rfl) ?_
 refine l_g1 rfl rfl (fun hG => v_load zk (gd hG rfl) (by first | exact HB2.pv 5 _ rfl | exact HB1.pv 5 _ rfl | assumption)) ?_
 refine l_g1 rfl rfl (fun hG => v_beql zk (gd hG rfl) (gd hG rfl)) ?_
 refine l_v (v_and rfl rfl) ?_
 refine l_v (zmB rfl) (l_g1 rfl rfl (fun hG => v_fieldAddr (off := 6) (ft := 3) zk rfl) ?_)
 refine l_g1 rfl rfl (fun hG => v_load zk (gd hG rfl) (by first | exact HB2.pv 6 _ rfl | exact HB1.pv 6 _ rfl | assumption)) ?_
 refine l_g1 rfl rfl (fun hG => v_fieldAddr (off := 6) (ft := 3) zk rfl) ?_
 refine l_g1 rfl rfl (fun hG => v_load zk (gd hG rfl) (by first | exact HB2.pv 6 _ rfl | exact HB1.pv 6 _ rfl | assumption)) ?_
 refine l_g1 rfl rfl (fun hG => v_eql (gd hG rfl) (gd hG rfl)) ?_
 refine l_v (v_and rfl rfl) ?_
 refine l_v (zaB rfl) (l_nil (n_then (c_ret (ret1v rfl zq (zvB rfl) ?_))))
 replace E := (((((E.trans e1.keep).trans e2.keep).trans e101.keep).trans e102.keep).trans e103.keep).trans e104.keep
 refine ⟨?_, E⟩
 rw [ak_eq]
 congr 1; rw [Bool.eq_iff_iff]; simp only [Bool.and_eq_true, decide_eq_true_eq, beq_iff_eq, and_assoc]; exact ⟨fun ⟨a, b, c, d, e, f, g⟩ => ⟨e, a, b, c, d, f, g⟩, fun ⟨e, a, b, c, d, f, g⟩ => ⟨a, b, c, d, e, f, g⟩⟩
theorem refSameAsk_c {w : World} {F G : Nat → Prop} {v u : Value} {a b : AkV} (HG1 : AgV tAk w F v a) (HG2 : AgV tAk w G u b) : CallsR Try.prog 46 #[v, u] w (fun o w' => o = .bool (decide (a = b)) ∧ Ext w w') := by
 obtain ⟨a1, c1, a2, c2, a3, c3, a4, c4, rfl, HS1, HS2, HS3, HS4, _⟩ := HG1.ak
 obtain ⟨a5, c5, a6, c6, a7, c7, a8, c8, rfl, HS5, HS6, HS7, HS8, _⟩ := HG2.ak
 obtain ⟨k, key, to, val, was, no, most⟩ := a
 obtain ⟨k', key', to', val', was', no', most'⟩ := b
 clear HG1 HG2
 refine enter 60 Try.func46 rfl rfl (by simp) ?_
 refine c_seq ?_
 have E := Keep.refl (K := NoK) w
 replace HS1 := HS1.all
 replace HS2 := HS2.all
 replace HS3 := HS3.all
 replace HS4 := HS4.all
 replace HS5 := HS5.all
 replace HS6 := HS6.all
 replace HS7 := HS7.all
 replace HS8 := HS8.all
 refine wp_reg zd (l_to (to_box (zvA rfl) ?_))
 rintro b1 w1 zb1 HB1 e1 z1
 have := e1.size
 try simp only [Value.cells] at HB1
 refine l_to (to_box (zvA rfl) ?_)
 rintro b2 w2 zb2 HB2 e2 z2
 have := e2.size
 try simp only [Value.cells] at HB2
 replace HB1 := HB1.ext e2
 refine l_v (v_assign rfl) (l_nil (n_then (c_seq (wp_reg zd (l_v (v_fieldAddr (off := 0) (ft := 25) zk rfl) (l_v (v_load zk rfl (by first | exact HB2.pv 0 _ rfl | exact HB1.pv 0 _ rfl | assumption)) ?_))))))
 refine l_v (v_fieldAddr (off := 0) (ft := 25) zk rfl) (l_v (v_load zk rfl (by first | exact HB2.pv 0 _ rfl | exact HB1.pv 0 _ rfl | assumption)) ?_)
 refine l_v (v_eql rfl rfl) ?_
 refine l_v (zmB rfl) (l_g1 rfl rfl (fun hG => v_fieldAddr (off := 1) (ft := 26) zk rfl) ?_)
 refine l_g1 rfl rfl (fun hG => v_load zk (gd hG rfl) (by first | exact HB2.pv 1 _ rfl | exact HB1.pv 1 _ rfl | assumption)) ?_
 replace HS1 := (HS1.ext e1).ext e2
 refine l_g1 rfl rfl (fun hG => v_b2s (et := 5) zk zk zk (gd hG rfl) HS1) ?_
 refine l_g1 rfl rfl (fun hG => v_fieldAddr (off := 1) (ft := 26) zk rfl) ?_
 refine l_g1 rfl rfl (fun hG => v_load zk (gd hG rfl) (by first | exact HB2.pv 1 _ rfl | exact HB1.pv 1 _ rfl | assumption)) ?_
 replace HS5 := (HS5.ext e1).ext e2
 refine l_g1 rfl rfl (fun hG => v_b2s (et := 5) zk zk zk (gd hG rfl) HS5) ?_
 refine l_g1 rfl rfl (fun hG => v_seq (gd hG rfl) (gd hG rfl)) ?_
 refine l_v (v_and rfl rfl) ?_
 refine l_v (zmB rfl) (l_g1 rfl rfl (fun hG => v_fieldAddr (off := 2) (ft := 26) zk rfl) ?_)
 refine l_g1 rfl rfl (fun hG => v_load zk (gd hG rfl) (by first | exact HB2.pv 2 _ rfl | exact HB1.pv 2 _ rfl | assumption)) ?_
 replace HS2 := (HS2.ext e1).ext e2
 refine l_g1 rfl rfl (fun hG => v_b2s (et := 5) zk zk zk (gd hG rfl) HS2) ?_
 refine l_g1 rfl rfl (fun hG => v_fieldAddr (off := 2) (ft := 26) zk rfl) ?_
 refine l_g1 rfl rfl (fun hG => v_load zk (gd hG rfl) (by first | exact HB2.pv 2 _ rfl | exact HB1.pv 2 _ rfl | assumption)) ?_
 replace HS6 := (HS6.ext e1).ext e2
 refine l_g1 rfl rfl (fun hG => v_b2s (et := 5) zk zk zk (gd hG rfl) HS6) ?_
 refine l_g1 rfl rfl (fun hG => v_seq (gd hG rfl) (gd hG rfl)) ?_
 refine l_v (v_and rfl rfl) ?_
 refine l_v (zmB rfl) (l_g1 rfl rfl (fun hG => v_fieldAddr (off := 3) (ft := 26) zk rfl) ?_)
 refine l_g1 rfl rfl (fun hG => v_load zk (gd hG rfl) (by first | exact HB2.pv 3 _ rfl | exact HB1.pv 3 _ rfl | assumption)) ?_
 replace HS3 := (HS3.ext e1).ext e2
 refine l_g1 rfl rfl (fun hG => v_b2s (et := 5) zk zk zk (gd hG rfl) HS3) ?_
 refine l_g1 rfl rfl (fun hG => v_fieldAddr (off := 3) (ft := 26) zk rfl) ?_
 refine l_g1 rfl rfl (fun hG => v_load zk (gd hG rfl) (by first | exact HB2.pv 3 _ rfl | exact HB1.pv 3 _ rfl | assumption)) ?_
 replace HS7 := (HS7.ext e1).ext e2
 refine l_g1 rfl rfl (fun hG => v_b2s (et := 5) zk zk zk (gd hG rfl) HS7) ?_
 refine l_g1 rfl rfl (fun hG => v_seq (gd hG rfl) (gd hG rfl)) ?_
 refine l_v (v_and rfl rfl) ?_
 refine l_v (zmB rfl) (l_g1 rfl rfl (fun hG => v_fieldAddr (off := 4) (ft := 26) zk rfl) ?_)
 refine l_g1 rfl rfl (fun hG => v_load zk (gd hG rfl) (by first | exact HB2.pv 4 _ rfl | exact HB1.pv 4 _ rfl | assumption)) ?_
 replace HS4 := (HS4.ext e1).ext e2
 refine l_g1 rfl rfl (fun hG => v_b2s (et := 5) zk zk zk (gd hG rfl) HS4) ?_
 refine l_g1 rfl rfl (fun hG => v_fieldAddr (off := 4) (ft := 26) zk rfl) ?_
 refine l_g1 rfl rfl (fun hG => v_load zk (gd hG rfl) (by first | exact HB2.pv 4 _ rfl | exact HB1.pv 4 _ rfl | assumption)) ?_
 replace HS8 := (HS8.ext e1).ext e2
 refine l_g1 rfl rfl (fun hG => v_b2s (et := 5) zk zk zk (gd hG rfl) HS8) ?_
 refine l_g1 rfl rfl (fun hG => v_seq (gd hG rfl) (gd hG rfl)) ?_
 refine l_v (v_and rfl rfl) ?_
 refine l_v (zmB rfl) (l_g1 rfl rfl (fun hG => v_fieldAddr (off := 5) (ft := 4) zk rfl) ?_)
 refine l_g1 rfl rfl (fun hG => v_load zk (gd hG rfl) (by first | exact HB2.pv 5 _ rfl | exact HB1.pv 5 _ rfl | assumption)) ?_
 refine l_g1 rfl rfl (fun hG => v_fieldAddr (off := 5) (ft := 4) zk rfl) ?_
 refine l_g1 rfl rfl (fun hG => v_load zk (gd hG rfl) (by first | exact HB2.pv 5 _ rfl | exact HB1.pv 5 _ rfl | assumption)) ?_
 refine l_g1 rfl rfl (fun hG => v_beql zk (gd hG rfl) (gd hG rfl)) ?_
 refine l_v (v_and rfl rfl) ?_
 refine l_v (zmB rfl) (l_g1 rfl rfl (fun hG => v_fieldAddr (off := 6) (ft := 3) zk rfl) ?_)
 refine l_g1 rfl rfl (fun hG => v_load zk (gd hG rfl) (by first | exact HB2.pv 6 _ rfl | exact HB1.pv 6 _ rfl | assumption)) ?_
 refine l_g1 rfl rfl (fun hG => v_fieldAddr (off := 6) (ft := 3) zk rfl) ?_
 refine l_g1 rfl rfl (fun hG => v_load zk (gd hG rfl) (by first | exact HB2.pv 6 _ rfl | exact HB1.pv 6 _ rfl | assumption)) ?_
 refine l_g1 rfl rfl (fun hG => v_eql (gd hG rfl) (gd hG rfl)) ?_
 refine l_v (v_and rfl rfl) ?_
 refine l_v (zaB rfl) (l_nil (n_then (c_ret (ret1v rfl zq (zvB rfl) ?_))))
 replace E := (E.trans e1.keep).trans e2.keep
 refine ⟨?_, E⟩
 rw [ak_eq]
 first | (congr 1; done) | (congr 1; rw [Bool.eq_iff_iff]; simp)
end Go.Proofs.Ytifnkmflmgnfjaa
