/- A part of the proof: steps and lemmas for the walks through the given program. -/
import Derived.Test.YtifnkmflmgnfjaaJ20
import Derived.Test.YtifnkmflmgnfjaaJa
import Derived.Test.YtifnkmflmgnfjaaJv
import Derived.Test.YtifnkmflmgnfjaaVc49
namespace Go.Proofs.Ytifnkmflmgnfjaa
open Go.Vc
set_option linter.unusedVariables false
set_option linter.unusedSimpArgs false
set_option maxRecDepth 100000

theorem num_c {w : World} {n : Int} : CallsR Try.prog 27 #[.int .i64 n] w (fun o w' => o = .int .i64 n ∧ Ext w w') := by
  refine enter 4 Try.func27 rfl rfl (by simp) ?_
  refine c_seq ?_
  have E := Keep.refl (K := NoK) w
  refine wp_reg zd (l_v (v_assign rfl) (l_nil (n_then (c_seq (wp_reg zd (l_v (zmI rfl) (l_v (zaI rfl) (l_nil (n_then ?_)))))))))
  refine c_ret (ret1v rfl zq (zvI rfl) ?_)
  exact ⟨rfl, E⟩
theorem Check_c {w : World} {F : Nat → Prop} {v : Value} {l : List EvV} (HSl : SlV tEv w F v l) (hn : l.length ≤ 100000) : CallsR Try.prog 23 #[v] w (fun o w' => o = .tuple #[.int .i64 (jdg l).1, .int .i64 (jdg l).2.1] ∧ Ext w w') := by
 obtain ⟨al, cl, rfl⟩ := HSl.shape
 refine enter 11 Try.func23 rfl rfl (by simp) ?_
 refine c_seq ?_
 have E := Keep.refl (K := NoK) w
 replace HSl := HSl.all
 refine wp_reg zd (l_v (v_assign rfl) (l_v (v_assign rfl) (l_nil (n_then (c_seq (wp_reg zd (l_v (zmS rfl) (l_to (to_f1 zk (zvS rfl) (CallsR.mono (run_c HSl hn) ?_))))))))))
 rintro _ w3 ⟨⟨oa, oc, ma, mc, rfl, HSo, HSm⟩, e3⟩
 have := e3.size
 refine l_to (to_alloc (z := .agg #[.int .i64 0, .int .i64 0, .slice none 0 0, .slice none 0 0]) (by unfold kZero; kernel_rfl) ?_)
 rintro b101 w101 zb101 HB101 e101 z101
 have := e101.size
 try simp only [Value.cells] at HB101
 refine l_to (to_storeA (n := 4) rfl rfl (zvA rfl) zk rfl dj6 HB101 dj5 ?_)
 rintro w102 HX102 k102 z102
 have := k102.size
 replace HB101 := HX102
 clear HX102
 try simp only [zS, Nat.zero_add, Nat.reduceAdd, List.drop_nil] at HB101
 refine l_nil (n_then (c_seq (wp_regd (NoK) zk zd zd ?_)))
 refine rt_v (fun vals w hR hd => v_fieldAddr (off := 0) (ft := 3) zk rfl) ?_
 refine rt_v (fun vals w hR hd => v_load zk (hd 0 rfl) (by first | exact (HB101.ext hR).pv 0 _ rfl | assumption)) ?_
 refine rt_v (fun vals w hR hd => v_fieldAddr (off := 1) (ft := 29) zk rfl) ?_
 refine rt_v (fun vals w hR hd => v_load zk (hd 2 rfl) (by first | exact (HB101.ext hR).pv 1 _ rfl | assumption)) ?_
 refine rt_v (fun vals w hR hd => v_assign (t := .int _ _) (hd 1 rfl)) ?_
 refine rt_v (fun vals w hR hd => v_assign (t := .int _ _) (hd 3 rfl)) ?_
 refine rt_nil (fun w103 e103 => ?_)
 replace HSl := ((HSl.ext e3).ext e101).keep k102 dj1
 rintro _ rfl _ rfl _ rfl _ rfl _ rfl _ rfl
 have := e103.size
 refine fin_nil (n_then (c_ret (ret2v rfl zq zq (zvI rfl) (zvI rfl) ?_)))
 replace E := (((E.trans e3.keep).trans e101.keep).step k102 dj3).trans e103.keep
 exact ⟨rfl, E⟩
theorem Order_c {w : World} {F : Nat → Prop} {v : Value} {l : List EvV} (HSl : SlV tEv w F v l) (hn : l.length ≤ 100000) : CallsR Try.prog 28 #[v] w (fun o w' => ∃ oa oc, o = .tuple #[.slice oa (jdg l).2.2.1.length oc, .int .i64 (jdg l).2.1] ∧ SlV (tInt .i64) w' AllB (.slice oa (jdg l).2.2.1.length oc) (intsN (jdg l).2.2.1) ∧ Ext w w') := by
 obtain ⟨al, cl, rfl⟩ := HSl.shape
 refine enter 11 Try.func28 rfl rfl (by simp) ?_
 refine c_seq ?_
 have E := Keep.refl (K := NoK) w
 replace HSl := HSl.all
 refine wp_reg zd (l_v (v_assign rfl) (l_v (v_assign rfl) (l_nil (n_then (c_seq (wp_reg zd (l_v (zmS rfl) (l_to (to_f1 zk (zvS rfl) (CallsR.mono (run_c HSl hn) ?_))))))))))
 rintro _ w3 ⟨⟨oa, oc, ma, mc, rfl, HSo, HSm⟩, e3⟩
 have := e3.size
 replace HSo := HSo.all
 refine l_to (to_alloc (z := .agg #[.int .i64 0, .int .i64 0, .slice none 0 0, .slice none 0 0]) (by unfold kZero; kernel_rfl) ?_)
 rintro b101 w101 zb101 HB101 e101 z101
 have := e101.size
 try simp only [Value.cells] at HB101
 refine l_to (to_storeA (n := 4) rfl rfl (zvA rfl) zk rfl dj6 HB101 dj5 ?_)
 rintro w102 HX102 k102 z102
 have := k102.size
 replace HB101 := HX102
 clear HX102
 try simp only [zS, Nat.zero_add, Nat.reduceAdd, List.drop_nil] at HB101
 refine l_nil (n_then (c_seq (wp_regd (NoK) zk zd zd ?_)))
 refine rt_v (fun vals w hR hd => v_fieldAddr (off := 2) (ft := 53) zk rfl) ?_
 refine rt_v (fun vals w hR hd => v_load zk (hd 0 rfl) (by first | exact (HB101.ext hR).pv 2 _ rfl | assumption)) ?_
 refine rt_v (fun vals w hR hd => v_fieldAddr (off := 1) (ft := 29) zk rfl) ?_
 refine rt_v (fun vals w hR hd => v_load zk (hd 2 rfl) (by first | exact (HB101.ext hR).pv 1 _ rfl | assumption)) ?_
 refine rt_v (fun vals w hR hd => v_assign (t := .slice _ _ _) (hd 1 rfl)) ?_
 refine rt_v (fun vals w hR hd => v_assign (t := .int _ _) (hd 3 rfl)) ?_
 refine rt_nil (fun w103 e103 => ?_)
 replace HSl := ((HSl.ext e3).ext e101).keep k102 dj1
 replace HSo := (HSo.ext e101).keep k102 dj1
 rintro _ rfl _ rfl _ rfl _ rfl _ rfl _ rfl
 have := e103.size
 refine fin_nil (n_then (c_ret (ret2v rfl zq zq (zvS rfl) (zvI rfl) ?_)))
 replace E := (((E.trans e3.keep).trans e101.keep).step k102 dj3).trans e103.keep
 replace HSo := HSo.ext e103
 exact ⟨_, _, rfl, HSo.allB, E⟩
theorem Map_c {w : World} {F : Nat → Prop} {v : Value} {l : List EvV} (HSl : SlV tEv w F v l) (hn : l.length ≤ 100000) : CallsR Try.prog 29 #[v] w (fun o w' => ∃ ma mc, o = .tuple #[.slice ma (jdg l).2.2.2.length mc, .int .i64 (jdg l).2.1] ∧ SlV tPr w' AllB (.slice ma (jdg l).2.2.2.length mc) (jdg l).2.2.2 ∧ Ext w w') := by
 obtain ⟨al, cl, rfl⟩ := HSl.shape
 refine enter 11 Try.func29 rfl rfl (by simp) ?_
 refine c_seq ?_
 have E := Keep.refl (K := NoK) w
 replace HSl := HSl.all
 refine wp_reg zd (l_v (v_assign rfl) (l_v (v_assign rfl) (l_nil (n_then (c_seq (wp_reg zd (l_v (zmS rfl) (l_to (to_f1 zk (zvS rfl) (CallsR.mono (run_c HSl hn) ?_))))))))))
 rintro _ w3 ⟨⟨oa, oc, ma, mc, rfl, HSo, HSm⟩, e3⟩
 have := e3.size
 replace HSm := HSm.all
 refine l_to (to_alloc (z := .agg #[.int .i64 0, .int .i64 0, .slice none 0 0, .slice none 0 0]) (by unfold kZero; kernel_rfl) ?_)
 rintro b101 w101 zb101 HB101 e101 z101
 have := e101.size
 try simp only [Value.cells] at HB101
 refine l_to (to_storeA (n := 4) rfl rfl (zvA rfl) zk rfl dj6 HB101 dj5 ?_)
 rintro w102 HX102 k102 z102
 have := k102.size
 replace HB101 := HX102
 clear HX102
 try simp only [zS, Nat.zero_add, Nat.reduceAdd, List.drop_nil] at HB101
 refine l_nil (n_then (c_seq (wp_regd (NoK) zk zd zd ?_)))
 refine rt_v (fun vals w hR hd => v_fieldAddr (off := 3) (ft := 22) zk rfl) ?_
 refine rt_v (fun vals w hR hd => v_load zk (hd 0 rfl) (by first | exact (HB101.ext hR).pv 3 _ rfl | assumption)) ?_
 refine rt_v (fun vals w hR hd => v_fieldAddr (off := 1) (ft := 29) zk rfl) ?_
 refine rt_v (fun vals w hR hd => v_load zk (hd 2 rfl) (by first | exact (HB101.ext hR).pv 1 _ rfl | assumption)) ?_
 refine rt_v (fun vals w hR hd => v_assign (t := .slice _ _ _) (hd 1 rfl)) ?_
 refine rt_v (fun vals w hR hd => v_assign (t := .int _ _) (hd 3 rfl)) ?_
 refine rt_nil (fun w103 e103 => ?_)
 replace HSl := ((HSl.ext e3).ext e101).keep k102 dj1
 replace HSm := (HSm.ext e101).keep k102 dj1
 rintro _ rfl _ rfl _ rfl _ rfl _ rfl _ rfl
 have := e103.size
 refine fin_nil (n_then (c_ret (ret2v rfl zq zq (zvS rfl) (zvI rfl) ?_)))
 replace E := (((E.trans e3.keep).trans e101.keep).step k102 dj3).trans e103.keep
 replace HSm := HSm.ext e103
 exact ⟨_, _, rfl, HSm.allB, E⟩
theorem ints_c {w : World} {F G : Nat → Prop} {v u : Value} {a b : List Int} (HSa : SlV (tInt .i64) w F v a) (HSb : SlV (tInt .i64) w G u b) : CallsR Try.prog 31 #[v, u] w (fun o w' => o = .bool (decide (a = b)) ∧ Ext w w') := by
 obtain ⟨a1, c1, rfl⟩ := HSa.shape
 obtain ⟨a2, c2, rfl⟩ := HSb.shape
 have hmx := HSa.len_max
 refine enter 26 Try.func31 rfl rfl (by simp) ?_
 refine c_seq ?_
 have E := Keep.refl (K := NoK) w
 replace HSa := HSa.all
 replace HSb := HSb.all
 refine wp_reg zd (l_v (v_assign rfl) (l_nil (n_then (c_seq (c_seq (wp_reg zd (l_v (zmS rfl) (l_v (v_len (et := 3) zk rfl) ?_))))))))
 refine l_v (zmS rfl) (l_v (v_len (et := 3) zk rfl) ?_)
 refine l_v (v_neq rfl rfl) ?_
 refine l_nil (n_then (c_cond rfl rfl (fun hc => ?_) (fun hc => ?_)))
 ·
  refine c_seq (wp_reg zd (l_v (v_assign rfl) (l_nil (n_then (c_ret (r_then (ret1v rfl zq (zvB rfl) ?_)))))))
  refine ⟨?_, E⟩
  rw [decide_eq_false]
  intro h; subst h; simp at hc
 have hlen : a.length = b.length := by simp at hc; omega
 refine c_skip (n_then (c_seq (c_seq (wp_reg zd (l_v (v_assign rfl) (l_nil (n_then (c_block (c_loop (τ := Nat) [4, 5, 11, 12, 13, 14, 15, 16, 17, 18, 19, 20, 21, 22, 23, 24, 25] (fun i => [(5, .int .i64 i)]) (fun i W => Ext w W ∧ Keep (NoK) w W ∧ i ≤ a.length ∧ a.take i = b.take i) (fun i => a.length - i) 0 (by exact ⟨rfl, trivial⟩) (by exact ⟨E, Keep.refl _, Nat.zero_le _, rfl⟩) ?_)))))))))
 rintro i w101 j ⟨E, EL1, h1, h2⟩
 have := EL1.size
 refine c_seq (c_seq (wp_reg zd (l_v (zmI rfl) (l_v (zmS rfl) (l_v (v_len (et := 3) zk rfl) ?_)))))
 refine l_v (v_lss rfl rfl) ?_
 replace HSa := HSa.ext EL1
 replace HSb := HSb.ext EL1
 refine l_nil (n_then (c_cond rfl rfl (fun hlt => ?_) (fun hlt => ?_)))
 ·
  have hlt := dtrue hlt
  obtain ⟨x, hx, _⟩ := getE (l := a) (i := i) zo
  obtain ⟨y, hy, _⟩ := getE (l := b) (i := i) zo
  obtain ⟨q1, cs1, rfl, hq1, _, HP1, rfl, _⟩ := HSa.el hx
  obtain ⟨q2, cs2, rfl, hq2, _, HP2, rfl, _⟩ := HSb.el hy
  refine c_skip (n_then (c_seq (c_block (c_seq (wp_regd (NoK) zk zd zd ?_)))))
  refine rt_v (fun vals w hR hd => zmS rfl) ?_
  refine rt_v (fun vals w hR hd => zmI rfl) ?_
  refine rt_v (fun vals w hR hd => v_indexAddr (et := 3) (sz := 1) (k := i) zk zk (hd 0 rfl) (hd 1 rfl) (by first | rfl | omega) zo) ?_
  refine rt_v (fun vals w hR hd => v_load zk (hd 2 rfl) (by first | exact pv_1 (HP2.ext hR) | exact pv_1 (HP1.ext hR) | assumption)) ?_
  refine rt_v (fun vals w hR hd => zmS rfl) ?_
  refine rt_v (fun vals w hR hd => zmI rfl) ?_
  refine rt_v (fun vals w hR hd => v_indexAddr (et := 3) (sz := 1) (k := i) zk zk (hd 4 rfl) (hd 5 rfl) (by first | rfl | omega) zo) ?_
  refine rt_v (fun vals w hR hd => v_load zk (hd 6 rfl) (by first | exact pv_1 (HP2.ext hR) | exact pv_1 (HP1.ext hR) | assumption)) ?_
  refine rt_v (fun vals w hR hd => v_neq (hd 3 rfl) (hd 7 rfl)) ?_
  refine rt_nil (fun w102 e102 => ?_)
  rintro _ rfl _ rfl _ rfl _ rfl _ rfl _ rfl _ rfl _ rfl _ rfl
  have := e102.size
  replace E := E.trans e102.keep
  replace HSa := HSa.ext e102
  replace HSb := HSb.ext e102
  replace EL1 := EL1.trans e102.keep
  replace HP1 := HP1.ext e102
  replace HP2 := HP2.ext e102
  refine fin_nil (n_then (c_cond rfl rfl (fun h25 => ?_) (fun h25 => ?_)))
  ·
   refine c_seq (wp_reg zd (l_v (v_assign rfl) (l_nil (n_then (c_ret (r_blk (r_then (r_then (r_blk ?_)))))))))
   refine r_then (ret1v rfl zq (zvB rfl) ?_)
   refine ⟨?_, E⟩
   rw [decide_eq_false]
   intro h
   rw [h, hy] at hx; cases hx; simp at h25
  refine c_skip (n_blk (n_then (wp_reg zd (l_v (zmI rfl) (l_v (v_add rfl rfl (by first | exact wr_i64 zo zo | rfl)) ?_)))))
  refine l_v (zaI rfl) (l_nil (n_then (⟨i + 1, _, rfl, by (repeat (first | exact Off.of_over _ _ _ | refine Off.upd ?_ zq _ | refine Off.overs ?_ zq _)), ⟨by first | rfl | exact congrArg (Value.int _) zo | (simp; done), trivial⟩, ⟨E, EL1, ?_⟩, ?_⟩)))
  ·
   refine ⟨by omega, ?_⟩
   have hs : x = y := by simpa using h25
   rw [List.take_add_one, List.take_add_one, hx, hy, h2, hs]
  (dsimp only; omega)
 refine c_exit (x_then (x_then (x_hit (n_then (c_seq (wp_reg zd (l_v (v_assign rfl) (l_nil (n_then ?_)))))))))
 refine c_ret (ret1v rfl zq (zvB rfl) ?_)
 refine ⟨?_, E⟩
 have hlt := dfalse hlt
 rw [List.take_of_length_le zo, List.take_of_length_le zo] at h2
 rw [decide_eq_true h2]
def saysB (n e : Int) (os : List Int) (l : List EvV) : Bool := ((decide ((jdg l).1 = n) && decide ((jdg l).2.1 = e)) && decide ((jdg l).2.1 = e)) && decide (intsN (jdg l).2.2.1 = os)
theorem says_c {w : World} {F G : Nat → Prop} {v u : Value} {n e : Int} {os : List Int} {l : List EvV} (HSo : SlV (tInt .i64) w G u os) (HSl : SlV tEv w F v l) (hn : l.length ≤ 100000) : CallsR Try.prog 25 #[.int .i64 n, .int .i64 e, u, v] w (fun o w' => o = .bool (saysB n e os l) ∧ Ext w w') := by
 obtain ⟨al, cl, rfl⟩ := HSl.shape
 obtain ⟨ao, co, rfl⟩ := HSo.shape
 refine enter 43 Try.func25 rfl rfl (by simp) ?_
 refine c_seq ?_
 have E := Keep.refl (K := NoK) w
 replace HSl := HSl.all
 replace HSo := HSo.all
 refine wp_reg zd (l_v (v_assign rfl) (l_nil (n_then (c_seq (wp_reg zd (l_v (zmS rfl) (l_to (to_f1 zk (zvS rfl) (CallsR.mono (Check_c HSl hn) ?_)))))))))
 rintro _ w101 ⟨rfl, e101⟩
 have := e101.size
 refine l_v (zmT rfl) (l_v (v_extract (t := .int _ _) rfl rfl) (l_v (v_extract (t := .int _ _) rfl rfl) (l_v (zaI rfl) (l_v (zaI rfl) (l_nil (n_then (c_seq (wp_reg zd (l_v (zmS rfl) ?_)))))))))
 replace HSl := HSl.ext e101
 refine l_to (to_f1 zk (zvS rfl) (CallsR.mono (Order_c HSl hn) ?_))
 rintro _ w4 ⟨oa, oc, rfl, HSx, e4⟩
 have := e4.size
 refine l_v (zmT rfl) (l_v (v_extract (t := .slice _ _ _) rfl rfl) (l_v (v_extract (t := .int _ _) rfl rfl) (l_v (zaS rfl) (l_v (zaI rfl) (l_nil (n_then (c_seq (wp_reg zd (l_v (zmI rfl) ?_)))))))))
 refine l_v (zmI rfl) (l_v (v_eql rfl rfl) ?_)
 refine l_v (zmB rfl) (l_g1 rfl rfl (fun hG => zmI rfl) (l_g1f rfl rfl (fun hG => to_f1 zk (gd hG rfl) (num_c)) ?_))
 rintro w102 e102
 have := e102.size
 refine l_g1 rfl rfl (fun hG => zmI rfl) (l_g1 rfl rfl (fun hG => v_eql (gd hG rfl) (gd hG rfl)) ?_)
 refine l_v (v_and rfl rfl) ?_
 refine l_v (zmB rfl) (l_g1 rfl rfl (fun hG => zmI rfl) (l_g1f rfl rfl (fun hG => to_f1 zk (gd hG rfl) (num_c)) ?_))
 rintro w103 e103
 have := e103.size
 refine l_g1 rfl rfl (fun hG => zmI rfl) (l_g1 rfl rfl (fun hG => v_eql (gd hG rfl) (gd hG rfl)) ?_)
 refine l_v (v_and rfl rfl) ?_
 replace HSo := (((HSo.ext e101).ext e4).ext e102).ext e103
 replace HSx := (HSx.ext e102).ext e103
 refine l_v (zmB rfl) (l_g1 rfl rfl (fun hG => zmS rfl) (l_g1 rfl rfl (fun hG => zmS rfl) (l_g1f rfl rfl (fun hG => to_f2 zk (gd hG rfl) (gd hG rfl) (ints_c HSx HSo)) ?_)))
 rintro w104 e104
 have := e104.size
 refine l_v (v_and rfl rfl) ?_
 refine l_v (zaB rfl) (l_nil (n_then (c_ret (ret1v rfl zq (zvB rfl) ?_))))
 replace E := ((((E.trans e101.keep).trans e4.keep).trans e102.keep).trans e103.keep).trans e104.keep
 exact ⟨rfl, E⟩
end Go.Proofs.Ytifnkmflmgnfjaa

namespace Go.Proofs.Ytifnkmflmgnfjaa
open Go.Vc
set_option linter.unusedVariables false
set_option linter.unusedSimpArgs false
set_option maxRecDepth 100000

theorem tEv_mk {w : World} {F : Nat → Prop} {k1 k2 : List Value} {k c n : Int} {a : AkV} {x : AnV} (h1 : tAk.rep w F k1 a) (h2 : tAn.rep w F k2 x) (i1 : I64' k) (i2 : I64' c) (i3 : I64' n) : tEv.rep w F (.int .i64 k :: .int .i64 c :: .int .i64 n :: (k1 ++ k2)) (k, c, n, a, x) :=
  ⟨[_], _, rfl, ⟨rfl, wf_of_i64 i1⟩, [_], _, rfl, ⟨rfl, wf_of_i64 i2⟩, [_], _, rfl, ⟨rfl, wf_of_i64 i3⟩, _, _, rfl, h1, h2⟩
theorem put_c {w : World} {c n : Int} {ks vs : List UInt8} (hc : I64' c) (hn : I64' n) (hk : ks.length ≤ 1000000) (hv : vs.length ≤ 1000000) : CallsR Try.prog 21 #[.int .i64 c, .int .i64 n, .string ⟨ks.toArray⟩, .string ⟨vs.toArray⟩] w (fun o w' => AgV tEv w' (fun b => w.heap.size ≤ b) o (evPut c n ks vs) ∧ Ext w w') := by
 refine enter 17 Try.func21 rfl rfl (by simp) ?_
 refine c_seq ?_
 have E := Keep.refl (K := NoK) w
 refine wp_reg zd (l_to (to_alloc (z := (.agg #[.int .i64 0, .int .i64 0, .int .i64 0, .int .i64 0, .slice none 0 0, .slice none 0 0, .slice none 0 0, .slice none 0 0, .bool false, .int .i64 0, .int .i64 0, .slice none 0 0, .slice none 0 0])) (by unfold kZero; kernel_rfl) ?_))
 rintro b1 w1 zb1 HB1 e1 z1
 have := e1.size
 try simp only [Value.cells] at HB1
 refine l_nil (n_then (c_seq (wp_reg zd (l_v (zmI rfl) (l_v (zmI rfl) (l_v (v_move (t := .string _) rfl) (l_to (to_s2b (et := 5) zk zk zk rfl ((by simp only [maxLen]; omega)) ?_))))))))
 rintro b2 c2 w2 zb2 HS2 e2 z2
 have := e2.size
 refine l_v (v_move (t := .string _) rfl) (l_to (to_s2b (et := 5) zk zk zk rfl ((by simp only [maxLen]; omega)) ?_))
 rintro b3 c3 w3 zb3 HS3 e3 z3
 have := e3.size
 refine l_v (v_build (pl := [(0, 1), (1, 1), (2, 1), (3, 1), (4, 1), (5, 1), (6, 1)]) (z := .agg #[.int .i64 0, .slice none 0 0, .slice none 0 0, .slice none 0 0, .slice none 0 0, .bool false, .int .i64 0]) (zl := [.int .i64 0, .slice none 0 0, .slice none 0 0, .slice none 0 0, .slice none 0 0, .bool false, .int .i64 0]) zk (by unfold kZero; kernel_rfl) rfl rfl (cells := [_, _, _, _, _, _, _]) rfl) ?_
 refine l_v (v_build (pl := [(0, 1), (1, 1), (2, 1), (3, 7), (10, 3)]) (z := .agg #[.int .i64 0, .int .i64 0, .int .i64 0, .int .i64 0, .slice none 0 0, .slice none 0 0, .slice none 0 0, .slice none 0 0, .bool false, .int .i64 0, .int .i64 0, .slice none 0 0, .slice none 0 0]) (zl := [.int .i64 0, .int .i64 0, .int .i64 0, .int .i64 0, .slice none 0 0, .slice none 0 0, .slice none 0 0, .slice none 0 0, .bool false, .int .i64 0, .int .i64 0, .slice none 0 0, .slice none 0 0]) zk (by unfold kZero; kernel_rfl) rfl rfl (cells := [_, _, _, _, _, _, _, _, _, _, _, _, _]) rfl) ?_
 replace HB1 := (HB1.ext e2).ext e3
 refine l_to (to_storeA (n := 13) rfl rfl (zvA rfl) zk rfl dj6 HB1 dj5 ?_)
 rintro w101 HX101 k101 z101
 have := k101.size
 replace HB1 := HX101
 clear HX101
 try simp only [zS, Nat.zero_add, Nat.reduceAdd, List.drop_nil] at HB1
 refine l_nil (n_then (c_ret (ret1c (n := 13) rfl zq rfl zk HB1.pv rfl ?_)))
 replace E := (((E.trans e1.keep).trans e2.keep).trans e3.keep).step k101 dj3
 replace HS2 := (HS2.ext e3).keep k101 dj1
 replace HS3 := HS3.keep k101 dj1
 exact ⟨⟨_, rfl, tEv_mk (tAk_mk (HS2.mono fun b _ h => by omega) (SlV.nil _ _ _) (HS3.mono fun b _ h => by omega) (SlV.nil _ _ _) ⟨by decide, by decide⟩ ⟨by decide, by decide⟩) (tAn_mk (SlV.nil _ _ _) (SlV.nil _ _ _) ⟨by decide, by decide⟩) ⟨by decide, by decide⟩ hc hn⟩, E⟩
theorem get_c {w : World} {c n : Int} {ks : List UInt8} (hc : I64' c) (hn : I64' n) (hk : ks.length ≤ 1000000) : CallsR Try.prog 26 #[.int .i64 c, .int .i64 n, .string ⟨ks.toArray⟩] w (fun o w' => AgV tEv w' (fun b => w.heap.size ≤ b) o (evGet c n ks) ∧ Ext w w') := by
 refine enter 13 Try.func26 rfl rfl (by simp) ?_
 refine c_seq ?_
 have E := Keep.refl (K := NoK) w
 refine wp_reg zd (l_to (to_alloc (z := (.agg #[.int .i64 0, .int .i64 0, .int .i64 0, .int .i64 0, .slice none 0 0, .slice none 0 0, .slice none 0 0, .slice none 0 0, .bool false, .int .i64 0, .int .i64 0, .slice none 0 0, .slice none 0 0])) (by unfold kZero; kernel_rfl) ?_))
 rintro b1 w1 zb1 HB1 e1 z1
 have := e1.size
 try simp only [Value.cells] at HB1
 refine l_nil (n_then (c_seq (wp_reg zd (l_v (zmI rfl) (l_v (zmI rfl) (l_v (v_move (t := .string _) rfl) (l_to (to_s2b (et := 5) zk zk zk rfl ((by simp only [maxLen]; omega)) ?_))))))))
 rintro b2 c2 w2 zb2 HS2 e2 z2
 have := e2.size
 refine l_v (v_build (pl := [(0, 1), (1, 1), (2, 1), (3, 1), (4, 1), (5, 1), (6, 1)]) (z := .agg #[.int .i64 0, .slice none 0 0, .slice none 0 0, .slice none 0 0, .slice none 0 0, .bool false, .int .i64 0]) (zl := [.int .i64 0, .slice none 0 0, .slice none 0 0, .slice none 0 0, .slice none 0 0, .bool false, .int .i64 0]) zk (by unfold kZero; kernel_rfl) rfl rfl (cells := [_, _, _, _, _, _, _]) rfl) ?_
 refine l_v (v_build (pl := [(0, 1), (1, 1), (2, 1), (3, 7), (10, 3)]) (z := .agg #[.int .i64 0, .int .i64 0, .int .i64 0, .int .i64 0, .slice none 0 0, .slice none 0 0, .slice none 0 0, .slice none 0 0, .bool false, .int .i64 0, .int .i64 0, .slice none 0 0, .slice none 0 0]) (zl := [.int .i64 0, .int .i64 0, .int .i64 0, .int .i64 0, .slice none 0 0, .slice none 0 0, .slice none 0 0, .slice none 0 0, .bool false, .int .i64 0, .int .i64 0, .slice none 0 0, .slice none 0 0]) zk (by unfold kZero; kernel_rfl) rfl rfl (cells := [_, _, _, _, _, _, _, _, _, _, _, _, _]) rfl) ?_
 replace HB1 := HB1.ext e2
 refine l_to (to_storeA (n := 13) rfl rfl (zvA rfl) zk rfl dj6 HB1 dj5 ?_)
 rintro w101 HX101 k101 z101
 have := k101.size
 replace HB1 := HX101
 clear HX101
 try simp only [zS, Nat.zero_add, Nat.reduceAdd, List.drop_nil] at HB1
 refine l_nil (n_then (c_ret (ret1c (n := 13) rfl zq rfl zk HB1.pv rfl ?_)))
 replace E := ((E.trans e1.keep).trans e2.keep).step k101 dj3
 replace HS2 := HS2.keep k101 dj1
 exact ⟨⟨_, rfl, tEv_mk (tAk_mk (HS2.mono fun b _ h => by omega) (SlV.nil _ _ _) (SlV.nil _ _ _) (SlV.nil _ _ _) ⟨by decide, by decide⟩ ⟨by decide, by decide⟩) (tAn_mk (SlV.nil _ _ _) (SlV.nil _ _ _) ⟨by decide, by decide⟩) ⟨by decide, by decide⟩ hc hn⟩, E⟩
theorem told_c {w : World} {F : Nat → Prop} {v : Value} {c n e : Int} {ps : List PrV} (HS1 : SlV tPr w F v ps) (hc : I64' c) (hn : I64' n) (he : I64 e) : CallsR Try.prog 22 #[.int .i64 c, .int .i64 n, .int .i64 e, v] w (fun o w' => AgV tEv w' F o (evTold c n e ps) ∧ Ext w w') := by
 obtain ⟨a1, c1, rfl⟩ := HS1.shape
 replace HS1 := HS1.lt
 refine enter 15 Try.func22 rfl rfl (by simp) ?_
 refine c_seq ?_
 have E := Keep.refl (K := NoK) w
 refine wp_reg zd (l_to (to_alloc (z := (.agg #[.int .i64 0, .int .i64 0, .int .i64 0, .int .i64 0, .slice none 0 0, .slice none 0 0, .slice none 0 0, .slice none 0 0, .bool false, .int .i64 0, .int .i64 0, .slice none 0 0, .slice none 0 0])) (by unfold kZero; kernel_rfl) ?_))
 rintro b1 w1 zb1 HB1 e1 z1
 have := e1.size
 try simp only [Value.cells] at HB1
 refine l_nil (n_then (c_seq (wp_reg zd (l_v (zmI rfl) (l_v (zmI rfl) (l_v (zmI rfl) (l_v (zmS rfl) (l_v (v_build (pl := [(0, 1), (1, 1), (2, 1)]) (z := .agg #[.int .i64 0, .slice none 0 0, .slice none 0 0]) (zl := [.int .i64 0, .slice none 0 0, .slice none 0 0]) zk (by unfold kZero; kernel_rfl) rfl rfl (cells := [_, _, _]) rfl) ?_))))))))
 refine l_v (v_build (pl := [(0, 1), (1, 1), (2, 1), (3, 7), (10, 3)]) (z := .agg #[.int .i64 0, .int .i64 0, .int .i64 0, .int .i64 0, .slice none 0 0, .slice none 0 0, .slice none 0 0, .slice none 0 0, .bool false, .int .i64 0, .int .i64 0, .slice none 0 0, .slice none 0 0]) (zl := [.int .i64 0, .int .i64 0, .int .i64 0, .int .i64 0, .slice none 0 0, .slice none 0 0, .slice none 0 0, .slice none 0 0, .bool false, .int .i64 0, .int .i64 0, .slice none 0 0, .slice none 0 0]) zk (by unfold kZero; kernel_rfl) rfl rfl (cells := [_, _, _, _, _, _, _, _, _, _, _, _, _]) rfl) ?_
 refine l_to (to_storeA (n := 13) rfl rfl (zvA rfl) zk rfl dj6 HB1 dj5 ?_)
 rintro w101 HX101 k101 z101
 have := k101.size
 replace HB1 := HX101
 clear HX101
 try simp only [zS, Nat.zero_add, Nat.reduceAdd, List.drop_nil] at HB1
 refine l_nil (n_then (c_ret (ret1c (n := 13) rfl zq rfl zk HB1.pv rfl ?_)))
 replace E := (E.trans e1.keep).step k101 dj3
 replace HS1 := (HS1.ext e1).keep k101 dj1
 exact ⟨⟨_, rfl, tEv_mk (tAk_mk (SlV.nil _ _ _) (SlV.nil _ _ _) (SlV.nil _ _ _) (SlV.nil _ _ _) ⟨by decide, by decide⟩ ⟨by decide, by decide⟩) (tAn_mk (HS1.mono fun b _ h => h.1) (SlV.nil _ _ _) he) ⟨by decide, by decide⟩ hc hn⟩, E⟩
theorem pair_c {w : World} {ks vs : List UInt8} (hk : ks.length ≤ 1000000) (hv : vs.length ≤ 1000000) : CallsR Try.prog 24 #[.string ⟨ks.toArray⟩, .string ⟨vs.toArray⟩] w (fun o w' => AgV tPr w' (fun b => w.heap.size ≤ b) o (ks, vs) ∧ Ext w w') := by
 refine enter 10 Try.func24 rfl rfl (by simp) ?_
 refine c_seq ?_
 have E := Keep.refl (K := NoK) w
 refine wp_reg zd (l_to (to_alloc (z := (.agg #[.slice none 0 0, .slice none 0 0])) (by unfold kZero; kernel_rfl) ?_))
 rintro b1 w1 zb1 HB1 e1 z1
 have := e1.size
 try simp only [Value.cells] at HB1
 refine l_nil (n_then (c_seq (wp_reg zd (l_v (v_move (t := .string _) rfl) (l_to (to_s2b (et := 5) zk zk zk rfl ((by simp only [maxLen]; omega)) ?_))))))
 rintro b2 c2 w2 zb2 HS2 e2 z2
 have := e2.size
 refine l_v (v_move (t := .string _) rfl) (l_to (to_s2b (et := 5) zk zk zk rfl ((by simp only [maxLen]; omega)) ?_))
 rintro b3 c3 w3 zb3 HS3 e3 z3
 have := e3.size
 refine l_v (v_build (pl := [(0, 1), (1, 1)]) (z := .agg #[.slice none 0 0, .slice none 0 0]) (zl := [.slice none 0 0, .slice none 0 0]) zk (by unfold kZero; kernel_rfl) rfl rfl (cells := [_, _]) rfl) ?_
 replace HB1 := (HB1.ext e2).ext e3
 refine l_to (to_storeA (n := 2) rfl rfl (zvA rfl) zk rfl dj6 HB1 dj5 ?_)
 rintro w101 HX101 k101 z101
 have := k101.size
 replace HB1 := HX101
 clear HX101
 try simp only [zS, Nat.zero_add, Nat.reduceAdd, List.drop_nil] at HB1
 refine l_nil (n_then (c_ret (ret1c (n := 2) rfl zq rfl zk HB1.pv rfl ?_)))
 replace E := (((E.trans e1.keep).trans e2.keep).trans e3.keep).step k101 dj3
 replace HS2 := (HS2.ext e3).keep k101 dj1
 replace HS3 := HS3.keep k101 dj1
 exact ⟨⟨_, rfl, tPr_mk (HS2.mono fun b _ h => by omega) (HS3.mono fun b _ h => by omega)⟩, E⟩
theorem says_t {w : World} {F G : Nat → Prop} {v u : Value} {n e : Int} {os : List Int} {l : List EvV} (HSo : SlV (tInt .i64) w G u os) (HSl : SlV tEv w F v l) (hn : l.length ≤ 100000) (h : saysB n e os l = true) : CallsR Try.prog 25 #[.int .i64 n, .int .i64 e, u, v] w (fun o w' => o = .bool true ∧ Ext w w') := by
  rw [← h]; exact says_c HSo HSl hn
theorem reps_i2 {w : World} {F : Nat → Prop} {x y : Int} (h1 : I64' x) (h2 : I64' y) : ∀ i z, [x, y][i]? = some z → (tInt .i64).rep w F ((([.int .i64 x, .int .i64 y] : List Value).drop (i * (tInt .i64).sz)).take (tInt .i64).sz) z := by
  intro i z hz
  match i, hz with
  | 0, hz => obtain rfl : x = z := by simpa using hz
             exact ⟨rfl, wf_of_i64 h1⟩
  | 1, hz => obtain rfl : y = z := by simpa using hz
             exact ⟨rfl, wf_of_i64 h2⟩
  | i + 2, hz => simp at hz
theorem AgV.allB {α : Type} {t : Ty α} {w : World} {F : Nat → Prop} {v : Value} {x : α} (h : AgV t w F v x) : AgV t w AllB v x := h.mono fun _ _ _ => trivial
theorem kb1 : saysB 0 0 [0, 1] kn1 = true := by unfold saysB; rw [kn1_ok]; decide
theorem kb2 : saysB 0 0 [1, 0] kn2 = true := by unfold saysB; rw [kn2_ok]; decide
theorem kb3 : saysB 0 9 [] kn3 = true := by unfold saysB; rw [kn3_ok]; decide
theorem kb4 : saysB 0 0 [0, 1] kn4 = true := by unfold saysB; rw [kn4_ok]; decide
theorem kb5 : saysB 0 2 [] kn5 = true := by unfold saysB; rw [kn5_ok]; decide
theorem kb6 : saysB 1 2 [] kn6 = true := by unfold saysB; rw [kn6_ok]; decide
theorem nil_i {w : World} : SlV (tInt .i64) w AllB (.slice none 0 0) [] := SlV.nil _ _ _
set_option maxHeartbeats 4000000 in
theorem known_c {w : World} : CallsR Try.prog 13 #[] w (fun o w' => o = .bool true ∧ Ext w w') := by
 refine enter 52 Try.func13 rfl rfl (by simp) ?_
 refine c_seq ?_
 have E := Keep.refl (K := NoK) w
 refine wp_reg zd (l_v (v_assign rfl) (l_nil (n_then (c_seq (wp_reg zd (l_to (to_f4 zk (zvI rfl) (zvI rfl) (zvG rfl) (zvG rfl) (CallsR.mono (put_c (c := 1) (n := 1) (ks := [97]) (vs := [120]) ⟨by decide, by decide⟩ ⟨by decide, by decide⟩ zq zq) ?_))))))))
 rintro _ w1 ⟨HG1, e1⟩
 have := e1.size
 obtain ⟨a1, c1, a2, c2, a3, c3, a4, c4, a5, c5, a6, c6, rfl, _⟩ := HG1.ev
 replace HG1 := HG1.mono (F' := fun b => b < w1.heap.size) fun b hb h => hb
 refine l_to (to_f2 zk (zvG rfl) (zvG rfl) (CallsR.mono (pair_c (ks := [97]) (vs := [120]) zq zq) ?_))
 rintro _ w2 ⟨HG2, e2⟩
 have := e2.size
 obtain ⟨cs2, rfl, hr2⟩ := id HG2
 obtain ⟨f1, g1, f2, g2, rfl, _⟩ := tPr_cells hr2
 replace HG2 := HG2.mono (F' := fun b => b < w2.heap.size) fun b hb h => hb
 refine l_to (to_alloc (z := (.agg #[.int .i64 0, .int .i64 0, .int .i64 0, .int .i64 0, .slice none 0 0, .slice none 0 0, .slice none 0 0, .slice none 0 0, .bool false, .int .i64 0, .int .i64 0, .slice none 0 0, .slice none 0 0])) (by unfold kZero; kernel_rfl) ?_)
 rintro b3 w3 zb3 HB3 e3 z3
 have := e3.size
 try simp only [Value.cells] at HB3
 refine l_to (to_alloc (z := (.agg #[.slice none 0 0, .slice none 0 0])) (by unfold kZero; kernel_rfl) ?_)
 rintro b4 w4 zb4 HB4 e4 z4
 have := e4.size
 try simp only [Value.cells] at HB4
 replace HB3 := HB3.ext e4
 refine l_to (to_storeA (n := 13) rfl rfl (zvA rfl) zk rfl dj6 HB3 dj5 ?_)
 rintro w101 HX101 k101 z101
 have := k101.size
 replace HB3 := HX101
 clear HX101
 try simp only [zS, Nat.zero_add, Nat.reduceAdd, List.drop_nil] at HB3
 replace HB4 := HB4.keep k101 dj4
 refine l_to (to_storeA (n := 2) rfl rfl (zvA rfl) zk rfl dj6 HB4 dj5 ?_)
 rintro w102 HX102 k102 z102
 have := k102.size
 replace HB4 := HX102
 clear HX102
 try simp only [zS, Nat.zero_add, Nat.reduceAdd, List.drop_nil] at HB4
 refine l_nil (n_then (c_seq (wp_regd (NoK) zk zd zd ?_)))
 refine rt_to (fun v W => SlV (tInt .i64) W AllB v [0, 1]) (fun v w w' h k => h.ext k) (fun vals w hR hd => to_sliceN (t := tInt .i64) (xs := [0, 1]) (et := 3) (bytes := 8) (zl := [.int .i64 0, .int .i64 0]) (cells := [.int .i64 0, .int .i64 1]) zk zq zq (by unfold kZeros; kernel_rfl) rfl rfl rfl rfl (reps_i2 (F := NoK) ⟨by decide, by decide⟩ ⟨by decide, by decide⟩) (fun b w1 hb HO e z => ⟨e, HO.view.allB⟩)) ?_
 replace HB3 := HB3.keep k102 dj4
 refine rt_v (fun vals w hR hd => v_loadA zk rfl (by first | exact (HB4.ext hR).pv | exact (HB3.ext hR).pv | assumption) rfl) ?_
 refine rt_to (fun v W => AgV tEv W AllB v (evTold 1 1 0 [])) (fun v w w' h k => h.ext k) (fun vals w hR hd => to_f4 zk rfl rfl rfl rfl (CallsR.mono (told_c (c := 1) (n := 1) (e := 0) (SlV.nil _ _ AllB) ⟨by decide, by decide⟩ ⟨by decide, by decide⟩ ⟨by decide, by decide⟩) fun v w1 h => ⟨h.2, h.1⟩)) ?_
 refine rt_to (fun v W => AgV tEv W AllB v (evGet 2 1 [97])) (fun v w w' h k => h.ext k) (fun vals w hR hd => to_f3 zk rfl rfl rfl (CallsR.mono (get_c (c := 2) (n := 1) (ks := [97]) ⟨by decide, by decide⟩ ⟨by decide, by decide⟩ zq) fun v w1 h => ⟨h.2, AgV.allB h.1⟩)) ?_
 refine rt_v (fun vals w hR hd => v_loadA zk rfl (by first | exact (HB4.ext hR).pv | exact (HB3.ext hR).pv | assumption) rfl) ?_
 replace HG2 := (((HG2.ext e3).ext e4).keep k101 dj1).keep k102 dj1
 refine rt_to (fun v W => SlV tPr W AllB v [prA]) (fun v w w' h k => h.ext k) (fun vals w hR hd => to_slice1 (t := tPr) (et := 50) (bytes := 48) zk zq (hd 4 rfl) (AgV.rp (HG2.ext hR)) (fun b w1 hb HO e z => ⟨e, HO.view.allB⟩)) ?_
 refine rt_to (fun v W => AgV tEv W AllB v (evTold 2 1 0 [prA])) (fun v w w' h k => h.ext k) (fun vals w hR hd => to_f4 zk rfl rfl rfl (show _ = vals 5 from rfl) (CallsR.mono (told_c (c := 2) (n := 1) (e := 0) (show SlV tPr _ AllB _ [prA] from hd 5 rfl) ⟨by decide, by decide⟩ ⟨by decide, by decide⟩ ⟨by decide, by decide⟩) fun v w1 h => ⟨h.2, h.1⟩)) ?_
 replace HG1 := ((((HG1.ext e2).ext e3).ext e4).keep k101 dj1).keep k102 dj1
 refine rt_to (fun v W => SlV tEv W AllB v kn1) (fun v w w' h k => h.ext k) (fun vals w hR hd => to_sliceAg (t := tEv) (xs := kn1) (vs := [_, vals 2, vals 3, vals 6]) (et := 44) (bytes := 200) (zl := (List.replicate 4 ([.int .i64 0, .int .i64 0, .int .i64 0, .int .i64 0, .slice none 0 0, .slice none 0 0, .slice none 0 0, .slice none 0 0, .bool false, .int .i64 0, .int .i64 0, .slice none 0 0, .slice none 0 0] : List Value)).flatten) zk zq zq (by unfold kZeros; kernel_rfl) rfl (parts4 (hd 1 rfl) (show _ = vals 2 from rfl) (show _ = vals 3 from rfl) (show _ = vals 6 from rfl)) rfl ⟨AgV.allB (HG1.ext hR), (show AgV tEv _ AllB _ (evTold 1 1 0 []) from hd 2 rfl), (show AgV tEv _ AllB _ (evGet 2 1 [97]) from hd 3 rfl), (show AgV tEv _ AllB _ (evTold 2 1 0 [prA]) from hd 6 rfl), trivial⟩ (fun b w1 hb HO e z => ⟨e, HO.view.allB⟩)) ?_
 refine rt_to (fun v w => v = (.bool true)) (fun v w w' h k => h) (fun vals w hR hd => to_f4 zk rfl rfl (show _ = vals 0 from rfl) (show _ = vals 7 from rfl) (CallsR.mono (says_t (show SlV (tInt .i64) _ AllB _ [0, 1] from hd 0 rfl) (show SlV tEv _ AllB _ kn1 from hd 7 rfl) zq kb1) fun v w1 h => ⟨h.2, h.1⟩)) ?_
 refine rt_v (fun vals w hR hd => v_move (t := .bool _) (hd 8 rfl)) ?_
 refine rt_hto (fun v W => SlV (tInt .i64) W AllB v [1, 0]) (fun v w w' h k => h.ext k) rfl (fun vals w hd => hd 9 rfl) (fun vals w hR hd => to_sliceN (t := tInt .i64) (xs := [1, 0]) (et := 3) (bytes := 8) (zl := [.int .i64 0, .int .i64 0]) (cells := [.int .i64 1, .int .i64 0]) zk zq zq (by unfold kZeros; kernel_rfl) rfl rfl rfl rfl (reps_i2 (F := NoK) ⟨by decide, by decide⟩ ⟨by decide, by decide⟩) (fun b w1 hb HO e z => ⟨e, HO.view.allB⟩)) ?_
 refine rt_hv rfl (fun vals w hd => hd 9 rfl) (fun vals w hR hd => v_loadA zk rfl (by first | exact (HB4.ext hR).pv | exact (HB3.ext hR).pv | assumption) rfl) ?_
 refine rt_hto (fun v W => AgV tEv W AllB v (evGet 2 1 [97])) (fun v w w' h k => h.ext k) rfl (fun vals w hd => hd 9 rfl) (fun vals w hR hd => to_f3 zk rfl rfl rfl (CallsR.mono (get_c (c := 2) (n := 1) (ks := [97]) ⟨by decide, by decide⟩ ⟨by decide, by decide⟩ zq) fun v w1 h => ⟨h.2, AgV.allB h.1⟩)) ?_
 refine rt_hto (fun v W => AgV tEv W AllB v (evTold 2 1 6 [])) (fun v w w' h k => h.ext k) rfl (fun vals w hd => hd 9 rfl) (fun vals w hR hd => to_f4 zk rfl rfl rfl rfl (CallsR.mono (told_c (c := 2) (n := 1) (e := 6) (SlV.nil _ _ AllB) ⟨by decide, by decide⟩ ⟨by decide, by decide⟩ ⟨by decide, by decide⟩) fun v w1 h => ⟨h.2, h.1⟩)) ?_
 refine rt_hto (fun v W => AgV tEv W AllB v (evTold 1 1 0 [])) (fun v w w' h k => h.ext k) rfl (fun vals w hd => hd 9 rfl) (fun vals w hR hd => to_f4 zk rfl rfl rfl rfl (CallsR.mono (told_c (c := 1) (n := 1) (e := 0) (SlV.nil _ _ AllB) ⟨by decide, by decide⟩ ⟨by decide, by decide⟩ ⟨by decide, by decide⟩) fun v w1 h => ⟨h.2, h.1⟩)) ?_
 refine rt_hto (fun v W => SlV tEv W AllB v kn2) (fun v w w' h k => h.ext k) rfl (fun vals w hd => hd 9 rfl) (fun vals w hR hd => to_sliceAg (t := tEv) (xs := kn2) (vs := [_, vals 12, vals 13, vals 14]) (et := 44) (bytes := 200) (zl := (List.replicate 4 ([.int .i64 0, .int .i64 0, .int .i64 0, .int .i64 0, .slice none 0 0, .slice none 0 0, .slice none 0 0, .slice none 0 0, .bool false, .int .i64 0, .int .i64 0, .slice none 0 0, .slice none 0 0] : List Value)).flatten) zk zq zq (by unfold kZeros; kernel_rfl) rfl (parts4 (hd 11 rfl) (show _ = vals 12 from rfl) (show _ = vals 13 from rfl) (show _ = vals 14 from rfl)) rfl ⟨AgV.allB (HG1.ext hR), (show AgV tEv _ AllB _ (evGet 2 1 [97]) from hd 12 rfl), (show AgV tEv _ AllB _ (evTold 2 1 6 []) from hd 13 rfl), (show AgV tEv _ AllB _ (evTold 1 1 0 []) from hd 14 rfl), trivial⟩ (fun b w1 hb HO e z => ⟨e, HO.view.allB⟩)) ?_
 refine rt_hto (fun v w => v = (.bool true)) (fun v w w' h k => h) rfl (fun vals w hd => hd 9 rfl) (fun vals w hR hd => to_f4 zk rfl rfl (show _ = vals 10 from rfl) (show _ = vals 15 from rfl) (CallsR.mono (says_t (show SlV (tInt .i64) _ AllB _ [1, 0] from hd 10 rfl) (show SlV tEv _ AllB _ kn2 from hd 15 rfl) zq kb2) fun v w1 h => ⟨h.2, h.1⟩)) ?_
 refine rt_v (fun vals w hR hd => v_andT (hd 9 rfl) (hd 16 rfl)) ?_
 refine rt_v (fun vals w hR hd => v_move (t := .bool _) (hd 17 rfl)) ?_
 refine rt_hv rfl (fun vals w hd => hd 18 rfl) (fun vals w hR hd => v_loadA zk rfl (by first | exact (HB4.ext hR).pv | exact (HB3.ext hR).pv | assumption) rfl) ?_
 refine rt_hto (fun v W => AgV tEv W AllB v (evTold 1 1 0 [])) (fun v w w' h k => h.ext k) rfl (fun vals w hd => hd 18 rfl) (fun vals w hR hd => to_f4 zk rfl rfl rfl rfl (CallsR.mono (told_c (c := 1) (n := 1) (e := 0) (SlV.nil _ _ AllB) ⟨by decide, by decide⟩ ⟨by decide, by decide⟩ ⟨by decide, by decide⟩) fun v w1 h => ⟨h.2, h.1⟩)) ?_
 refine rt_hto (fun v W => AgV tEv W AllB v (evGet 2 1 [97])) (fun v w w' h k => h.ext k) rfl (fun vals w hd => hd 18 rfl) (fun vals w hR hd => to_f3 zk rfl rfl rfl (CallsR.mono (get_c (c := 2) (n := 1) (ks := [97]) ⟨by decide, by decide⟩ ⟨by decide, by decide⟩ zq) fun v w1 h => ⟨h.2, AgV.allB h.1⟩)) ?_
 refine rt_hto (fun v W => AgV tEv W AllB v (evTold 2 1 6 [])) (fun v w w' h k => h.ext k) rfl (fun vals w hd => hd 18 rfl) (fun vals w hR hd => to_f4 zk rfl rfl rfl rfl (CallsR.mono (told_c (c := 2) (n := 1) (e := 6) (SlV.nil _ _ AllB) ⟨by decide, by decide⟩ ⟨by decide, by decide⟩ ⟨by decide, by decide⟩) fun v w1 h => ⟨h.2, h.1⟩)) ?_
 refine rt_hto (fun v W => SlV tEv W AllB v kn3) (fun v w w' h k => h.ext k) rfl (fun vals w hd => hd 18 rfl) (fun vals w hR hd => to_sliceAg (t := tEv) (xs := kn3) (vs := [_, vals 20, vals 21, vals 22]) (et := 44) (bytes := 200) (zl := (List.replicate 4 ([.int .i64 0, .int .i64 0, .int .i64 0, .int .i64 0, .slice none 0 0, .slice none 0 0, .slice none 0 0, .slice none 0 0, .bool false, .int .i64 0, .int .i64 0, .slice none 0 0, .slice none 0 0] : List Value)).flatten) zk zq zq (by unfold kZeros; kernel_rfl) rfl (parts4 (hd 19 rfl) (show _ = vals 20 from rfl) (show _ = vals 21 from rfl) (show _ = vals 22 from rfl)) rfl ⟨AgV.allB (HG1.ext hR), (show AgV tEv _ AllB _ (evTold 1 1 0 []) from hd 20 rfl), (show AgV tEv _ AllB _ (evGet 2 1 [97]) from hd 21 rfl), (show AgV tEv _ AllB _ (evTold 2 1 6 []) from hd 22 rfl), trivial⟩ (fun b w1 hb HO e z => ⟨e, HO.view.allB⟩)) ?_
 refine rt_hto (fun v w => v = (.bool true)) (fun v w w' h k => h) rfl (fun vals w hd => hd 18 rfl) (fun vals w hR hd => to_f4 zk rfl rfl rfl (show _ = vals 23 from rfl) (CallsR.mono (says_t nil_i (show SlV tEv _ AllB _ kn3 from hd 23 rfl) zq kb3) fun v w1 h => ⟨h.2, h.1⟩)) ?_
 refine rt_v (fun vals w hR hd => v_andT (hd 18 rfl) (hd 24 rfl)) ?_
 refine rt_v (fun vals w hR hd => v_move (t := .bool _) (hd 25 rfl)) ?_
 refine rt_hto (fun v W => SlV (tInt .i64) W AllB v [0, 1]) (fun v w w' h k => h.ext k) rfl (fun vals w hd => hd 26 rfl) (fun vals w hR hd => to_sliceN (t := tInt .i64) (xs := [0, 1]) (et := 3) (bytes := 8) (zl := [.int .i64 0, .int .i64 0]) (cells := [.int .i64 0, .int .i64 1]) zk zq zq (by unfold kZeros; kernel_rfl) rfl rfl rfl rfl (reps_i2 (F := NoK) ⟨by decide, by decide⟩ ⟨by decide, by decide⟩) (fun b w1 hb HO e z => ⟨e, HO.view.allB⟩)) ?_
 refine rt_hv rfl (fun vals w hd => hd 26 rfl) (fun vals w hR hd => v_loadA zk rfl (by first | exact (HB4.ext hR).pv | exact (HB3.ext hR).pv | assumption) rfl) ?_
 refine rt_hto (fun v W => AgV tEv W AllB v (evGet 2 1 [97])) (fun v w w' h k => h.ext k) rfl (fun vals w hd => hd 26 rfl) (fun vals w hR hd => to_f3 zk rfl rfl rfl (CallsR.mono (get_c (c := 2) (n := 1) (ks := [97]) ⟨by decide, by decide⟩ ⟨by decide, by decide⟩ zq) fun v w1 h => ⟨h.2, AgV.allB h.1⟩)) ?_
 refine rt_hv rfl (fun vals w hd => hd 26 rfl) (fun vals w hR hd => v_loadA zk rfl (by first | exact (HB4.ext hR).pv | exact (HB3.ext hR).pv | assumption) rfl) ?_
 refine rt_hto (fun v W => SlV tPr W AllB v [prA]) (fun v w w' h k => h.ext k) rfl (fun vals w hd => hd 26 rfl) (fun vals w hR hd => to_slice1 (t := tPr) (et := 50) (bytes := 48) zk zq (hd 30 rfl) (AgV.rp (HG2.ext hR)) (fun b w1 hb HO e z => ⟨e, HO.view.allB⟩)) ?_
 refine rt_hto (fun v W => AgV tEv W AllB v (evTold 2 1 0 [prA])) (fun v w w' h k => h.ext k) rfl (fun vals w hd => hd 26 rfl) (fun vals w hR hd => to_f4 zk rfl rfl rfl (show _ = vals 31 from rfl) (CallsR.mono (told_c (c := 2) (n := 1) (e := 0) (show SlV tPr _ AllB _ [prA] from hd 31 rfl) ⟨by decide, by decide⟩ ⟨by decide, by decide⟩ ⟨by decide, by decide⟩) fun v w1 h => ⟨h.2, h.1⟩)) ?_
 refine rt_hto (fun v W => SlV tEv W AllB v kn4) (fun v w w' h k => h.ext k) rfl (fun vals w hd => hd 26 rfl) (fun vals w hR hd => to_sliceAg (t := tEv) (xs := kn4) (vs := [_, vals 29, vals 32]) (et := 44) (bytes := 200) (zl := (List.replicate 3 ([.int .i64 0, .int .i64 0, .int .i64 0, .int .i64 0, .slice none 0 0, .slice none 0 0, .slice none 0 0, .slice none 0 0, .bool false, .int .i64 0, .int .i64 0, .slice none 0 0, .slice none 0 0] : List Value)).flatten) zk zq zq (by unfold kZeros; kernel_rfl) rfl (parts3 (hd 28 rfl) (show _ = vals 29 from rfl) (show _ = vals 32 from rfl)) rfl ⟨AgV.allB (HG1.ext hR), (show AgV tEv _ AllB _ (evGet 2 1 [97]) from hd 29 rfl), (show AgV tEv _ AllB _ (evTold 2 1 0 [prA]) from hd 32 rfl), trivial⟩ (fun b w1 hb HO e z => ⟨e, HO.view.allB⟩)) ?_
 refine rt_hto (fun v w => v = (.bool true)) (fun v w w' h k => h) rfl (fun vals w hd => hd 26 rfl) (fun vals w hR hd => to_f4 zk rfl rfl (show _ = vals 27 from rfl) (show _ = vals 33 from rfl) (CallsR.mono (says_t (show SlV (tInt .i64) _ AllB _ [0, 1] from hd 27 rfl) (show SlV tEv _ AllB _ kn4 from hd 33 rfl) zq kb4) fun v w1 h => ⟨h.2, h.1⟩)) ?_
 refine rt_v (fun vals w hR hd => v_andT (hd 26 rfl) (hd 34 rfl)) ?_
 refine rt_v (fun vals w hR hd => v_move (t := .bool _) (hd 35 rfl)) ?_
 refine rt_hto (fun v W => AgV tEv W AllB v (evTold 1 1 0 [])) (fun v w w' h k => h.ext k) rfl (fun vals w hd => hd 36 rfl) (fun vals w hR hd => to_f4 zk rfl rfl rfl rfl (CallsR.mono (told_c (c := 1) (n := 1) (e := 0) (SlV.nil _ _ AllB) ⟨by decide, by decide⟩ ⟨by decide, by decide⟩ ⟨by decide, by decide⟩) fun v w1 h => ⟨h.2, h.1⟩)) ?_
 refine rt_hto (fun v W => SlV tEv W AllB v kn5) (fun v w w' h k => h.ext k) rfl (fun vals w hd => hd 36 rfl) (fun vals w hR hd => to_slice1 (t := tEv) (et := 44) (bytes := 200) zk zq (show _ = vals 37 from rfl) (AgV.rp (show AgV tEv _ AllB _ (evTold 1 1 0 []) from hd 37 rfl)) (fun b w1 hb HO e z => ⟨e, HO.view.allB⟩)) ?_
 refine rt_hto (fun v w => v = (.bool true)) (fun v w w' h k => h) rfl (fun vals w hd => hd 36 rfl) (fun vals w hR hd => to_f4 zk rfl rfl rfl (show _ = vals 38 from rfl) (CallsR.mono (says_t nil_i (show SlV tEv _ AllB _ kn5 from hd 38 rfl) zq kb5) fun v w1 h => ⟨h.2, h.1⟩)) ?_
 refine rt_v (fun vals w hR hd => v_andT (hd 36 rfl) (hd 39 rfl)) ?_
 refine rt_v (fun vals w hR hd => v_move (t := .bool _) (hd 40 rfl)) ?_
 refine rt_hv rfl (fun vals w hd => hd 41 rfl) (fun vals w hR hd => v_loadA zk rfl (by first | exact (HB4.ext hR).pv | exact (HB3.ext hR).pv | assumption) rfl) ?_
 refine rt_hv rfl (fun vals w hd => hd 41 rfl) (fun vals w hR hd => v_loadA zk rfl (by first | exact (HB4.ext hR).pv | exact (HB3.ext hR).pv | assumption) rfl) ?_
 refine rt_hto (fun v W => SlV tEv W AllB v kn6) (fun v w w' h k => h.ext k) rfl (fun vals w hd => hd 41 rfl) (fun vals w hR hd => to_sliceAg (t := tEv) (xs := kn6) (vs := [_, _]) (et := 44) (bytes := 200) (zl := (List.replicate 2 ([.int .i64 0, .int .i64 0, .int .i64 0, .int .i64 0, .slice none 0 0, .slice none 0 0, .slice none 0 0, .slice none 0 0, .bool false, .int .i64 0, .int .i64 0, .slice none 0 0, .slice none 0 0] : List Value)).flatten) zk zq zq (by unfold kZeros; kernel_rfl) rfl (parts2 (hd 42 rfl) (hd 43 rfl)) rfl ⟨AgV.allB (HG1.ext hR), AgV.allB (HG1.ext hR), trivial⟩ (fun b w1 hb HO e z => ⟨e, HO.view.allB⟩)) ?_
 refine rt_hto (fun v w => v = (.bool true)) (fun v w w' h k => h) rfl (fun vals w hd => hd 41 rfl) (fun vals w hR hd => to_f4 zk rfl rfl rfl (show _ = vals 44 from rfl) (CallsR.mono (says_t nil_i (show SlV tEv _ AllB _ kn6 from hd 44 rfl) zq kb6) fun v w1 h => ⟨h.2, h.1⟩)) ?_
 refine rt_v (fun vals w hR hd => v_andT (hd 41 rfl) (hd 45 rfl)) ?_
 refine rt_v (fun vals w hR hd => v_assign (t := .bool _) (hd 46 rfl)) ?_
 refine rt_nil (fun w103 e103 => ?_)
 rintro _ _ _ rfl _ _ _ _ _ rfl _ _ _ _ _ _ _ rfl _ rfl _ _ _ rfl _ _ _ _ _ _ _ _ _ rfl _ rfl _ rfl _ rfl _ _ _ _ _ _ _ _ _ rfl _ rfl _ rfl _ _ _ rfl _ _ _ rfl _ _ _ _ _ _ _ rfl _ rfl _ rfl _ _ _ _ _ rfl _ rfl _ rfl _ rfl _ rfl _ _ _ rfl _ rfl _ rfl
 have := e103.size
 refine fin_nil (n_then (c_ret (ret1v rfl zq (zvB rfl) ?_)))
 replace E := ((((((E.trans e1.keep).trans e2.keep).trans e3.keep).trans e4.keep).step k101 dj3).step k102 dj3).trans e103.keep
 exact ⟨rfl, E⟩
end Go.Proofs.Ytifnkmflmgnfjaa

namespace Go.Proofs.Ytifnkmflmgnfjaa
open Go.Vc
set_option linter.unusedVariables false
set_option linter.unusedSimpArgs false
set_option maxRecDepth 100000

theorem SameMap_c {w : World} {F G : Nat → Prop} {v u : Value} {a b : MapV} (HS1 : SlV tPr w F v a) (HS2 : SlV tPr w G u b) : CallsR Try.prog 32 #[v, u] w (fun o w' => o = .bool (decide (a = b)) ∧ Ext w w') := by
  obtain ⟨a1, c1, rfl⟩ := HS1.shape
  obtain ⟨a2, c2, rfl⟩ := HS2.shape
  refine enter 10 Try.func32 rfl rfl (by simp) ?_
  refine c_seq ?_
  have E := Keep.refl (K := NoK) w
  replace HS1 := HS1.all
  replace HS2 := HS2.all
  refine wp_reg zd (l_v (v_assign rfl) (l_nil (n_then (c_seq (wp_reg zd (l_v (zmS rfl) (l_v (v_build (pl := [(0, 1), (1, 1), (2, 1)]) (z := .agg #[.int .i64 0, .slice none 0 0, .slice none 0 0]) (zl := [.int .i64 0, .slice none 0 0, .slice none 0 0]) zk (by unfold kZero; kernel_rfl) rfl rfl (cells := [_, _, _]) rfl) ?_)))))))
  refine l_v (zmS rfl) (l_v (v_build (pl := [(0, 1), (1, 1), (2, 1)]) (z := .agg #[.int .i64 0, .slice none 0 0, .slice none 0 0]) (zl := [.int .i64 0, .slice none 0 0, .slice none 0 0]) zk (by unfold kZero; kernel_rfl) rfl rfl (cells := [_, _, _]) rfl) ?_)
  refine l_to (to_f2 zk (zvA rfl) (zvA rfl) (CallsR.mono (refSameAnswer_c (AgV.mkAn HS1 (SlV.nil _ _ _) ⟨by decide, by decide⟩) (AgV.mkAn HS2 (SlV.nil _ _ _) ⟨by decide, by decide⟩)) ?_))
  rintro _ w101 ⟨rfl, e101⟩
  have := e101.size
  refine l_v (zaB rfl) (l_nil (n_then (c_ret (ret1v rfl zq (zvB rfl) ?_))))
  replace E := E.trans e101.keep
  refine ⟨?_, E⟩
  rw [same_ps]; congr 1
  rw [Bool.eq_iff_iff]; simp [eq_comm]
end Go.Proofs.Ytifnkmflmgnfjaa
