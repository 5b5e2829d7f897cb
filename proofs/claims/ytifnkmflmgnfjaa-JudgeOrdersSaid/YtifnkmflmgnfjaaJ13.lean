/- A part of the proof: steps and lemmas for the walks through the given program. -/
import Derived.Test.YtifnkmflmgnfjaaJf
import Derived.Test.YtifnkmflmgnfjaaJv
import Derived.Test.YtifnkmflmgnfjaaVc48
namespace Go.Proofs.Ytifnkmflmgnfjaa
open Go.Vc
set_option linter.unusedVariables false
set_option linter.unusedSimpArgs false
set_option maxRecDepth 100000

theorem mpGet_set {κ : Type} [DecidableEq κ] (l : List (κ × Value)) (k c : κ) (v : Value) : mpGet (mpSet l k v) c = if c = k then some v else mpGet l c := by
  induction l with
  | nil => unfold mpGet mpSet; by_cases h : c = k <;> simp [h, eq_comm]
  | cons p l ih =>
    unfold mpGet at ih ⊢
    by_cases hp : p.1 = k
    · by_cases hc : c = k
      · subst hc; simp [mpSet, hp]
      · have h2 : ¬ k = c := fun e => hc e.symm
        have h3 : ¬ p.1 = c := fun e => hc (e.symm.trans hp)
        simp [mpSet, hp, hc, h2, h3]
    · simp only [mpSet, hp, if_false, List.find?_cons]
      by_cases hc : p.1 = c
      · have h2 : ¬ c = k := fun e => hp (hc.trans e)
        simp [hc, h2]
      · simp only [hc, decide_false]
        exact ih
def askB (e : EvV) : Bool := (decide (e.1 = 1) && mayAk e.2.2.2.1) && decide (e.2.2.2.2 = an0)
def ansB (e : EvV) : Bool := (decide (e.1 = 2) && mayAn e.2.2.2.2) && decide (e.2.2.2.1 = ak0)
def newJ (e : EvV) (i : Nat) : JdV := ((e.2.1, e.2.2.1, e.2.2.2.1), (i : Int), -1, an0)
theorem ev_none {out : List JdV} {i : Nat} {e : EvV} (h : lastJ out e.2.1 = none) : evStep out i e = if (whoE e && askB e) = true then some (out ++ [newJ e i]) else none := by
  unfold evStep askB
  rw [h]
  by_cases h1 : e.1 = 1
  · rw [if_pos h1]
    simp only [h1, decide_true, Bool.true_and, Bool.and_true, newJ, Bool.and_assoc]
  · rw [if_neg h1]
    simp only [h1, decide_false, Bool.false_and, Bool.and_false, Bool.false_eq_true, if_false]
    split
    · split <;> rfl
    · rfl
theorem ev_some {out : List JdV} {i n : Nat} {e : EvV} {x : JdV} (h : lastJ out e.2.1 = some n) (hx : out[n]? = some x) : evStep out i e = if ((whoE e && askB e) && decide (x.1.2.1 < e.2.2.1)) = true then some (out ++ [newJ e i])
    else if (((whoE e && ansB e) && decide (x.1.2.1 = e.2.2.1)) && decide (x.2.2.1 < 0)) = true then some (out.set n (x.1, x.2.1, (i : Int), e.2.2.2.2)) else none := by
  unfold evStep askB ansB
  rw [h]
  simp only [hx]
  by_cases h1 : e.1 = 1
  · rw [if_pos h1]
    have h2 : ¬ e.1 = 2 := by omega
    simp only [h1, decide_true, Bool.true_and, Bool.and_true, newJ, Bool.and_assoc, show ¬ (1 : Int) = 2 by decide, decide_false, Bool.false_and, Bool.and_false, Bool.false_eq_true, if_false]
  · rw [if_neg h1]
    simp only [h1, decide_false, Bool.false_and, Bool.and_false, Bool.false_eq_true, if_false]
    by_cases h2 : e.1 = 2
    · rw [if_pos h2]
      simp only [h2, decide_true, Bool.true_and, Bool.and_assoc]
      by_cases h3 : (whoE e && (mayAn e.2.2.2.2 && decide (e.2.2.2.1 = ak0))) = true
      · rw [if_pos h3]
        simp only [Bool.and_eq_true] at h3
        simp only [h3.1, h3.2.1, h3.2.2, Bool.true_and, Bool.and_eq_true, decide_eq_true_eq]
      · rw [if_neg h3, if_neg]
        intro h4
        simp only [Bool.and_eq_true] at h3 h4
        exact h3 ⟨h4.1, h4.2.1, h4.2.2.1⟩
    · rw [if_neg h2]
      simp only [h2, decide_false, Bool.false_and, Bool.and_false, Bool.false_eq_true, if_false]
theorem who_eq (e : EvV) : (((decide (1 ≤ e.2.1) && decide (e.2.1 ≤ 4)) && decide (1 ≤ e.2.2.1)) && decide (e.2.2.1 ≤ 2147483647)) = whoE e := by
  unfold whoE nmB; rw [Bool.and_assoc]
theorem ak0_ag {w : World} {F : Nat → Prop} : AgV tAk w F (.agg #[.int .i64 0, .slice none 0 0, .slice none 0 0, .slice none 0 0, .slice none 0 0, .bool false, .int .i64 0]) ak0 :=
  ⟨_, rfl, tAk_mk (SlV.nil _ _ _) (SlV.nil _ _ _) (SlV.nil _ _ _) (SlV.nil _ _ _) ⟨by decide, by decide⟩ ⟨by decide, by decide⟩⟩
set_option maxHeartbeats 4000000 in
theorem read_c {w : World} {F : Nat → Prop} {v : Value} {l : List EvV} (HSl : SlV tEv w F v l) (hn : l.length ≤ 100000) :
    CallsR Try.prog 67 #[v] w (fun o w' => ∃ r, o = .tuple #[r, .int .i64 ((rdE l 0 []).2 : Nat)] ∧ SlV tJd w' (FxB F w.heap.size) r (rdE l 0 []).1 ∧ Ext w w') := by
 obtain ⟨n0, hn0⟩ : ∃ n, n = w.heap.size := ⟨_, rfl⟩
 obtain ⟨al, cl, rfl⟩ := HSl.shape
 have hmx := HSl.len_max
 replace HSl := HSl.lt
 rw [← hn0] at HSl ⊢
 refine enter 155 Try.func67 rfl rfl (by simp) ?_
 refine c_seq ?_
 have E := Keep.refl (K := NoK) w
 refine wp_reg zd (l_v (v_assign rfl) (l_v (v_assign rfl) (l_nil (n_then (c_seq (wp_reg zd (l_v (v_assign rfl) (l_nil (n_then ?_)))))))))
 refine c_seq (wp_reg zd (l_to (to_makeMap kInt ?_)))
 rintro bm w1 zm HM1 e1 z1
 have := e1.size
 obtain ⟨n1, hn1⟩ : ∃ n, n = w1.heap.size := ⟨_, rfl⟩
 refine l_v (v_assign (t := .map _) rfl) (l_nil (n_then (c_seq (c_seq (wp_reg zd (l_v (zmS rfl) (l_v (v_len (et := 44) zk rfl) ?_)))))))
 replace E := E.trans e1.keep
 refine l_v (v_move rfl) (l_nil (n_then (c_block (c_loop (τ := Nat × Option Addr × Nat × List JdV × List (Int × Value)) ([2, 3, 4, 6, 7, 8, 9, 10, 11, 12, 16, 17, 18, 19, 20, 21] ++ [22, 23, 24, 25, 26, 27, 28, 29, 30, 31, 32, 33, 34, 35, 36, 37] ++ [38, 39, 40, 41, 42, 43, 44, 45, 46, 47, 48, 49, 50, 51, 52, 53] ++ [54, 55, 56, 57, 58, 59, 60, 61, 62, 63, 64, 65, 66, 67, 68, 69] ++ [70, 71, 72, 73, 74, 75, 76, 77, 78, 79, 80, 81, 82, 83, 84, 85] ++ [86, 87, 88, 89, 90, 91, 92, 93, 94, 95, 96, 97, 98, 99, 100, 101] ++ [102, 103, 104, 105, 106, 107, 108, 109, 110, 111, 112, 113, 114, 115, 116, 117] ++ [118, 119, 120, 121, 122, 123, 124, 125, 126, 127, 128, 129, 130, 131, 132, 133] ++ [134, 135, 136, 137, 138, 139, 140, 141, 142, 143, 144, 145, 146, 147, 148, 149] ++ [150, 151]) (fun (i, ao, co, out, ml) => [(4, .slice ao out.length co), (16, .int .i64 i)]) (fun (i, ao, co, out, ml) W => Ext w W ∧ Keep (fun b => b = bm ∨ n1 ≤ b) w1 W ∧ i ≤ l.length ∧ out.length ≤ i ∧ rdE l 0 [] = rdE (l.drop i) i out ∧ (∀ c, mpGet ml c = (lastJ out c).map fun (n : Nat) => Value.int .i64 (n : Int)) ∧ MpB kInt W bm ml ∧ OwV tJd 86 W n1 (fun b => (F b ∧ b < n0) ∨ (n1 ≤ b ∧ b < W.heap.size)) (.slice ao out.length co) out) (fun (i, ao, co, out, ml) => l.length - i) (0, none, 0, [], []) (by exact ⟨rfl, rfl, trivial⟩) (by exact ⟨E, Keep.refl _, Nat.zero_le _, Nat.zero_le _, rfl, fun c => rfl, HM1, OwV.nil _ _ _ _ _⟩) ?_))))
 rintro ⟨i, ao, co, out, ml⟩ w101 j ⟨E, EL1, h1, h2, h3, h4, HM1, HOx⟩
 have := EL1.size
 have zo_HOx := fun (b : Nat) h => HOx.own_lt (b := b) h
 refine c_seq (wp_reg zd (l_v (v_lss rfl rfl) ?_))
 replace HSl := (HSl.ext e1).keep EL1 dj1
 refine l_nil (n_then (c_seq (c_cond rfl rfl (fun hlt => ?_) (fun hlt => ?_))))
 ·
  have hlt := dtrue hlt
  obtain ⟨ev, hx, hdr⟩ := getE (l := l) (i := i) zo
  rw [hdr, rdE] at h3
  obtain ⟨q, cs, hqq, hF, _, HPq, hr⟩ := HSl.el hx
  subst hqq
  obtain ⟨a1, c1, a2, c2, a3, c3, a4, c4, a5, c5, a6, c6, rfl, HGa, HGx, he1, he2, he3⟩ := tEv_cells hr
  refine c_skip (n_then (c_seq (c_block (c_seq (wp_reg zd (l_v (zmI rfl) (l_v (v_indexAddr (et := 44) (sz := 13) (k := i) zk zk rfl rfl (by first | rfl | omega) zo) ?_)))))))
  refine l_v (v_loadA zk rfl (by first | exact HPq | assumption) rfl) ?_
  refine l_to (to_alloc (z := (.agg #[.int .i64 0, .int .i64 0, .int .i64 0, .int .i64 0, .slice none 0 0, .slice none 0 0, .slice none 0 0, .slice none 0 0, .bool false, .int .i64 0, .int .i64 0, .slice none 0 0, .slice none 0 0])) (by unfold kZero; kernel_rfl) ?_)
  rintro b7 w7 zb7 HB7 e7 z7
  have := e7.size
  try simp only [Value.cells] at HB7
  refine l_v (zaI rfl) (l_to (to_storeA (n := 13) rfl rfl (zvA rfl) zk rfl dj6 HB7 dj5 ?_))
  rintro w102 HX102 k102 z102
  have := k102.size
  replace HB7 := HX102
  clear HX102
  try simp only [zS, Nat.zero_add, Nat.reduceAdd, List.drop_nil] at HB7
  refine l_nil (n_then ?_)
  replace E := (E.trans e7.keep).step k102 dj3
  replace HSl := (HSl.ext e7).keep k102 dj1
  replace HM1 := (HM1.ext e7).keep k102 dj4
  replace HOx := (HOx.ext e7).keep k102 (by intro i ho he; have he0 := he; have ho0 := ho; (try dsimp only [NoK] at he); (try simp only [Value.ownBlock, Option.some.injEq, reduceCtorEq] at ho); (try simp only [Value.ownBlock, Option.some.injEq, reduceCtorEq] at he); first | exact he.elim | exact ho.elim | omega | (have := zo_HOx _ ho0; omega)) (by intro i _ hi _ he; have he0 := he; have hi := hi; have he := he; (try dsimp only [NoK, AllB] at hi he); (try simp only [Value.ownBlock, Option.some.injEq, reduceCtorEq] at he); all_goals first | exact hi.elim | exact hi.1.elim | exact he.elim | omega | (rcases hi with hi | hi <;> omega) | (rcases he with he | he <;> omega))
  replace EL1 := (EL1.trans e7.keep).step k102 dj3
  replace HPq := HPq.ext e7
  replace HGa := (HGa.ext e7).keep k102 dj1
  replace HGx := (HGx.ext e7).keep k102 dj1
  by_cases hs : (lastJ out ev.2.1).isSome = true
  ·
   refine c_seq ?_
   obtain ⟨n, hln⟩ := Option.isSome_iff_exists.1 hs
   obtain ⟨x, hxn, hxc⟩ := lastJ_get hln
   have hnl := (List.getElem?_eq_some_iff.1 hxn).1
   have hg := h4 ev.2.1
   rw [hln] at hg
   have hl5 : (mpGet ml ev.2.1).getD (.int .i64 0) = .int .i64 (n : Int) := by rw [hg]; rfl
   have hl6 : (mpGet ml ev.2.1).isSome = true := by rw [hg]; rfl
   refine wp_reg zd (l_v (v_move (t := .map _) rfl) (l_v (v_fieldAddr (off := 1) (ft := 3) zk rfl) (l_v (v_load zk rfl (by first | exact HB7.pv 1 _ rfl | assumption)) ?_)))
   refine l_v (v_lookup2E (el := 3) (k := ev.2.1) (z := .int .i64 0) kInt ⟨3, by kernel_rfl, by kernel_rfl⟩ (by unfold kZero; kernel_rfl) rfl (zvI rfl) rfl HM1 hl5 hl6) ?_
   refine l_v (zmT rfl) (l_v (v_extract (t := .int _ _) rfl rfl) (l_v (v_extract (t := .bool _) rfl rfl) (l_v (zaI rfl) (l_v (zaB rfl) (l_nil (n_then (c_seq (wp_reg zd (l_v (v_fieldAddr (off := 1) (ft := 3) zk rfl) ?_)))))))))
   refine l_v (v_load zk rfl (by first | exact HB7.pv 1 _ rfl | assumption)) ?_
   refine l_v (v_geq rfl rfl) ?_
   refine l_v (zmB rfl) (l_g1 rfl rfl (fun hG => v_fieldAddr (off := 1) (ft := 3) zk rfl) ?_)
   refine l_g1 rfl rfl (fun hG => v_load zk (gd hG rfl) (by first | exact HB7.pv 1 _ rfl | assumption)) ?_
   refine l_g1 rfl rfl (fun hG => v_leq (gd hG rfl) rfl) ?_
   refine l_v (v_and rfl rfl) ?_
   refine l_v (zmB rfl) (l_g1 rfl rfl (fun hG => v_fieldAddr (off := 2) (ft := 2) zk rfl) ?_)
   refine l_g1 rfl rfl (fun hG => v_load zk (gd hG rfl) (by first | exact HB7.pv 2 _ rfl | assumption)) ?_
   refine l_g1 rfl rfl (fun hG => v_geq (gd hG rfl) rfl) ?_
   refine l_v (v_and rfl rfl) ?_
   refine l_v (zmB rfl) (l_g1 rfl rfl (fun hG => v_fieldAddr (off := 2) (ft := 2) zk rfl) ?_)
   refine l_g1 rfl rfl (fun hG => v_load zk (gd hG rfl) (by first | exact HB7.pv 2 _ rfl | assumption)) ?_
   refine l_g1 rfl rfl (fun hG => v_leq (gd hG rfl) rfl) ?_
   refine l_v (v_and rfl rfl) ?_
   refine l_v (zaB rfl) (l_nil (n_then (c_seq (wp_reg zd (l_v (v_fieldAddr (off := 0) (ft := 42) zk rfl) (l_v (v_load zk rfl (by first | exact HB7.pv 0 _ rfl | assumption)) ?_))))))
   refine l_v (v_eql rfl rfl) ?_
   refine l_v (zmB rfl) (l_g1 rfl rfl (fun hG => v_fieldAddr (off := 3) (ft := 28) zk rfl) ?_)
   refine l_g1 rfl rfl (fun hG => v_loadA zk (gd hG rfl) (by first | exact (show Pv _ _ [_, _, _, _, _, _, _] from pv_sub 3 7 HB7.pv) | exact pv_at 3 HB7.pv | assumption) rfl) ?_
   refine l_g1f rfl rfl (fun hG => to_f1 zk (gd hG rfl) (MayAsk_c HGa)) ?_
   rintro w103 e103
   have := e103.size
   refine l_v (v_and rfl rfl) ?_
   refine l_v (zmB rfl) (l_g1 rfl rfl (fun hG => v_fieldAddr (off := 10) (ft := 31) zk rfl) ?_)
   replace HB7 := HB7.ext e103
   refine l_g1 rfl rfl (fun hG => v_loadA zk (gd hG rfl) (by first | exact (show Pv _ _ [_, _, _] from pv_sub 10 3 HB7.pv) | exact pv_at 10 HB7.pv | assumption) rfl) ?_
   refine l_g1 rfl rfl (fun hG => v_build (pl := [(0, 1), (1, 1), (2, 1)]) (z := .agg #[.int .i64 0, .slice none 0 0, .slice none 0 0]) (zl := [.int .i64 0, .slice none 0 0, .slice none 0 0]) zk (by unfold kZero; kernel_rfl) rfl rfl (cells := [_, _, _]) rfl) ?_
   replace HGx := HGx.ext e103
   refine l_g1f rfl rfl (fun hG => to_f2 zk (gd hG rfl) (gd hG rfl) (SameAnswer_c HGx (an0_ag (F := NoK)))) ?_
   rintro w104 e104
   have := e104.size
   refine l_v (v_and rfl rfl) ?_
   replace HB7 := HB7.ext e104
   refine l_v (zaB rfl) (l_nil (n_then (c_seq (wp_reg zd (l_v (v_fieldAddr (off := 0) (ft := 42) zk rfl) (l_v (v_load zk rfl (by first | exact HB7.pv 0 _ rfl | assumption)) ?_))))))
   refine l_v (v_eql rfl rfl) ?_
   refine l_v (zmB rfl) (l_g1 rfl rfl (fun hG => v_fieldAddr (off := 10) (ft := 31) zk rfl) ?_)
   refine l_g1 rfl rfl (fun hG => v_loadA zk (gd hG rfl) (by first | exact (show Pv _ _ [_, _, _] from pv_sub 10 3 HB7.pv) | exact pv_at 10 HB7.pv | assumption) rfl) ?_
   replace HGx := HGx.ext e104
   refine l_g1f rfl rfl (fun hG => to_f1 zk (gd hG rfl) (MayAnswer_c HGx)) ?_
   rintro w105 e105
   have := e105.size
   refine l_v (v_and rfl rfl) ?_
   refine l_v (zmB rfl) (l_g1 rfl rfl (fun hG => v_fieldAddr (off := 3) (ft := 28) zk rfl) ?_)
   replace HB7 := HB7.ext e105
   refine l_g1 rfl rfl (fun hG => v_loadA zk (gd hG rfl) (by first | exact (show Pv _ _ [_, _, _, _, _, _, _] from pv_sub 3 7 HB7.pv) | exact pv_at 3 HB7.pv | assumption) rfl) ?_
   refine l_g1 rfl rfl (fun hG => v_build (pl := [(0, 1), (1, 1), (2, 1), (3, 1), (4, 1), (5, 1), (6, 1)]) (z := .agg #[.int .i64 0, .slice none 0 0, .slice none 0 0, .slice none 0 0, .slice none 0 0, .bool false, .int .i64 0]) (zl := [.int .i64 0, .slice none 0 0, .slice none 0 0, .slice none 0 0, .slice none 0 0, .bool false, .int .i64 0]) zk (by unfold kZero; kernel_rfl) rfl rfl (cells := [_, _, _, _, _, _, _]) rfl) ?_
   replace HGa := ((HGa.ext e103).ext e104).ext e105
   refine l_g1f rfl rfl (fun hG => to_f2 zk (gd hG rfl) (gd hG rfl) (SameAsk_c HGa (ak0_ag (F := NoK)))) ?_
   rintro w106 e106
   have := e106.size
   replace HOx := (((HOx.ext e103).ext e104).ext e105).ext e106
   obtain ⟨bo, rfl, hbo, hbo2⟩ := HOx.addr (fun h => by rw [h] at hnl; simp at hnl)
   have hbo3 := (zo_HOx bo rfl).2
   obtain ⟨q2, cs2, hq2, hF2, _, HPj, hr2⟩ := HOx.view.el hxn
   cases hq2
   obtain ⟨g1, d1, g2, d2, g3, d3, g4, d4, g5, d5, g6, d6, rfl, HGra, HGrx, hj1, hj2, hj3, hj4⟩ := tJd_cells hr2
   refine l_v (v_and rfl rfl) ?_
   refine l_v (zaB rfl) (l_nil (n_then (c_block (c_seq (wp_regd (NoK) zk zd zd ?_)))))
   refine rt_v (fun vals w hR hd => zmB rfl) ?_
   refine rt_v (fun vals w hR hd => v_move (t := .bool _) (hd 0 rfl)) ?_
   refine rt_g1 rfl (fun vals w hd => hd 1 rfl) (fun vals w hR hd hG => zmB rfl) ?_
   refine rt_v (fun vals w hR hd => v_and (hd 1 rfl) (hd 2 rfl)) ?_
   refine rt_v (fun vals w hR hd => v_move (t := .bool _) (hd 3 rfl)) ?_
   refine rt_g1 rfl (fun vals w hd => hd 4 rfl) (fun vals w hR hd hG => zmB rfl) ?_
   refine rt_g1 rfl (fun vals w hd => hd 4 rfl) (fun vals w hR hd hG => v_not (gd hG (hd 5 rfl))) ?_
   refine rt_g1 rfl (fun vals w hd => hd 4 rfl) (fun vals w hR hd hG => v_move (t := .bool _) (gd hG (hd 6 rfl))) ?_
   refine rt_g2 rfl (fun vals w hd => hd 7 rfl) (fun vals w hR hd hG => zmS rfl) ?_
   refine rt_g2 rfl (fun vals w hd => hd 7 rfl) (fun vals w hR hd hG => zmI rfl) ?_
   refine rt_g2 rfl (fun vals w hd => hd 7 rfl) (fun vals w hR hd hG => v_indexAddr (et := 86) (sz := 14) (k := n) zk zk (gd hG (hd 8 rfl)) (gd hG (hd 9 rfl)) (by first | rfl | omega) zo) ?_
   have hev := ev_some (i := i) hln hxn
   refine rt_g2 rfl (fun vals w hd => hd 7 rfl) (fun vals w hR hd hG => v_fieldAddr (off := 0) (ft := 77) zk (gd hG (hd 10 rfl))) ?_
   refine rt_g2 rfl (fun vals w hd => hd 7 rfl) (fun vals w hR hd hG => v_fieldAddr (off := 1) (ft := 2) zk (gd hG (hd 11 rfl))) ?_
   replace HB7 := HB7.ext e106
   refine rt_g2 rfl (fun vals w hd => hd 7 rfl) (fun vals w hR hd hG => v_load zk (gd hG (hd 12 rfl)) (by first | exact (HPj.ext hR) 1 _ rfl | exact pv_1 (HPj.ext hR) | exact (HB7.ext hR).pv 1 _ rfl | assumption)) ?_
   refine rt_g2 rfl (fun vals w hd => hd 7 rfl) (fun vals w hR hd hG => v_fieldAddr (off := 2) (ft := 2) zk rfl) ?_
   refine rt_g2 rfl (fun vals w hd => hd 7 rfl) (fun vals w hR hd hG => v_load zk (gd hG (hd 14 rfl)) (by first | exact (HPj.ext hR) 2 _ rfl | exact pv_1 (HPj.ext hR) | exact (HB7.ext hR).pv 2 _ rfl | assumption)) ?_
   refine rt_g2 rfl (fun vals w hd => hd 7 rfl) (fun vals w hR hd hG => v_lss (gd hG (hd 13 rfl)) (gd hG (hd 15 rfl))) ?_
   refine rt_g1 rfl (fun vals w hd => hd 4 rfl) (fun vals w hR hd hG => v_or (gd hG (hd 7 rfl)) (gda hG (hd 16 rfl))) ?_
   refine rt_v (fun vals w hR hd => v_and (hd 4 rfl) (hd 17 rfl)) ?_
   refine rt_v (fun vals w hR hd => v_assign (t := .bool _) (hd 18 rfl)) ?_
   refine rt_nil (fun w107 e107 => ?_)
   rintro _ rfl _ rfl _ rfl _ rfl _ rfl _ rfl _ rfl _ rfl _ rfl _ rfl _ rfl _ rfl _ rfl _ rfl _ rfl _ rfl _ rfl _ rfl _ rfl _ rfl
   have := e107.size
   replace E := ((((E.trans e103.keep).trans e104.keep).trans e105.keep).trans e106.keep).trans e107.keep
   replace HSl := ((((HSl.ext e103).ext e104).ext e105).ext e106).ext e107
   replace HM1 := ((((HM1.ext e103).ext e104).ext e105).ext e106).ext e107
   replace EL1 := ((((EL1.trans e103.keep).trans e104.keep).trans e105.keep).trans e106.keep).trans e107.keep
   replace HGx := ((HGx.ext e105).ext e106).ext e107
   replace HGa := (HGa.ext e106).ext e107
   replace HOx := HOx.ext e107
   replace HB7 := HB7.ext e107
   replace HPj := HPj.ext e107
   refine fin_nil (n_then (c_cond rfl rfl (fun h95 => ?_) (fun h95 => ?_)))
   ·
    have hev : evStep out i ev = some (out ++ [newJ ev i]) := by
     rw [hev, if_pos]
     rw [who_eq] at h95
     exact h95
    refine c_seq (wp_reg zd (l_v (v_move (t := .map _) rfl) (l_v (v_fieldAddr (off := 1) (ft := 3) zk rfl) (l_v (v_load zk rfl (by first | exact HPj 1 _ rfl | exact pv_1 HPj | exact HB7.pv 1 _ rfl | assumption)) ?_))))
    refine l_v (zmS rfl) (l_v (v_len (et := 86) zk rfl) ?_)
    refine l_to (to_mapUpdate (el := 3) (k := ev.2.1) kInt ⟨3, by kernel_rfl, by kernel_rfl⟩ rfl (zvI rfl) rfl (zvI rfl) HM1 ?_)
    rintro w40 HM1 k40 z40
    have := k40.size
    replace HB7 := HB7.keep k40 dj4
    replace HPj := HPj.keep k40 (by intro h; (try dsimp only at h); (try simp only [add_block] at h); first | omega)
    refine l_nil (n_then (wp_reg zd (l_v (zmS rfl) (l_v (v_fieldAddr (off := 1) (ft := 3) zk rfl) (l_v (v_load zk rfl (by first | exact HPj 1 _ rfl | exact pv_1 HPj | exact HB7.pv 1 _ rfl | assumption)) ?_)))))
    refine l_v (v_fieldAddr (off := 2) (ft := 2) zk rfl) (l_v (v_load zk rfl (by first | exact HPj 2 _ rfl | exact pv_1 HPj | exact HB7.pv 2 _ rfl | assumption)) ?_)
    refine l_v (v_fieldAddr (off := 3) (ft := 28) zk rfl) (l_v (v_loadA zk rfl (by first | exact (show Pv _ _ [_, _, _, _, _, _, _] from pv_sub 3 7 HPj) | exact (show Pv _ _ [_, _, _, _, _, _, _] from pv_sub 3 7 HB7.pv) | exact pv_at 3 HPj | exact pv_at 3 HB7.pv | exact HPj | assumption) rfl) ?_)
    refine l_v (v_build (pl := [(0, 1), (1, 1), (2, 7)]) (z := .agg #[.int .i64 0, .int .i64 0, .int .i64 0, .slice none 0 0, .slice none 0 0, .slice none 0 0, .slice none 0 0, .bool false, .int .i64 0]) (zl := [.int .i64 0, .int .i64 0, .int .i64 0, .slice none 0 0, .slice none 0 0, .slice none 0 0, .slice none 0 0, .bool false, .int .i64 0]) zk (by unfold kZero; kernel_rfl) rfl rfl (cells := [_, _, _, _, _, _, _, _, _]) rfl) ?_
    refine l_v (zmI rfl) (l_v (v_build (pl := [(0, 9), (9, 1), (10, 1), (11, 3)]) (z := .agg #[.int .i64 0, .int .i64 0, .int .i64 0, .slice none 0 0, .slice none 0 0, .slice none 0 0, .slice none 0 0, .bool false, .int .i64 0, .int .i64 0, .int .i64 0, .int .i64 0, .slice none 0 0, .slice none 0 0]) (zl := [.int .i64 0, .int .i64 0, .int .i64 0, .slice none 0 0, .slice none 0 0, .slice none 0 0, .slice none 0 0, .bool false, .int .i64 0, .int .i64 0, .int .i64 0, .int .i64 0, .slice none 0 0, .slice none 0 0]) zk (by unfold kZero; kernel_rfl) rfl rfl (cells := [_, _, _, _, _, _, _, _, _, _, _, _, _, _]) rfl) ?_)
    replace HGa := HGa.keep k40 dj1
    refine l_to (to_slice1 (t := tJd) (et := 86) (bytes := 208) zk zq (zvA rfl) ((AgV.rp (show AgV tJd _ (fun b => F b ∧ b < n0) _ (newJ ev i) from ⟨_, rfl, tJd_mk (AgV.cells HGa) (AgV.cells an0_ag) he2 he3 ⟨by omega, by omega⟩ ⟨by decide, by decide⟩⟩))) ?_)
    rintro b50 w50 zb50 HO50 e50 z50
    have := e50.size
    have zo_HO50 := fun (b : Nat) h => HO50.own_lt (b := b) h
    have HS50 := HO50.view.mono (F' := fun b => (F b ∧ b < n0) ∨ b50 ≤ b) fun b _ h => h.elim .inr (fun h => .inl h.1)
    replace HOx := (HOx.keep k40 (by intro i ho he; have he0 := he; have ho0 := ho; (try dsimp only [NoK] at he); (try simp only [Value.ownBlock, Option.some.injEq, reduceCtorEq] at ho); (try simp only [Value.ownBlock, Option.some.injEq, reduceCtorEq] at he); first | exact he.elim | exact ho.elim | omega | (have := zo_HOx _ ho0; omega)) (by intro i _ hi _ he; have he0 := he; have hi := hi; have he := he; (try dsimp only [NoK, AllB] at hi he); (try simp only [Value.ownBlock, Option.some.injEq, reduceCtorEq] at he); all_goals first | exact hi.elim | exact hi.1.elim | exact he.elim | omega | (rcases hi with hi | hi <;> omega) | (rcases he with he | he <;> omega))).ext e50
    have HOy := HOx.mono (F' := fun b => (F b ∧ b < n0) ∨ n1 ≤ b) fun b _ h => h.imp (fun h => h) (fun h => h.1)
    have zo_HOy := fun (b : Nat) h => HOy.own_lt (b := b) h
    have zo_HOy := zo_HOx
    refine l_to (to_append (et := 86) (bytes := 208) zk (zvS rfl) HOy (zvS rfl) HS50 (deepF (fun b hb hb2 => ⟨hb2.imp (fun h => h) (fun h => by omega), fun ho => by have := zo_HOx _ ho; omega⟩)) (by first | omega | (simp; done) | (simp; omega)) (by simp only [maxLen]; first | omega | (simp; done) | (simp; omega)) zo ?_)
    rintro a51 n51 c51 w51 HO51 hn51 k51 h51 i51
    have := k51.size
    subst hn51
    have zo_HO51 := fun (b : Nat) h => HO51.own_lt (b := b) h
    refine l_v (zaS rfl) (l_nil (n_blk (n_blk (n_then (wp_reg zd (l_v (v_add rfl rfl (by first | exact wr_i64 zo zo | rfl)) ?_))))))
    replace E := ((E.step k40 dj3).trans e50.keep).step k51 (by intro i hi he; have he0 := he; (try dsimp only [NoK] at hi he ⊢); (try simp only [Value.ownBlock, Option.some.injEq] at he); first | exact he.elim | omega | exact he | (have := (HOy).own_lt he0; omega) | (have := zo_HOy _ he0; omega) | (have := (HOy).own_lt he0; rcases hi with hi | hi <;> omega) | (have := zo_HOx _ he; omega))
    replace HSl := ((HSl.keep k40 dj1).ext e50).keep k51 (by intro i _ hi he; have he0 := he; (try dsimp only [NoK, AllB] at hi he); (try simp only [Value.ownBlock, Option.some.injEq] at he); first | exact hi.elim | exact he.elim | omega | (rcases hi with hi | hi <;> omega) | (rcases he with he | he <;> omega) | (have := (HOy).own_lt he0; omega) | (have := zo_HOy _ he0; omega) | (have := (HOy).own_lt he0; rcases hi with hi | hi <;> omega) | (have := zo_HOx _ he; omega))
    replace EL1 := ((EL1.step k40 dj3).trans e50.keep).step k51 (by intro i hi he; have he0 := he; (try dsimp only [NoK] at hi he ⊢); (try simp only [Value.ownBlock, Option.some.injEq] at he); first | exact he.elim | omega | exact he | (have := (HOy).own_lt he0; omega) | (have := zo_HOy _ he0; omega) | (have := (HOy).own_lt he0; rcases hi with hi | hi <;> omega) | (have := zo_HOx _ he; omega))
    replace HGx := (HGx.keep k40 dj1).ext e50
    replace HGa := HGa.ext e50
    replace HB7 := (HB7.ext e50).keep k51 (by intro h; have he0 := h; (try dsimp only at h); (try simp only [Value.ownBlock, Option.some.injEq] at h); first | omega | (have := (HOy).own_lt he0; omega) | (have := zo_HOy _ he0; omega) | (have he := he0; have := zo_HOx _ he; omega))
    replace HPj := HPj.ext e50
    replace HM1 := (HM1.ext e50).keep k51 (by intro h; have he0 := h; (try dsimp only at h); (try simp only [Value.ownBlock, Option.some.injEq] at h); first | omega | (have := (HOy).own_lt he0; omega) | (have := zo_HOy _ he0; omega) | (have he := he0; have := zo_HOx _ he; omega))
    replace HS50 := HS50.keep k51 (by intro i _ hi he; have he0 := he; (try dsimp only [NoK, AllB] at hi he); (try simp only [Value.ownBlock, Option.some.injEq] at he); first | exact hi.elim | exact he.elim | omega | (rcases hi with hi | hi <;> omega) | (rcases he with he | he <;> omega) | (have := (HOy).own_lt he0; omega) | (have := zo_HOy _ he0; omega) | (have := (HOy).own_lt he0; rcases hi with hi | hi <;> omega) | (have := zo_HOx _ he; omega))
    refine l_v (zmI rfl) (l_nil (n_then (⟨(i + 1, a51, c51, out ++ [newJ ev i], mpSet ml ev.2.1 (.int .i64 (out.length : Int))), _, rfl, by (repeat' (first | exact Off.of_over _ _ _ | refine Off.upd ?_ zq _ | refine Off.overs ?_ zq _)), ⟨by first | rfl | exact congrArg (Value.int _) zo | (simp; done), by first | rfl | exact congrArg (Value.int _) zo | (simp; done), trivial⟩, ⟨E, EL1, ?_⟩, ?_⟩)))
    ·
     refine ⟨by omega, by simp; omega, by rw [h3, hev], fun c => ?_, HM1, HO51.mono fun b hb h => h.imp (fun h => h) (fun h => ⟨h, hb⟩)⟩
     rw [mpGet_set, lastJ_snoc, h4 c]
     show _ = Option.map _ (if (newJ ev i).1.1 = c then _ else _)
     by_cases hc : c = ev.2.1
     ·
      subst hc; simp [newJ]
     rw [if_neg hc, if_neg (fun h => hc h.symm)]
    (dsimp only; omega)
   have hev1 : evStep out i ev = if (((whoE ev && ansB ev) && decide (x.1.2.1 = ev.2.2.1)) && decide (x.2.2.1 < 0)) = true then some (out.set n (x.1, x.2.1, (i : Int), ev.2.2.2.2)) else none := by
    rw [hev, if_neg]
    rw [who_eq] at h95
    rw [Bool.not_eq_true]
    exact h95
   refine c_seq (wp_regd (NoK) zk zd zd ?_)
   refine rt_v (fun vals w hR hd => zmB rfl) ?_
   refine rt_v (fun vals w hR hd => v_move (t := .bool _) (hd 0 rfl)) ?_
   refine rt_g1 rfl (fun vals w hd => hd 1 rfl) (fun vals w hR hd hG => zmB rfl) ?_
   refine rt_v (fun vals w hR hd => v_and (hd 1 rfl) (hd 2 rfl)) ?_
   refine rt_v (fun vals w hR hd => v_move (t := .bool _) (hd 3 rfl)) ?_
   refine rt_g1 rfl (fun vals w hd => hd 4 rfl) (fun vals w hR hd hG => zmB rfl) ?_
   refine rt_v (fun vals w hR hd => v_and (hd 4 rfl) (hd 5 rfl)) ?_
   refine rt_v (fun vals w hR hd => v_move (t := .bool _) (hd 6 rfl)) ?_
   refine rt_g1 rfl (fun vals w hd => hd 7 rfl) (fun vals w hR hd hG => zmS rfl) ?_
   refine rt_g1 rfl (fun vals w hd => hd 7 rfl) (fun vals w hR hd hG => zmI rfl) ?_
   refine rt_g1 rfl (fun vals w hd => hd 7 rfl) (fun vals w hR hd hG => v_indexAddr (et := 86) (sz := 14) (k := n) zk zk (gd hG (hd 8 rfl)) (gd hG (hd 9 rfl)) (by first | rfl | omega) zo) ?_
   refine rt_g1 rfl (fun vals w hd => hd 7 rfl) (fun vals w hR hd hG => v_fieldAddr (off := 0) (ft := 77) zk (gd hG (hd 10 rfl))) ?_
   refine rt_g1 rfl (fun vals w hd => hd 7 rfl) (fun vals w hR hd hG => v_fieldAddr (off := 1) (ft := 2) zk (gd hG (hd 11 rfl))) ?_
   refine rt_g1 rfl (fun vals w hd => hd 7 rfl) (fun vals w hR hd hG => v_load zk (gd hG (hd 12 rfl)) (by first | exact (HPj.ext hR) 1 _ rfl | exact pv_1 (HPj.ext hR) | exact (HB7.ext hR).pv 1 _ rfl | assumption)) ?_
   refine rt_g1 rfl (fun vals w hd => hd 7 rfl) (fun vals w hR hd hG => v_fieldAddr (off := 2) (ft := 2) zk rfl) ?_
   refine rt_g1 rfl (fun vals w hd => hd 7 rfl) (fun vals w hR hd hG => v_load zk (gd hG (hd 14 rfl)) (by first | exact (HPj.ext hR) 2 _ rfl | exact pv_1 (HPj.ext hR) | exact (HB7.ext hR).pv 2 _ rfl | assumption)) ?_
   refine rt_g1 rfl (fun vals w hd => hd 7 rfl) (fun vals w hR hd hG => v_eql (gd hG (hd 13 rfl)) (gd hG (hd 15 rfl))) ?_
   refine rt_v (fun vals w hR hd => v_and (hd 7 rfl) (hd 16 rfl)) ?_
   refine rt_v (fun vals w hR hd => v_move (t := .bool _) (hd 17 rfl)) ?_
   refine rt_g1 rfl (fun vals w hd => hd 18 rfl) (fun vals w hR hd hG => zmS rfl) ?_
   refine rt_g1 rfl (fun vals w hd => hd 18 rfl) (fun vals w hR hd hG => zmI rfl) ?_
   refine rt_g1 rfl (fun vals w hd => hd 18 rfl) (fun vals w hR hd hG => v_indexAddr (et := 86) (sz := 14) (k := n) zk zk (gd hG (hd 19 rfl)) (gd hG (hd 20 rfl)) (by first | rfl | omega) zo) ?_
   refine rt_g1 rfl (fun vals w hd => hd 18 rfl) (fun vals w hR hd hG => v_fieldAddr (off := 10) (ft := 3) zk (gd hG (hd 21 rfl))) ?_
   refine rt_g1 rfl (fun vals w hd => hd 18 rfl) (fun vals w hR hd hG => v_load zk (gd hG (hd 22 rfl)) (by first | exact (HPj.ext hR) 10 _ rfl | exact pv_1 (HPj.ext hR) | exact (HB7.ext hR).pv 10 _ rfl | assumption)) ?_
   refine rt_g1 rfl (fun vals w hd => hd 18 rfl) (fun vals w hR hd hG => v_lss (gd hG (hd 23 rfl)) rfl) ?_
   refine rt_v (fun vals w hR hd => v_and (hd 18 rfl) (hd 24 rfl)) ?_
   refine rt_v (fun vals w hR hd => v_assign (t := .bool _) (hd 25 rfl)) ?_
   refine rt_nil (fun w108 e108 => ?_)
   rintro _ rfl _ rfl _ rfl _ rfl _ rfl _ rfl _ rfl _ rfl _ rfl _ rfl _ rfl _ rfl _ rfl _ rfl _ rfl _ rfl _ rfl _ rfl _ rfl _ rfl _ rfl _ rfl _ rfl _ rfl _ rfl _ rfl _ rfl
   have := e108.size
   replace E := E.trans e108.keep
   replace HSl := HSl.ext e108
   replace HM1 := HM1.ext e108
   replace HOx := HOx.ext e108
   replace EL1 := EL1.trans e108.keep
   replace HGa := HGa.ext e108
   replace HGx := HGx.ext e108
   replace HB7 := HB7.ext e108
   replace HPj := HPj.ext e108
   refine fin_nil (n_then (c_cond rfl rfl (fun h139 => ?_) (fun h139 => ?_)))
   ·
    have hev : evStep out i ev = some (out.set n (x.1, x.2.1, (i : Int), ev.2.2.2.2)) := by
     rw [hev1, if_pos]
     rw [who_eq] at h139
     simpa [ansB] using h139
    have HOy := HOx.mono (F' := fun b => (F b ∧ b < n0) ∨ n1 ≤ b) fun b _ h => h.imp (fun h => h) (fun h => h.1)
    have hrx : ∀ (W : World) (G : Nat → Prop), AgV tAn W G (.agg #[.int .i64 ev.2.2.2.2.1, .slice a5 ev.2.2.2.2.2.1.length c5, .slice a6 ev.2.2.2.2.2.2.length c6]) ev.2.2.2.2 → ∀ cl, tJd.rep W G cl (x.1, x.2.1, (i : Int), x.2.2.2) → tJd.rep W G (setAt cl 11 [.int .i64 ev.2.2.2.2.1, .slice a5 ev.2.2.2.2.2.1.length c5, .slice a6 ev.2.2.2.2.2.2.length c6]) (x.1, x.2.1, (i : Int), ev.2.2.2.2) := by
     intro W G hg cl hcl
     obtain ⟨y1, f1, y2, f2, y3, f3, y4, f4, y5, f5, y6, f6, rfl, k1, k2, k3, k4, k5, k6⟩ := tJd_cells hcl
     exact tJd_mk (AgV.cells k1) (AgV.cells hg) k3 k4 k5 k6
    have hri : ∀ (W : World) (G : Nat → Prop) cl, tJd.rep W G cl x → tJd.rep W G (cl.set 10 (.int .i64 (i : Int))) (x.1, x.2.1, (i : Int), x.2.2.2) := by
     intro W G cl hcl
     obtain ⟨y1, f1, y2, f2, y3, f3, y4, f4, y5, f5, y6, f6, rfl, k1, k2, k3, k4, k5, k6⟩ := tJd_cells hcl
     exact tJd_mk (AgV.cells k1) (AgV.cells k2) k3 k4 k5 ⟨by omega, by omega⟩
    have zo_HOy := fun (b : Nat) h => HOy.own_lt (b := b) h
    refine wp_any zk ?_
    have e109 : Ext w108 { w108 with drawn := w108.drawn + 1 } := Keep.drawn _ _
    generalize hw109 : ({ w108 with drawn := w108.drawn + 1 } : World) = w109 at e109 ⊢
    clear hw109
    have := e109.size
    refine r_cut 10 rfl zd zd zd ?_
    replace HOy := HOy.ext e109
    refine wp_regJW (fun k => k = bo) (OneJ 9 (fun W => OwV tJd 86 W n1 (fun b => (F b ∧ b < n0) ∨ n1 ≤ b) (.slice (some ⟨bo, 0, none⟩) out.length co) (out)) (fun W => OwV tJd 86 W n1 (fun b => (F b ∧ b < n0) ∨ n1 ≤ b) (.slice (some ⟨bo, 0, none⟩) out.length co) (out.set n (x.1, x.2.1, (i : Int), x.2.2.2)))) zd zd (fun vals done hd => OneJ.start HOy (hd 9 zq)) ?_
    refine rj_v OneJ.on zq (fun done vals w hR hJ hdn hd => zmS rfl) ?_
    refine rj_v OneJ.on zq (fun done vals w hR hJ hdn hd => zmI rfl) ?_
    refine rj_v OneJ.on zq (fun done vals w hR hJ hdn hd => zmS rfl) ?_
    refine rj_v OneJ.on zq (fun done vals w hR hJ hdn hd => zmI rfl) ?_
    refine rj_v OneJ.on zq (fun done vals w hR hJ hdn hd => zmI rfl) ?_
    refine rj_v OneJ.on zq (fun done vals w hR hJ hdn hd => v_fieldAddr (off := 10) (ft := 31) zk rfl) ?_
    replace HB7 := HB7.ext e109
    refine rj_v OneJ.on zq (fun done vals w hR hJ hdn hd => v_loadA zk (hd 5 rfl) (by first | exact (show Pv _ _ [_, _, _] from pv_sub 10 3 (HB7.keep hR (by intro h; have he0 := h; (try dsimp only at h); (try simp only [Value.ownBlock, Option.some.injEq] at h); first | omega | (have he := he0; have := zo_HOx _ he; omega))).pv) | exact pv_at 10 (HB7.keep hR (by intro h; have he0 := h; (try dsimp only at h); (try simp only [Value.ownBlock, Option.some.injEq] at h); first | omega | (have he := he0; have := zo_HOx _ he; omega))).pv | assumption) rfl) ?_
    refine rj_v OneJ.on zq (fun done vals w hR hJ hdn hd => v_indexAddr (et := 86) (sz := 14) (k := n) zk zk (hd 0 rfl) (hd 1 rfl) (by first | rfl | omega) zo) ?_
    refine rj_v OneJ.on zq (fun done vals w hR hJ hdn hd => v_fieldAddr (off := 10) (ft := 3) zk (hd 7 rfl)) ?_
    refine rj_d (fun done vals w hR hcl hdk hJ hdn hd => to_storeO (k := n) (off := 10) (hd 8 rfl) ((by rw [show tJd.sz = 14 from rfl]; simp [add_lit])) zq (hd 4 rfl) rfl zk (hJ.2 hdk) (x1 := (x.1, x.2.1, (i : Int), x.2.2.2)) hxn (fun cl h => hri _ _ cl h) (fun w1 hO1 k1 z1 => ⟨k1, OneJ.step hO1⟩)) ?_
    refine rj_nil (fun vals w110 k110 J110 => ?_)
    rintro _ - rfl _ - rfl _ - rfl _ - rfl _ - rfl _ - rfl _ - rfl _ - rfl _ - rfl _ - -
    have := k110.size
    have HOz := J110.1 rfl
    dsimp only at HOz
    have zo_HOz := fun (b : Nat) h => HOz.own_lt (b := b) h
    refine fin_nilJ (n_then (r_cut 2 rfl zd zd zd ?_))
    refine wp_regdW (NoK) zd zd ?_
    refine rt_v (fun vals w hR hd => v_indexAddr (et := 86) (sz := 14) (k := n) zk zk rfl rfl (by first | rfl | omega) zo) ?_
    refine rt_v (fun vals w hR hd => v_fieldAddr (off := 11) (ft := 31) zk (hd 0 rfl)) ?_
    refine rt_nil (fun w111 e111 => ?_)
    replace E := (E.trans e109.keep).step k110 (by intro i hi he; have he0 := he; (try dsimp only [NoK] at hi he ⊢); (try simp only [Value.ownBlock, Option.some.injEq] at he); first | exact he.elim | omega | exact he | (have := zo_HOx _ he; omega))
    replace HSl := (HSl.ext e109).keep k110 (by intro i _ hi he; have he0 := he; (try dsimp only [NoK, AllB] at hi he); (try simp only [Value.ownBlock, Option.some.injEq] at he); first | exact hi.elim | exact he.elim | omega | (rcases hi with hi | hi <;> omega) | (rcases he with he | he <;> omega) | (have := zo_HOx _ he; omega))
    replace HM1 := (HM1.ext e109).keep k110 (by intro h; have he0 := h; (try dsimp only at h); (try simp only [Value.ownBlock, Option.some.injEq] at h); first | omega | (have he := he0; have := zo_HOx _ he; omega))
    replace EL1 := (EL1.trans e109.keep).step k110 (by intro i hi he; have he0 := he; (try dsimp only [NoK] at hi he ⊢); (try simp only [Value.ownBlock, Option.some.injEq] at he); first | exact he.elim | omega | exact he | (have := zo_HOx _ he; omega))
    replace HGa := (HGa.ext e109).keep k110 (by intro i _ hi he; have he0 := he; (try dsimp only [NoK, AllB] at hi he); (try simp only [Value.ownBlock, Option.some.injEq] at he); first | exact hi.elim | exact he.elim | omega | (rcases hi with hi | hi <;> omega) | (rcases he with he | he <;> omega) | (have := zo_HOx _ he; omega))
    replace HGx := (HGx.ext e109).keep k110 (by intro i _ hi he; have he0 := he; (try dsimp only [NoK, AllB] at hi he); (try simp only [Value.ownBlock, Option.some.injEq] at he); first | exact hi.elim | exact he.elim | omega | (rcases hi with hi | hi <;> omega) | (rcases he with he | he <;> omega) | (have := zo_HOx _ he; omega))
    replace HB7 := HB7.keep k110 (by intro h; have he0 := h; (try dsimp only at h); (try simp only [Value.ownBlock, Option.some.injEq] at h); first | omega | (have he := he0; have := zo_HOx _ he; omega))
    rintro _ rfl _ rfl
    have := e111.size
    refine fin_nil (n_then (r_one zd rfl ?_))
    replace HGx := HGx.ext e111
    replace HOz := HOz.ext e111
    refine l_to (to_storeOP (k := n) (off := 11) (m := 3) rfl ((by rw [show tJd.sz = 14 from rfl]; simp [add_lit])) (zvA rfl) zk rfl zq (one_all (by rfl)) HOz (x0 := (x.1, x.2.1, (i : Int), x.2.2.2)) (x1 := (x.1, x.2.1, (i : Int), ev.2.2.2.2)) (List.getElem?_set_self hnl) (fun cl h => hrx _ _ (HGx.mono fun b _ h => ⟨.inl h, by omega⟩) cl h) ?_)
    rintro w61 HO61 k61 z61
    have := k61.size
    rw [List.set_set] at HO61
    have zo_HO61 := fun (b : Nat) h => HO61.own_lt (b := b) h
    refine l_nil (n_blk (n_blk (n_then (wp_reg zd (l_v (v_add rfl rfl (by first | exact wr_i64 zo zo | rfl)) ?_)))))
    replace E := (E.trans e111.keep).step k61 (by intro i hi he; have he0 := he; (try dsimp only [NoK] at hi he ⊢); (try simp only [Value.ownBlock, Option.some.injEq] at he); first | exact he.elim | omega | exact he | (have := zo_HOx _ he; omega))
    replace HSl := (HSl.ext e111).keep k61 (by intro i _ hi he; have he0 := he; (try dsimp only [NoK, AllB] at hi he); (try simp only [Value.ownBlock, Option.some.injEq] at he); first | exact hi.elim | exact he.elim | omega | (rcases hi with hi | hi <;> omega) | (rcases he with he | he <;> omega) | (have := zo_HOx _ he; omega))
    replace HM1 := (HM1.ext e111).keep k61 (by intro h; have he0 := h; (try dsimp only at h); (try simp only [Value.ownBlock, Option.some.injEq] at h); first | omega | (have he := he0; have := zo_HOx _ he; omega))
    replace EL1 := (EL1.trans e111.keep).step k61 (by intro i hi he; have he0 := he; (try dsimp only [NoK] at hi he ⊢); (try simp only [Value.ownBlock, Option.some.injEq] at he); first | exact he.elim | omega | exact he | (have := zo_HOx _ he; omega))
    replace HGa := (HGa.ext e111).keep k61 (by intro i _ hi he; have he0 := he; (try dsimp only [NoK, AllB] at hi he); (try simp only [Value.ownBlock, Option.some.injEq] at he); first | exact hi.elim | exact he.elim | omega | (rcases hi with hi | hi <;> omega) | (rcases he with he | he <;> omega) | (have := zo_HOx _ he; omega))
    replace HB7 := (HB7.ext e111).keep k61 (by intro h; have he0 := h; (try dsimp only at h); (try simp only [Value.ownBlock, Option.some.injEq] at h); first | omega | (have he := he0; have := zo_HOx _ he; omega))
    replace HGx := HGx.keep k61 (by intro i _ hi he; have he0 := he; (try dsimp only [NoK, AllB] at hi he); (try simp only [Value.ownBlock, Option.some.injEq] at he); first | exact hi.elim | exact he.elim | omega | (rcases hi with hi | hi <;> omega) | (rcases he with he | he <;> omega) | (have := zo_HOx _ he; omega))
    refine l_v (zmI rfl) (l_nil (n_then (⟨(i + 1, some ⟨bo, 0, none⟩, co, out.set n (x.1, x.2.1, (i : Int), ev.2.2.2.2), ml), _, rfl, by (repeat' (first | exact Off.of_over _ _ _ | refine Off.upd ?_ zq _ | refine Off.overs ?_ zq _)), ⟨by first | rfl | exact congrArg (Value.int _) zo | (simp; done) | (simp only [List.length_set]; rfl), by first | rfl | exact congrArg (Value.int _) zo | (simp; done) | (simp only [List.length_set]; rfl), trivial⟩, ⟨E, EL1, ?_⟩, ?_⟩)))
    ·
     refine ⟨by omega, by rw [List.length_set]; omega, by rw [h3, hev], fun c => by rw [lastJ_set (y := (x.1, x.2.1, (i : Int), ev.2.2.2.2)) hxn rfl c, h4 c], HM1, ?_⟩
     rw [List.length_set]
     exact HO61.mono fun b hb h => h.imp (fun h => h) (fun h => ⟨h, hb⟩)
    (dsimp only; omega)
   have hev : evStep out i ev = none := by
    rw [hev1, if_neg]
    rw [who_eq] at h139
    rw [Bool.not_eq_true]
    simpa [ansB] using h139
   refine c_seq (wp_reg zd (l_v (zmS rfl) (l_v (zmI rfl) (l_v (zaS rfl) (l_v (zaI rfl) (l_nil (n_then (c_ret (r_blk ?_)))))))))
   refine r_blk (r_then (r_then (r_blk (r_then (ret2v rfl zq zq (zvS rfl) (zvI rfl) ?_)))))
   have h5 : rdE l 0 [] = (out, i) := by rw [h3, hev]
   rw [h5]
   exact ⟨_, rfl, HOx.view.mono fun b _ h => h.elim (fun h => .inr zo) (fun h => h.elim (fun h => .inl h.1) (fun h => .inr zo)), E⟩
  refine c_seq ?_
  have hln : lastJ out ev.2.1 = none := by cases h : lastJ out ev.2.1 with | none => rfl | some n => rw [h] at hs; simp at hs
  have hg := h4 ev.2.1
  rw [hln] at hg
  have hl5 : (mpGet ml ev.2.1).getD (.int .i64 0) = .int .i64 0 := by rw [hg]; rfl
  have hl6 : (mpGet ml ev.2.1).isSome = false := by rw [hg]; rfl
  refine wp_reg zd (l_v (v_move (t := .map _) rfl) (l_v (v_fieldAddr (off := 1) (ft := 3) zk rfl) (l_v (v_load zk rfl (by first | exact HB7.pv 1 _ rfl | assumption)) ?_)))
  refine l_v (v_lookup2E (el := 3) (k := ev.2.1) (z := .int .i64 0) kInt ⟨3, by kernel_rfl, by kernel_rfl⟩ (by unfold kZero; kernel_rfl) rfl (zvI rfl) rfl HM1 hl5 hl6) ?_
  refine l_v (zmT rfl) (l_v (v_extract (t := .int _ _) rfl rfl) (l_v (v_extract (t := .bool _) rfl rfl) (l_v (zaI rfl) (l_v (zaB rfl) (l_nil (n_then (c_seq (wp_reg zd (l_v (v_fieldAddr (off := 1) (ft := 3) zk rfl) ?_)))))))))
  refine l_v (v_load zk rfl (by first | exact HB7.pv 1 _ rfl | assumption)) ?_
  refine l_v (v_geq rfl rfl) ?_
  refine l_v (zmB rfl) (l_g1 rfl rfl (fun hG => v_fieldAddr (off := 1) (ft := 3) zk rfl) ?_)
  refine l_g1 rfl rfl (fun hG => v_load zk (gd hG rfl) (by first | exact HB7.pv 1 _ rfl | assumption)) ?_
  refine l_g1 rfl rfl (fun hG => v_leq (gd hG rfl) rfl) ?_
  refine l_v (v_and rfl rfl) ?_
  refine l_v (zmB rfl) (l_g1 rfl rfl (fun hG => v_fieldAddr (off := 2) (ft := 2) zk rfl) ?_)
  refine l_g1 rfl rfl (fun hG => v_load zk (gd hG rfl) (by first | exact HB7.pv 2 _ rfl | assumption)) ?_
  refine l_g1 rfl rfl (fun hG => v_geq (gd hG rfl) rfl) ?_
  refine l_v (v_and rfl rfl) ?_
  refine l_v (zmB rfl) (l_g1 rfl rfl (fun hG => v_fieldAddr (off := 2) (ft := 2) zk rfl) ?_)
  refine l_g1 rfl rfl (fun hG => v_load zk (gd hG rfl) (by first | exact HB7.pv 2 _ rfl | assumption)) ?_
  refine l_g1 rfl rfl (fun hG => v_leq (gd hG rfl) rfl) ?_
  refine l_v (v_and rfl rfl) ?_
  refine l_v (zaB rfl) (l_nil (n_then (c_seq (wp_reg zd (l_v (v_fieldAddr (off := 0) (ft := 42) zk rfl) (l_v (v_load zk rfl (by first | exact HB7.pv 0 _ rfl | assumption)) ?_))))))
  refine l_v (v_eql rfl rfl) ?_
  refine l_v (zmB rfl) (l_g1 rfl rfl (fun hG => v_fieldAddr (off := 3) (ft := 28) zk rfl) ?_)
  refine l_g1 rfl rfl (fun hG => v_loadA zk (gd hG rfl) (by first | exact (show Pv _ _ [_, _, _, _, _, _, _] from pv_sub 3 7 HB7.pv) | exact pv_at 3 HB7.pv | assumption) rfl) ?_
  refine l_g1f rfl rfl (fun hG => to_f1 zk (gd hG rfl) (MayAsk_c HGa)) ?_
  rintro w112 e112
  have := e112.size
  refine l_v (v_and rfl rfl) ?_
  refine l_v (zmB rfl) (l_g1 rfl rfl (fun hG => v_fieldAddr (off := 10) (ft := 31) zk rfl) ?_)
  replace HB7 := HB7.ext e112
  refine l_g1 rfl rfl (fun hG => v_loadA zk (gd hG rfl) (by first | exact (show Pv _ _ [_, _, _] from pv_sub 10 3 HB7.pv) | exact pv_at 10 HB7.pv | assumption) rfl) ?_
  refine l_g1 rfl rfl (fun hG => v_build (pl := [(0, 1), (1, 1), (2, 1)]) (z := .agg #[.int .i64 0, .slice none 0 0, .slice none 0 0]) (zl := [.int .i64 0, .slice none 0 0, .slice none 0 0]) zk (by unfold kZero; kernel_rfl) rfl rfl (cells := [_, _, _]) rfl) ?_
  replace HGx := HGx.ext e112
  refine l_g1f rfl rfl (fun hG => to_f2 zk (gd hG rfl) (gd hG rfl) (SameAnswer_c HGx (an0_ag (F := NoK)))) ?_
  rintro w113 e113
  have := e113.size
  refine l_v (v_and rfl rfl) ?_
  replace HB7 := HB7.ext e113
  refine l_v (zaB rfl) (l_nil (n_then (c_seq (wp_reg zd (l_v (v_fieldAddr (off := 0) (ft := 42) zk rfl) (l_v (v_load zk rfl (by first | exact HB7.pv 0 _ rfl | assumption)) ?_))))))
  refine l_v (v_eql rfl rfl) ?_
  refine l_v (zmB rfl) (l_g1 rfl rfl (fun hG => v_fieldAddr (off := 10) (ft := 31) zk rfl) ?_)
  refine l_g1 rfl rfl (fun hG => v_loadA zk (gd hG rfl) (by first | exact (show Pv _ _ [_, _, _] from pv_sub 10 3 HB7.pv) | exact pv_at 10 HB7.pv | assumption) rfl) ?_
  replace HGx := HGx.ext e113
  refine l_g1f rfl rfl (fun hG => to_f1 zk (gd hG rfl) (MayAnswer_c HGx)) ?_
  rintro w114 e114
  have := e114.size
  refine l_v (v_and rfl rfl) ?_
  refine l_v (zmB rfl) (l_g1 rfl rfl (fun hG => v_fieldAddr (off := 3) (ft := 28) zk rfl) ?_)
  replace HB7 := HB7.ext e114
  refine l_g1 rfl rfl (fun hG => v_loadA zk (gd hG rfl) (by first | exact (show Pv _ _ [_, _, _, _, _, _, _] from pv_sub 3 7 HB7.pv) | exact pv_at 3 HB7.pv | assumption) rfl) ?_
  refine l_g1 rfl rfl (fun hG => v_build (pl := [(0, 1), (1, 1), (2, 1), (3, 1), (4, 1), (5, 1), (6, 1)]) (z := .agg #[.int .i64 0, .slice none 0 0, .slice none 0 0, .slice none 0 0, .slice none 0 0, .bool false, .int .i64 0]) (zl := [.int .i64 0, .slice none 0 0, .slice none 0 0, .slice none 0 0, .slice none 0 0, .bool false, .int .i64 0]) zk (by unfold kZero; kernel_rfl) rfl rfl (cells := [_, _, _, _, _, _, _]) rfl) ?_
  replace HGa := ((HGa.ext e112).ext e113).ext e114
  refine l_g1f rfl rfl (fun hG => to_f2 zk (gd hG rfl) (gd hG rfl) (SameAsk_c HGa (ak0_ag (F := NoK)))) ?_
  rintro w115 e115
  have := e115.size
  refine l_v (v_and rfl rfl) ?_
  have hev := ev_none (i := i) hln
  refine l_v (zaB rfl) (l_nil (n_then (c_block (c_seq (wp_regd (NoK) zk zd zd ?_)))))
  refine rt_v (fun vals w hR hd => zmB rfl) ?_
  refine rt_v (fun vals w hR hd => v_move (t := .bool _) (hd 0 rfl)) ?_
  refine rt_g1 rfl (fun vals w hd => hd 1 rfl) (fun vals w hR hd hG => zmB rfl) ?_
  refine rt_v (fun vals w hR hd => v_and (hd 1 rfl) (hd 2 rfl)) ?_
  refine rt_v (fun vals w hR hd => v_move (t := .bool _) (hd 3 rfl)) ?_
  refine rt_g1 rfl (fun vals w hd => hd 4 rfl) (fun vals w hR hd hG => zmB rfl) ?_
  refine rt_g1 rfl (fun vals w hd => hd 4 rfl) (fun vals w hR hd hG => v_not (gd hG (hd 5 rfl))) ?_
  refine rt_g1 rfl (fun vals w hd => hd 4 rfl) (fun vals w hR hd hG => v_move (t := .bool _) (gd hG (hd 6 rfl))) ?_
  refine rt_g2 rfl (fun vals w hd => hd 7 rfl) (fun vals w hR hd hG => show OpVat _ _ _ _ (undef) from False.elim ((by simp at hG))) ?_
  refine rt_g2 rfl (fun vals w hd => hd 7 rfl) (fun vals w hR hd hG => show OpVat _ _ _ _ (undef) from False.elim ((by simp at hG))) ?_
  refine rt_g2 rfl (fun vals w hd => hd 7 rfl) (fun vals w hR hd hG => show OpVat _ _ _ _ (undef) from False.elim ((by simp at hG))) ?_
  refine rt_g2 rfl (fun vals w hd => hd 7 rfl) (fun vals w hR hd hG => show OpVat _ _ _ _ (undef) from False.elim ((by simp at hG))) ?_
  refine rt_g2 rfl (fun vals w hd => hd 7 rfl) (fun vals w hR hd hG => show OpVat _ _ _ _ (undef) from False.elim ((by simp at hG))) ?_
  refine rt_g2 rfl (fun vals w hd => hd 7 rfl) (fun vals w hR hd hG => show OpVat _ _ _ _ (undef) from False.elim ((by simp at hG))) ?_
  refine rt_g2 rfl (fun vals w hd => hd 7 rfl) (fun vals w hR hd hG => show OpVat _ _ _ _ (undef) from False.elim ((by simp at hG))) ?_
  refine rt_g2 rfl (fun vals w hd => hd 7 rfl) (fun vals w hR hd hG => show OpVat _ _ _ _ (undef) from False.elim ((by simp at hG))) ?_
  refine rt_g2 rfl (fun vals w hd => hd 7 rfl) (fun vals w hR hd hG => show OpVat _ _ _ _ (.bool true) from False.elim ((by simp at hG))) ?_
  refine rt_g1 rfl (fun vals w hd => hd 4 rfl) (fun vals w hR hd hG => v_or (gd hG (hd 7 rfl)) (gda hG (hd 16 rfl))) ?_
  refine rt_v (fun vals w hR hd => v_and (hd 4 rfl) (hd 17 rfl)) ?_
  refine rt_v (fun vals w hR hd => v_assign (t := .bool _) (hd 18 rfl)) ?_
  refine rt_nil (fun w116 e116 => ?_)
  rintro _ rfl _ rfl _ rfl _ rfl _ rfl _ rfl _ rfl _ rfl _ rfl _ rfl _ rfl _ rfl _ rfl _ rfl _ rfl _ rfl _ rfl _ rfl _ rfl _ rfl
  have := e116.size
  replace E := ((((E.trans e112.keep).trans e113.keep).trans e114.keep).trans e115.keep).trans e116.keep
  replace HSl := ((((HSl.ext e112).ext e113).ext e114).ext e115).ext e116
  replace HM1 := ((((HM1.ext e112).ext e113).ext e114).ext e115).ext e116
  replace HOx := ((((HOx.ext e112).ext e113).ext e114).ext e115).ext e116
  replace EL1 := ((((EL1.trans e112.keep).trans e113.keep).trans e114.keep).trans e115.keep).trans e116.keep
  replace HGx := ((HGx.ext e114).ext e115).ext e116
  replace HGa := (HGa.ext e115).ext e116
  replace HB7 := (HB7.ext e115).ext e116
  refine fin_nil (n_then (c_cond rfl rfl (fun h95 => ?_) (fun h95 => ?_)))
  ·
   have hev : evStep out i ev = some (out ++ [newJ ev i]) := by
    rw [hev, if_pos]
    rw [who_eq] at h95
    simpa [askB] using h95
   refine c_seq (wp_reg zd (l_v (v_move (t := .map _) rfl) (l_v (v_fieldAddr (off := 1) (ft := 3) zk rfl) (l_v (v_load zk rfl (by first | exact HB7.pv 1 _ rfl | assumption)) ?_))))
   refine l_v (zmS rfl) (l_v (v_len (et := 86) zk rfl) ?_)
   refine l_to (to_mapUpdate (el := 3) (k := ev.2.1) kInt ⟨3, by kernel_rfl, by kernel_rfl⟩ rfl (zvI rfl) rfl (zvI rfl) HM1 ?_)
   rintro w40 HM1 k40 z40
   have := k40.size
   replace HB7 := HB7.keep k40 (by intro h; have he0 := h; (try dsimp only at h); (try simp only [Value.ownBlock, Option.some.injEq] at h); first | omega | (have he := he0; have := zo_HOx _ he; omega))
   refine l_nil (n_then (wp_reg zd (l_v (zmS rfl) (l_v (v_fieldAddr (off := 1) (ft := 3) zk rfl) (l_v (v_load zk rfl (by first | exact HB7.pv 1 _ rfl | assumption)) ?_)))))
   refine l_v (v_fieldAddr (off := 2) (ft := 2) zk rfl) (l_v (v_load zk rfl (by first | exact HB7.pv 2 _ rfl | assumption)) ?_)
   refine l_v (v_fieldAddr (off := 3) (ft := 28) zk rfl) (l_v (v_loadA zk rfl (by first | exact (show Pv _ _ [_, _, _, _, _, _, _] from pv_sub 3 7 HB7.pv) | exact pv_at 3 HB7.pv | assumption) rfl) ?_)
   refine l_v (v_build (pl := [(0, 1), (1, 1), (2, 7)]) (z := .agg #[.int .i64 0, .int .i64 0, .int .i64 0, .slice none 0 0, .slice none 0 0, .slice none 0 0, .slice none 0 0, .bool false, .int .i64 0]) (zl := [.int .i64 0, .int .i64 0, .int .i64 0, .slice none 0 0, .slice none 0 0, .slice none 0 0, .slice none 0 0, .bool false, .int .i64 0]) zk (by unfold kZero; kernel_rfl) rfl rfl (cells := [_, _, _, _, _, _, _, _, _]) rfl) ?_
   refine l_v (zmI rfl) (l_v (v_build (pl := [(0, 9), (9, 1), (10, 1), (11, 3)]) (z := .agg #[.int .i64 0, .int .i64 0, .int .i64 0, .slice none 0 0, .slice none 0 0, .slice none 0 0, .slice none 0 0, .bool false, .int .i64 0, .int .i64 0, .int .i64 0, .int .i64 0, .slice none 0 0, .slice none 0 0]) (zl := [.int .i64 0, .int .i64 0, .int .i64 0, .slice none 0 0, .slice none 0 0, .slice none 0 0, .slice none 0 0, .bool false, .int .i64 0, .int .i64 0, .int .i64 0, .int .i64 0, .slice none 0 0, .slice none 0 0]) zk (by unfold kZero; kernel_rfl) rfl rfl (cells := [_, _, _, _, _, _, _, _, _, _, _, _, _, _]) rfl) ?_)
   replace HGa := HGa.keep k40 (by intro i _ hi he; have he0 := he; (try dsimp only [NoK, AllB] at hi he); (try simp only [Value.ownBlock, Option.some.injEq] at he); first | exact hi.elim | exact he.elim | omega | (rcases hi with hi | hi <;> omega) | (rcases he with he | he <;> omega) | (have := zo_HOx _ he; omega))
   refine l_to (to_slice1 (t := tJd) (et := 86) (bytes := 208) zk zq (zvA rfl) ((AgV.rp (show AgV tJd _ (fun b => F b ∧ b < n0) _ (newJ ev i) from ⟨_, rfl, tJd_mk (AgV.cells HGa) (AgV.cells an0_ag) he2 he3 ⟨by omega, by omega⟩ ⟨by decide, by decide⟩⟩))) ?_)
   rintro b50 w50 zb50 HO50 e50 z50
   have := e50.size
   have zo_HO50 := fun (b : Nat) h => HO50.own_lt (b := b) h
   have HS50 := HO50.view.mono (F' := fun b => (F b ∧ b < n0) ∨ b50 ≤ b) fun b _ h => h.elim .inr (fun h => .inl h.1)
   replace HOx := (HOx.keep k40 (by intro i ho he; have he0 := he; have ho0 := ho; (try dsimp only [NoK] at he); (try simp only [Value.ownBlock, Option.some.injEq, reduceCtorEq] at ho); (try simp only [Value.ownBlock, Option.some.injEq, reduceCtorEq] at he); first | exact he.elim | exact ho.elim | omega | (have := zo_HOx _ ho0; omega) | (have := zo_HOx _ he; omega)) (by intro i _ hi _ he; have he0 := he; have hi := hi; have he := he; (try dsimp only [NoK, AllB] at hi he); (try simp only [Value.ownBlock, Option.some.injEq, reduceCtorEq] at he); all_goals first | exact hi.elim | exact hi.1.elim | exact he.elim | omega | (rcases hi with hi | hi <;> omega) | (rcases he with he | he <;> omega) | (have := zo_HOx _ he; omega))).ext e50
   have HOy := HOx.mono (F' := fun b => (F b ∧ b < n0) ∨ n1 ≤ b) fun b _ h => h.imp (fun h => h) (fun h => h.1)
   have zo_HOy := fun (b : Nat) h => HOy.own_lt (b := b) h
   have zo_HOy := zo_HOx
   refine l_to (to_append (et := 86) (bytes := 208) zk (zvS rfl) HOy (zvS rfl) HS50 (deepF (fun b hb hb2 => ⟨hb2.imp (fun h => h) (fun h => by omega), fun ho => by have := zo_HOx _ ho; omega⟩)) (by first | omega | (simp; done) | (simp; omega)) (by simp only [maxLen]; first | omega | (simp; done) | (simp; omega)) zo ?_)
   rintro a51 n51 c51 w51 HO51 hn51 k51 h51 i51
   have := k51.size
   subst hn51
   have zo_HO51 := fun (b : Nat) h => HO51.own_lt (b := b) h
   refine l_v (zaS rfl) (l_nil (n_blk (n_blk (n_then (wp_reg zd (l_v (v_add rfl rfl (by first | exact wr_i64 zo zo | rfl)) ?_))))))
   replace E := ((E.step k40 (by intro i hi he; have he0 := he; (try dsimp only [NoK] at hi he ⊢); (try simp only [Value.ownBlock, Option.some.injEq] at he); first | exact he.elim | omega | exact he | (have := zo_HOx _ he; omega))).trans e50.keep).step k51 (by intro i hi he; have he0 := he; (try dsimp only [NoK] at hi he ⊢); (try simp only [Value.ownBlock, Option.some.injEq] at he); first | exact he.elim | omega | exact he | (have := (HOy).own_lt he0; omega) | (have := zo_HOy _ he0; omega) | (have := (HOy).own_lt he0; rcases hi with hi | hi <;> omega) | (have := zo_HOx _ he; omega))
   replace HSl := ((HSl.keep k40 (by intro i _ hi he; have he0 := he; (try dsimp only [NoK, AllB] at hi he); (try simp only [Value.ownBlock, Option.some.injEq] at he); first | exact hi.elim | exact he.elim | omega | (rcases hi with hi | hi <;> omega) | (rcases he with he | he <;> omega) | (have := zo_HOx _ he; omega))).ext e50).keep k51 (by intro i _ hi he; have he0 := he; (try dsimp only [NoK, AllB] at hi he); (try simp only [Value.ownBlock, Option.some.injEq] at he); first | exact hi.elim | exact he.elim | omega | (rcases hi with hi | hi <;> omega) | (rcases he with he | he <;> omega) | (have := (HOy).own_lt he0; omega) | (have := zo_HOy _ he0; omega) | (have := (HOy).own_lt he0; rcases hi with hi | hi <;> omega) | (have := zo_HOx _ he; omega))
   replace EL1 := ((EL1.step k40 (by intro i hi he; have he0 := he; (try dsimp only [NoK] at hi he ⊢); (try simp only [Value.ownBlock, Option.some.injEq] at he); first | exact he.elim | omega | exact he | (have := zo_HOx _ he; omega))).trans e50.keep).step k51 (by intro i hi he; have he0 := he; (try dsimp only [NoK] at hi he ⊢); (try simp only [Value.ownBlock, Option.some.injEq] at he); first | exact he.elim | omega | exact he | (have := (HOy).own_lt he0; omega) | (have := zo_HOy _ he0; omega) | (have := (HOy).own_lt he0; rcases hi with hi | hi <;> omega) | (have := zo_HOx _ he; omega))
   replace HGx := (HGx.keep k40 (by intro i _ hi he; have he0 := he; (try dsimp only [NoK, AllB] at hi he); (try simp only [Value.ownBlock, Option.some.injEq] at he); first | exact hi.elim | exact he.elim | omega | (rcases hi with hi | hi <;> omega) | (rcases he with he | he <;> omega) | (have := zo_HOx _ he; omega))).ext e50
   replace HGa := HGa.ext e50
   replace HB7 := (HB7.ext e50).keep k51 (by intro h; have he0 := h; (try dsimp only at h); (try simp only [Value.ownBlock, Option.some.injEq] at h); first | omega | (have := (HOy).own_lt he0; omega) | (have := zo_HOy _ he0; omega) | (have he := he0; have := zo_HOx _ he; omega))
   replace HM1 := (HM1.ext e50).keep k51 (by intro h; have he0 := h; (try dsimp only at h); (try simp only [Value.ownBlock, Option.some.injEq] at h); first | omega | (have := (HOy).own_lt he0; omega) | (have := zo_HOy _ he0; omega) | (have he := he0; have := zo_HOx _ he; omega))
   replace HS50 := HS50.keep k51 (by intro i _ hi he; have he0 := he; (try dsimp only [NoK, AllB] at hi he); (try simp only [Value.ownBlock, Option.some.injEq] at he); first | exact hi.elim | exact he.elim | omega | (rcases hi with hi | hi <;> omega) | (rcases he with he | he <;> omega) | (have := (HOy).own_lt he0; omega) | (have := zo_HOy _ he0; omega) | (have := (HOy).own_lt he0; rcases hi with hi | hi <;> omega) | (have := zo_HOx _ he; omega))
   refine l_v (zmI rfl) (l_nil (n_then (⟨(i + 1, a51, c51, out ++ [newJ ev i], mpSet ml ev.2.1 (.int .i64 (out.length : Int))), _, rfl, by (repeat' (first | exact Off.of_over _ _ _ | refine Off.upd ?_ zq _ | refine Off.overs ?_ zq _)), ⟨by first | rfl | exact congrArg (Value.int _) zo | (simp; done), by first | rfl | exact congrArg (Value.int _) zo | (simp; done), trivial⟩, ⟨E, EL1, ?_⟩, ?_⟩)))
   ·
    refine ⟨by omega, by simp; omega, by rw [h3, hev], fun c => ?_, HM1, HO51.mono fun b hb h => h.imp (fun h => h) (fun h => ⟨h, hb⟩)⟩
    rw [mpGet_set, lastJ_snoc, h4 c]
    show _ = Option.map _ (if (newJ ev i).1.1 = c then _ else _)
    by_cases hc : c = ev.2.1
    ·
     subst hc; simp [newJ]
    rw [if_neg hc, if_neg (fun h => hc h.symm)]
   (dsimp only; omega)
  have hev : evStep out i ev = none := by
   rw [hev, if_neg]
   rw [who_eq] at h95
   rw [Bool.not_eq_true]
   simpa [askB] using h95
  refine c_seq (wp_regd (NoK) zk zd zd ?_)
  refine rt_v (fun vals w hR hd => zmB rfl) ?_
  refine rt_v (fun vals w hR hd => v_move (t := .bool _) (hd 0 rfl)) ?_
  refine rt_g1 rfl (fun vals w hd => hd 1 rfl) (fun vals w hR hd hG => zmB rfl) ?_
  refine rt_v (fun vals w hR hd => v_and (hd 1 rfl) (hd 2 rfl)) ?_
  refine rt_v (fun vals w hR hd => v_move (t := .bool _) (hd 3 rfl)) ?_
  refine rt_g1 rfl (fun vals w hd => hd 4 rfl) (fun vals w hR hd hG => zmB rfl) ?_
  refine rt_v (fun vals w hR hd => v_and (hd 4 rfl) (hd 5 rfl)) ?_
  refine rt_v (fun vals w hR hd => v_move (t := .bool _) (hd 6 rfl)) ?_
  refine rt_g1 rfl (fun vals w hd => hd 7 rfl) (fun vals w hR hd hG => show OpVat _ _ _ _ (undef) from False.elim ((by simp at hG))) ?_
  refine rt_g1 rfl (fun vals w hd => hd 7 rfl) (fun vals w hR hd hG => show OpVat _ _ _ _ (undef) from False.elim ((by simp at hG))) ?_
  refine rt_g1 rfl (fun vals w hd => hd 7 rfl) (fun vals w hR hd hG => show OpVat _ _ _ _ (undef) from False.elim ((by simp at hG))) ?_
  refine rt_g1 rfl (fun vals w hd => hd 7 rfl) (fun vals w hR hd hG => show OpVat _ _ _ _ (undef) from False.elim ((by simp at hG))) ?_
  refine rt_g1 rfl (fun vals w hd => hd 7 rfl) (fun vals w hR hd hG => show OpVat _ _ _ _ (undef) from False.elim ((by simp at hG))) ?_
  refine rt_g1 rfl (fun vals w hd => hd 7 rfl) (fun vals w hR hd hG => show OpVat _ _ _ _ (undef) from False.elim ((by simp at hG))) ?_
  refine rt_g1 rfl (fun vals w hd => hd 7 rfl) (fun vals w hR hd hG => show OpVat _ _ _ _ (undef) from False.elim ((by simp at hG))) ?_
  refine rt_g1 rfl (fun vals w hd => hd 7 rfl) (fun vals w hR hd hG => show OpVat _ _ _ _ (undef) from False.elim ((by simp at hG))) ?_
  refine rt_g1 rfl (fun vals w hd => hd 7 rfl) (fun vals w hR hd hG => show OpVat _ _ _ _ (.bool true) from False.elim ((by simp at hG))) ?_
  refine rt_v (fun vals w hR hd => v_and (hd 7 rfl) (hd 16 rfl)) ?_
  refine rt_v (fun vals w hR hd => v_move (t := .bool _) (hd 17 rfl)) ?_
  refine rt_g1 rfl (fun vals w hd => hd 18 rfl) (fun vals w hR hd hG => show OpVat _ _ _ _ (undef) from False.elim ((by simp at hG))) ?_
  refine rt_g1 rfl (fun vals w hd => hd 18 rfl) (fun vals w hR hd hG => show OpVat _ _ _ _ (undef) from False.elim ((by simp at hG))) ?_
  refine rt_g1 rfl (fun vals w hd => hd 18 rfl) (fun vals w hR hd hG => show OpVat _ _ _ _ (undef) from False.elim ((by simp at hG))) ?_
  refine rt_g1 rfl (fun vals w hd => hd 18 rfl) (fun vals w hR hd hG => show OpVat _ _ _ _ (undef) from False.elim ((by simp at hG))) ?_
  refine rt_g1 rfl (fun vals w hd => hd 18 rfl) (fun vals w hR hd hG => show OpVat _ _ _ _ (undef) from False.elim ((by simp at hG))) ?_
  refine rt_g1 rfl (fun vals w hd => hd 18 rfl) (fun vals w hR hd hG => show OpVat _ _ _ _ (.bool true) from False.elim ((by simp at hG))) ?_
  refine rt_v (fun vals w hR hd => v_and (hd 18 rfl) (hd 24 rfl)) ?_
  refine rt_v (fun vals w hR hd => v_assign (t := .bool _) (hd 25 rfl)) ?_
  refine rt_nil (fun w117 e117 => ?_)
  rintro _ rfl _ rfl _ rfl _ rfl _ rfl _ rfl _ rfl _ rfl _ rfl _ rfl _ rfl _ rfl _ rfl _ rfl _ rfl _ rfl _ rfl _ rfl _ rfl _ rfl _ rfl _ rfl _ rfl _ rfl _ rfl _ rfl _ rfl
  have := e117.size
  replace E := E.trans e117.keep
  replace HSl := HSl.ext e117
  replace HM1 := HM1.ext e117
  replace HOx := HOx.ext e117
  replace EL1 := EL1.trans e117.keep
  replace HGa := HGa.ext e117
  replace HGx := HGx.ext e117
  replace HB7 := HB7.ext e117
  refine fin_nil (n_then (c_cond rfl rfl (fun h139 => ?_) (fun h139 => ?_)))
  ·
   simp at h139
  refine c_seq (wp_reg zd (l_v (zmS rfl) (l_v (zmI rfl) (l_v (zaS rfl) (l_v (zaI rfl) (l_nil (n_then (c_ret (r_blk ?_)))))))))
  refine r_blk (r_then (r_then (r_blk (r_then (ret2v rfl zq zq (zvS rfl) (zvI rfl) ?_)))))
  have h5 : rdE l 0 [] = (out, i) := by rw [h3, hev]
  rw [h5]
  exact ⟨_, rfl, HOx.view.mono fun b _ h => h.elim (fun h => .inr zo) (fun h => h.elim (fun h => .inl h.1) (fun h => .inr zo)), E⟩
 have hi : i = l.length := by have := dfalse hlt; omega
 refine c_exit (x_then (x_then (x_hit (n_then (c_seq (wp_reg zd (l_v (zmS rfl) (l_v (zmS rfl) (l_v (v_len (et := 44) zk rfl) ?_)))))))))
 refine l_v (zaS rfl) (l_v (zaI rfl) (l_nil (n_then (c_ret (ret2v rfl zq zq (zvS rfl) (zvI rfl) ?_)))))
 have h5 : rdE l 0 [] = (out, l.length) := by rw [h3, List.drop_eq_nil_of_le zo, hi]; rfl
 rw [h5]
 exact ⟨_, rfl, HOx.view.mono fun b _ h => h.elim (fun h => .inr zo) (fun h => h.elim (fun h => .inl h.1) (fun h => .inr zo)), E⟩
end Go.Proofs.Ytifnkmflmgnfjaa
