/- A part of the proof: steps and lemmas for the walks through the given program. -/
import Derived.Test.YtifnkmflmgnfjaaCa
import Derived.Test.YtifnkmflmgnfjaaJk
import Derived.Test.YtifnkmflmgnfjaaCz
import Derived.Test.YtifnkmflmgnfjaaJi
namespace Go.Proofs.Ytifnkmflmgnfjaa
open Go.Vc
set_option linter.unusedVariables false
set_option linter.unusedSimpArgs false
set_option maxRecDepth 100000
def mnL (m : Int) (n : Nat) : Int := if m + 1 < (n : Int) then m + 1 else (n : Int)
def muI (m : Int) : List IkV → Int → Int
  | [], n => n
  | r :: l, n => if n ≤ m then muI m l (n + 1 + mnL m r.1.length + mnL m r.2.2.2.length) else n
theorem muI_stop {m : Int} {l : List IkV} {n : Int} (h : ¬ n ≤ m) : muI m l n = n := by cases l <;> simp [muI, h]
def sumL (m : Int) : List (List UInt8) → Int
  | [] => 0
  | x :: l => mnL m x.length + sumL m l
def longC (m : Int) : CmV → Bool
  | (k, rq, mv, en, an, key, g) => decide (m < sumL m [rq.2.2.2.1, rq.2.2.2.2.1, rq.2.2.2.2.2.1, rq.2.2.2.2.2.2.1, mv.2.1, mv.2.2.1, an, key]) || decide (m < muI m en 0)
theorem muchI_c {w : World} {F : Nat → Prop} {v : Value} {l : List IkV} {m : Int} (HS1 : SlV tIk w F v l) (hm0 : 0 ≤ m) (hm1 : m ≤ 60000) : CallsR Try.prog 58 #[v, .int .i64 m] w (fun o w' => o = .bool (decide (m < muI m l 0)) ∧ Ext w w') := by
 obtain ⟨a0, c0, rfl⟩ := HS1.shape
 have hmx := HS1.len_max
 refine enter 43 Try.func58 rfl rfl (by simp) ?_
 refine c_seq ?_
 have E := Keep.refl (K := NoK) w
 replace HS1 := HS1.all
 refine wp_reg zd (l_v (v_assign rfl) (l_nil (n_then (c_seq (wp_reg zd (l_v (v_assign rfl) (l_nil (n_then (c_seq ?_)))))))))
 refine c_seq (wp_reg zd (l_v (v_assign rfl) (l_nil (n_then (c_block (c_loop (τ := Nat × Int) [5, 6, 7, 8, 9, 10, 11, 12, 13, 14, 15, 16, 17, 18, 19, 20, 21, 22, 23, 24, 25, 26, 27, 28, 29, 30, 31, 32, 33, 34, 35, 36, 37, 38, 39] (fun (i, n) => [(5, .int .i64 n), (6, .int .i64 i)]) (fun (i, n) W => Ext w W ∧ Keep (NoK) w W ∧ i ≤ l.length ∧ 0 ≤ n ∧ n ≤ 300000 ∧ muI m (l.drop i) n = muI m l 0) (fun (i, n) => l.length - i) (0, 0) (by exact ⟨rfl, rfl, trivial⟩) (by exact ⟨E, Keep.refl _, Nat.zero_le _, by omega, by omega, by rw [List.drop_zero]⟩) ?_))))))
 rintro ⟨i, n⟩ w101 j ⟨E, EL1, h1, h2, h3, h4⟩
 have := EL1.size
 refine c_seq (c_seq (wp_reg zd (l_v (zmI rfl) (l_v (zmS rfl) (l_v (v_len (et := 138) zk rfl) ?_)))))
 refine l_v (v_lss rfl rfl) ?_
 refine l_v (zmB rfl) (l_g1 rfl rfl (fun hG => zmI rfl) (l_g1 rfl rfl (fun hG => zmI rfl) (l_g1 rfl rfl (fun hG => v_leq (gd hG rfl) (gd hG rfl)) ?_)))
 refine l_v (v_and rfl rfl) ?_
 replace HS1 := HS1.ext EL1
 refine l_nil (n_then (c_cond rfl rfl (fun hlt => ?_) (fun hlt => ?_)))
 ·
  have hlt2 : i < l.length ∧ n ≤ m := by simp only [Bool.and_eq_true, decide_eq_true_eq] at hlt; omega
  obtain ⟨r, hx, hdr⟩ := getE (l := l) (i := i) zo
  obtain ⟨q, cs, hq, hF, _, HPq, hr⟩ := HS1.el hx
  cases hq
  obtain ⟨a1, c1, a2, c2, rfl, HSf, HSt, g1, g2⟩ := tIk_cells hr
  rw [hdr, muI, if_pos hlt2.2] at h4
  refine c_skip (n_then (c_seq (c_block (wp_regd (NoK) zk zd zd ?_))))
  refine rt_v (fun vals w hR hd => zmI rfl) ?_
  refine rt_v (fun vals w hR hd => v_add (hd 0 rfl) rfl (by first | exact wr_i64 zo zo | rfl)) ?_
  refine rt_v (fun vals w hR hd => zmS rfl) ?_
  refine rt_v (fun vals w hR hd => zmI rfl) ?_
  refine rt_v (fun vals w hR hd => v_indexAddr (et := 138) (sz := 4) (k := i) zk zk (hd 2 rfl) (hd 3 rfl) (by first | rfl | omega) zo) ?_
  refine rt_v (fun vals w hR hd => v_fieldAddr (off := 0) (ft := 26) zk (hd 4 rfl)) ?_
  refine rt_v (fun vals w hR hd => v_load zk (hd 5 rfl) (by first | exact (HPq.ext hR) 0 _ rfl | assumption)) ?_
  refine rt_v (fun vals w hR hd => v_len (et := 5) zk (hd 6 rfl)) ?_
  refine rt_v (fun vals w hR hd => zmI rfl) ?_
  refine rt_v (fun vals w hR hd => v_add (hd 8 rfl) rfl (by first | exact wr_i64 zo zo | rfl)) ?_
  refine rt_v (fun vals w hR hd => vmin (hd 7 rfl) (hd 9 rfl)) ?_
  refine rt_v (fun vals w hR hd => v_add (hd 1 rfl) (hd 10 rfl) (by first | exact wr_i64 zo zo | rfl)) ?_
  refine rt_v (fun vals w hR hd => zmS rfl) ?_
  refine rt_v (fun vals w hR hd => zmI rfl) ?_
  refine rt_v (fun vals w hR hd => v_indexAddr (et := 138) (sz := 4) (k := i) zk zk (hd 12 rfl) (hd 13 rfl) (by first | rfl | omega) zo) ?_
  refine rt_v (fun vals w hR hd => v_fieldAddr (off := 3) (ft := 26) zk (hd 14 rfl)) ?_
  refine rt_v (fun vals w hR hd => v_load zk (hd 15 rfl) (by first | exact (HPq.ext hR) 3 _ rfl | exact pv_1 (HPq.ext hR) | assumption)) ?_
  refine rt_v (fun vals w hR hd => v_len (et := 5) zk (hd 16 rfl)) ?_
  refine rt_v (fun vals w hR hd => zmI rfl) ?_
  refine rt_v (fun vals w hR hd => v_add (hd 18 rfl) rfl (by first | exact wr_i64 zo zo | rfl)) ?_
  refine rt_v (fun vals w hR hd => vmin (hd 17 rfl) (hd 19 rfl)) ?_
  refine rt_v (fun vals w hR hd => v_add (hd 11 rfl) (hd 20 rfl) (by first | exact wr_i64 zo zo | rfl)) ?_
  refine rt_v (fun vals w hR hd => v_assign (t := .int _ _) (hd 21 rfl)) ?_
  refine rt_nil (fun w102 e102 => ?_)
  rintro _ rfl _ rfl _ rfl _ rfl _ rfl _ rfl _ rfl _ rfl _ rfl _ rfl _ rfl _ rfl _ rfl _ rfl _ rfl _ rfl _ rfl _ rfl _ rfl _ rfl _ rfl _ rfl _ rfl
  have := e102.size
  refine fin_nil (n_blk (n_then (wp_reg zd (l_v (zmI rfl) (l_v (v_add rfl rfl (by first | exact wr_i64 zo zo | rfl)) ?_)))))
  replace E := E.trans e102.keep
  replace HS1 := HS1.ext e102
  replace EL1 := EL1.trans e102.keep
  replace HPq := HPq.ext e102
  refine l_v (zaI rfl) (l_nil (n_then (⟨(i + 1, n + 1 + (if m + 1 < (r.1.length : Int) then m + 1 else (r.1.length : Int)) + (if m + 1 < (r.2.2.2.length : Int) then m + 1 else (r.2.2.2.length : Int))), _, rfl, by (repeat (first | exact Off.of_over _ _ _ | refine Off.upd ?_ zq _ | refine Off.overs ?_ zq _)), ⟨by first | rfl | exact congrArg (Value.int _) zo | (simp; done), by first | rfl | exact congrArg (Value.int _) zo | (simp; done), trivial⟩, ⟨E, EL1, ?_⟩, ?_⟩)))
  ·
   exact ⟨by omega, by omega, by omega, h4⟩
  (dsimp only; omega)
 refine c_exit (x_then (x_then (x_hit (n_then (c_seq (wp_reg zd (l_v (zmI rfl) (l_v (zmI rfl) (l_v (v_gtr rfl rfl) ?_)))))))))
 refine l_v (zaB rfl) (l_nil (n_then (c_ret (ret1v rfl zq (zvB rfl) ?_))))
 refine ⟨?_, E⟩
 have h5 : muI m (l.drop i) n = n := by
  by_cases hn : n ≤ m
  ·
   have : ¬ i < l.length := fun h => by simp only [Bool.and_eq_false_iff, decide_eq_false_iff_not] at hlt; omega
   rw [List.drop_eq_nil_of_le zo]; rfl
  exact muI_stop hn
 rw [← h4, h5]
theorem reps_by8 {w : World} {F : Nat → Prop} {v0 v1 v2 v3 v4 v5 v6 v7 : Value} {y0 y1 y2 y3 y4 y5 y6 y7 : List UInt8} (r0 : Bv w F v0 y0) (r1 : Bv w F v1 y1) (r2 : Bv w F v2 y2) (r3 : Bv w F v3 y3) (r4 : Bv w F v4 y4) (r5 : Bv w F v5 y5) (r6 : Bv w F v6 y6) (r7 : Bv w F v7 y7) :
    ∀ i x, [y0, y1, y2, y3, y4, y5, y6, y7][i]? = some x → (tSl tU8).rep w F ((([v0, v1, v2, v3, v4, v5, v6, v7] : List Value).drop (i * (tSl tU8).sz)).take (tSl tU8).sz) x := by
  intro i x hx
  match i, hx with
  | 0, hx => obtain rfl : y0 = x := by simpa using hx
             exact ⟨v0, rfl, r0⟩
  | 1, hx => obtain rfl : y1 = x := by simpa using hx
             exact ⟨v1, rfl, r1⟩
  | 2, hx => obtain rfl : y2 = x := by simpa using hx
             exact ⟨v2, rfl, r2⟩
  | 3, hx => obtain rfl : y3 = x := by simpa using hx
             exact ⟨v3, rfl, r3⟩
  | 4, hx => obtain rfl : y4 = x := by simpa using hx
             exact ⟨v4, rfl, r4⟩
  | 5, hx => obtain rfl : y5 = x := by simpa using hx
             exact ⟨v5, rfl, r5⟩
  | 6, hx => obtain rfl : y6 = x := by simpa using hx
             exact ⟨v6, rfl, r6⟩
  | 7, hx => obtain rfl : y7 = x := by simpa using hx
             exact ⟨v7, rfl, r7⟩
  | i + 8, hx => simp at hx
set_option maxHeartbeats 4000000 in
theorem Long_c {w : World} {F : Nat → Prop} {v : Value} {c : CmV} {m : Int} (HG1 : AgV tCm w F v c) (hm0 : 0 ≤ m) (hm1 : m ≤ 60000) : CallsR Try.prog 39 #[v, .int .i64 m] w (fun o w' => o = .bool (longC m c) ∧ Ext w w') := by
 obtain ⟨k, rq, mv, en, an, key, g⟩ := c
 obtain ⟨a1, c1, a2, c2, a3, c3, a4, c4, a5, c5, a6, c6, a7, c7, a8, c8, a9, c9, rfl, HG2, HG3, HS3, HS4, HS5, hi1, hi2⟩ := HG1.cm
 obtain ⟨_, _, _, _, _, _, _, _, h0, HSa, HSb, HSc, HSd, _⟩ := HG2.rqAk.ak
 simp only [Value.agg.injEq, Array.mk.injEq, List.cons.injEq, Value.int.injEq, Value.slice.injEq, Value.bool.injEq, true_and, and_true] at h0
 obtain ⟨⟨rfl, rfl⟩, ⟨rfl, rfl⟩, ⟨rfl, rfl⟩, rfl, rfl⟩ := h0
 obtain ⟨_, _, _, _, h0, HSe, HSf, _⟩ := HG3.mv
 simp only [Value.agg.injEq, Array.mk.injEq, List.cons.injEq, Value.int.injEq, Value.slice.injEq, Value.bool.injEq, true_and, and_true] at h0
 obtain ⟨⟨rfl, rfl⟩, rfl, rfl⟩ := h0
 refine enter 57 Try.func39 rfl rfl (by simp) ?_
 refine c_seq ?_
 have E := Keep.refl (K := NoK) w
 replace HSa := HSa.all
 replace HSb := HSb.all
 replace HSc := HSc.all
 replace HSd := HSd.all
 replace HSe := HSe.all
 replace HSf := HSf.all
 replace HS3 := HS3.all
 replace HS4 := HS4.all
 replace HS5 := HS5.all
 refine wp_reg zd (l_to (to_box (zvA rfl) ?_))
 rintro b1 w1 zb1 HB1 e1 z1
 have := e1.size
 try simp only [Value.cells] at HB1
 refine l_v (v_assign rfl) (l_nil (n_then (c_seq (wp_any zk ?_))))
 have e101 : Ext w1 { w1 with drawn := w1.drawn + 1 } := Keep.drawn _ _
 generalize hw101 : ({ w1 with drawn := w1.drawn + 1 } : World) = w101 at e101 ⊢
 clear hw101
 have := e101.size
 refine r_cut 8 rfl zd zd zd ?_
 refine wp_regJW (fun k => w101.heap.size ≤ k) (AlJ w101.heap.size [⟨5, some 7, 28, ([.int .i64 0, .slice none 0 0, .slice none 0 0, .slice none 0 0, .slice none 0 0, .bool false, .int .i64 0] : List Value), ([.int .i64 rq.2.2.1, .slice a1 rq.2.2.2.1.length c1, .slice a2 rq.2.2.2.2.1.length c2, .slice a3 rq.2.2.2.2.2.1.length c3, .slice a4 rq.2.2.2.2.2.2.1.length c4, .bool rq.2.2.2.2.2.2.2.1, .int .i64 rq.2.2.2.2.2.2.2.2] : List Value)⟩, ⟨6, none, 80, ([.int .i64 0, .slice none 0 0, .slice none 0 0, .bool false, .int .i64 0, .int .i64 0] : List Value), ([.int .i64 0, .slice none 0 0, .slice none 0 0, .bool false, .int .i64 0, .int .i64 0] : List Value)⟩]) zd zd (fun vals done hd => AlJ.start (Nat.le_refl _) (fun a ha => hd a.al (al_lt (n := 8) rfl a ha))) ?_
 refine rj_vJ (fun done vals w hR hcl hdk hJ hdn hd => v_fieldAddr (off := 1) (ft := 77) zk rfl) (fun _ _ _ _ j => j.src (Keep.refl _) rfl) ?_
 refine rj_vJ (fun done vals w hR hcl hdk hJ hdn hd => v_fieldAddr (off := 2) (ft := 28) zk (hd 0 rfl)) (fun _ _ _ _ j => j.src (Keep.refl _) rfl) ?_
 replace HB1 := HB1.ext e101
 refine rj_vJ (fun done vals w hR hcl hdk hJ hdn hd => v_loadA zk (hd 1 rfl) (by first | exact (show Pv _ _ [_, _, _, _, _, _, _] from pv_sub 3 7 (HB1.keep hR dj4).pv) | exact (show Pv _ _ [_, _, _, _, _, _, _] from pv_sub 2 7 (HB1.keep hR dj4).pv) | exact pv_at 2 (HB1.keep hR dj4).pv | assumption) rfl) (fun _ _ _ _ j => j.src (Keep.refl _) rfl) ?_
 refine rj_vJ (fun done vals w hR hcl hdk hJ hdn hd => v_fieldAddr (off := 10) (ft := 80) zk rfl) (fun _ _ _ _ j => j.src (Keep.refl _) rfl) ?_
 refine rj_vJ (fun done vals w hR hcl hdk hJ hdn hd => v_loadA zk (hd 3 rfl) (by first | exact (show Pv _ _ [_, _, _, _, _, _] from pv_sub 10 6 (HB1.keep hR dj4).pv) | exact pv_at 10 (HB1.keep hR dj4).pv | assumption) rfl) (fun _ _ _ _ j => j.src (Keep.refl _) rfl) ?_
 refine rj_d (fun done vals w hR hcl hdk hJ hdn hd => to_alloc (z := .agg #[.int .i64 0, .slice none 0 0, .slice none 0 0, .slice none 0 0, .slice none 0 0, .bool false, .int .i64 0]) (by unfold kZero; kernel_rfl) fun b w1 hb hB e hz => ⟨Ext.keep e, hJ.al (i := 0) rfl rfl hdk hcl (fun m a hm he => alOne_al (i := 0) (m := m) rfl rfl hm he) (fun a ha => alSt_ne rfl ha (List.mem_of_getElem? (i := 0) rfl)) (fun s hs => by cases hs; exact ⟨_, rfl, rfl⟩) hb hB e⟩) ?_
 refine rj_d (fun done vals w hR hcl hdk hJ hdn hd => to_alloc (z := .agg #[.int .i64 0, .slice none 0 0, .slice none 0 0, .bool false, .int .i64 0, .int .i64 0]) (by unfold kZero; kernel_rfl) fun b w1 hb hB e hz => ⟨Ext.keep e, hJ.al (i := 1) rfl rfl hdk hcl (fun m a hm he => alOne_al (i := 1) (m := m) rfl rfl hm he) (fun a ha => alSt_ne rfl ha (List.mem_of_getElem? (i := 1) rfl)) (fun s hs => by cases hs) hb hB e⟩) ?_
 replace E := (E.trans e1.keep).trans e101.keep
 replace HSa := (HSa.ext e1).ext e101
 replace HSb := (HSb.ext e1).ext e101
 replace HSc := (HSc.ext e1).ext e101
 replace HSd := (HSd.ext e1).ext e101
 replace HSe := (HSe.ext e1).ext e101
 replace HSf := (HSf.ext e1).ext e101
 replace HS3 := (HS3.ext e1).ext e101
 replace HS4 := (HS4.ext e1).ext e101
 replace HS5 := (HS5.ext e1).ext e101
 refine rj_d (fun done vals w hR hcl hdk hJ hdn hd => by
   obtain ⟨b, hb, hn, hB⟩ := hJ.at (i := 0) rfl rfl hdk (hdn 5 rfl)
   exact to_storeA (n := 7) (hb : _ = Value.pointer (some ⟨b, 0, none⟩)) rfl (hd 2 rfl) zk rfl (by first | (simp [slice_one]; done) | (simp only [List.forall_mem_cons, List.cons_append, List.nil_append]; repeat' (first | exact rfl | apply And.intro | (intro u hu; cases hu; done)))) hB (of_decide_eq_true rfl) (fun w1 hB1 kk z => ⟨kk.mono (fun i _ h => by rw [h]; exact hn), hJ.st (i := 0) rfl rfl hdk (hdn 5 rfl) (fun m a hm he => alOne_st (i := 0) (m := m) rfl rfl hm rfl he) (fun a ha h => alSt_ne (a := _) rfl (List.mem_of_getElem? (i := 0) rfl) ha (by rw [h])) rfl (fun m a hm he => alOne_al (i := 0) (m := m) rfl rfl hm he) hb hB1 kk⟩)) ?_
 refine rj_nil (fun vals w102 k102 J102 => ?_)
 rintro _ - rfl _ - rfl _ - rfl _ - rfl _ - rfl v5 qv5 - v6 qv6 - _ - -
 have := k102.size
 obtain ⟨b5, hb5, zb5, HB5⟩ := J102.fin (i := 0) rfl
 try dsimp only at HB5
 have zl5 := HB5.lt
 obtain ⟨b6, hb6, zb6, HB6⟩ := J102.fin (i := 1) rfl
 try dsimp only at HB6
 have zl6 := HB6.lt
 have ne5_6 := J102.ne (i := 0) (m := 1) rfl rfl (by dsimp only; decide) hb5 hb6
 obtain rfl := qv5.trans hb5
 obtain rfl := qv6.trans hb6
 refine fin_nilJ (n_then (r_one zd rfl ?_))
 refine l_to (to_storeA (n := 6) rfl rfl (zvA rfl) zk rfl (by first | (simp [slice_one]; done) | (simp only [List.forall_mem_cons, List.cons_append, List.nil_append]; repeat' (first | exact rfl | apply And.intro | (intro u hu; cases hu; done)))) HB6 dj5 ?_)
 rintro w66 HB6 k66 z66
 have := k66.size
 try simp only [List.set_cons_zero, List.set_cons_succ, setAt, List.take, List.drop, List.nil_append, List.cons_append, List.append_nil, List.length_cons, List.length_nil] at HB6
 refine l_nil (n_then (c_seq (wp_reg zd (l_v (v_assign rfl) (l_nil (n_then (c_seq (wp_reg zd (l_v (v_fieldAddr (off := 1) (ft := 26) zk rfl) ?_)))))))))
 replace HB1 := (HB1.keep k102 dj4).keep k66 dj4
 replace HB5 := HB5.keep k66 dj4
 refine l_v (v_load zk rfl (by first | exact HB6.pv 1 _ rfl | exact HB5.pv 1 _ rfl | exact HB1.pv 1 _ rfl | assumption)) ?_
 refine l_v (v_fieldAddr (off := 2) (ft := 26) zk rfl) (l_v (v_load zk rfl (by first | exact HB6.pv 2 _ rfl | exact HB5.pv 2 _ rfl | exact HB1.pv 2 _ rfl | assumption)) ?_)
 refine l_v (v_fieldAddr (off := 3) (ft := 26) zk rfl) (l_v (v_load zk rfl (by first | exact HB6.pv 3 _ rfl | exact HB5.pv 3 _ rfl | exact HB1.pv 3 _ rfl | assumption)) ?_)
 refine l_v (v_fieldAddr (off := 4) (ft := 26) zk rfl) (l_v (v_load zk rfl (by first | exact HB6.pv 4 _ rfl | exact HB5.pv 4 _ rfl | exact HB1.pv 4 _ rfl | assumption)) ?_)
 refine l_v (v_fieldAddr (off := 1) (ft := 26) zk rfl) (l_v (v_load zk rfl (by first | exact HB6.pv 1 _ rfl | exact HB5.pv 1 _ rfl | exact HB1.pv 1 _ rfl | assumption)) ?_)
 refine l_v (v_fieldAddr (off := 2) (ft := 26) zk rfl) (l_v (v_load zk rfl (by first | exact HB6.pv 2 _ rfl | exact HB5.pv 2 _ rfl | exact HB1.pv 2 _ rfl | assumption)) ?_)
 refine l_v (v_fieldAddr (off := 17) (ft := 26) zk rfl) (l_v (v_load zk rfl (by first | exact HB6.pv 17 _ rfl | exact HB5.pv 17 _ rfl | exact HB1.pv 17 _ rfl | assumption)) ?_)
 refine l_v (v_fieldAddr (off := 18) (ft := 26) zk rfl) (l_v (v_load zk rfl (by first | exact HB6.pv 18 _ rfl | exact HB5.pv 18 _ rfl | exact HB1.pv 18 _ rfl | assumption)) ?_)
 replace HSa := (HSa.keep k102 dj1).keep k66 dj1
 replace HSb := (HSb.keep k102 dj1).keep k66 dj1
 replace HSc := (HSc.keep k102 dj1).keep k66 dj1
 replace HSd := (HSd.keep k102 dj1).keep k66 dj1
 replace HSe := (HSe.keep k102 dj1).keep k66 dj1
 replace HSf := (HSf.keep k102 dj1).keep k66 dj1
 replace HS4 := (HS4.keep k102 dj1).keep k66 dj1
 replace HS5 := (HS5.keep k102 dj1).keep k66 dj1
 refine l_to (to_sliceN (t := tSl tU8) (xs := [rq.2.2.2.1, rq.2.2.2.2.1, rq.2.2.2.2.2.1, rq.2.2.2.2.2.2.1, mv.2.1, mv.2.2.1, an, key]) (et := 26) (bytes := 24) (zl := [.slice none 0 0, .slice none 0 0, .slice none 0 0, .slice none 0 0, .slice none 0 0, .slice none 0 0, .slice none 0 0, .slice none 0 0]) zk zq zq (by unfold kZeros; kernel_rfl) rfl (cells := [_, _, _, _, _, _, _, _]) rfl rfl rfl ((reps_by8 HSa.allB HSb.allB HSc.allB HSd.allB HSe.allB HSf.allB HS4.allB HS5.allB)) ?_)
 rintro b2 w2 zb2 HO2 e2 z2
 have := e2.size
 have zo_HO2 := fun (b : Nat) h => HO2.own_lt (b := b) h
 refine l_v (zaS rfl) (l_nil (n_then (c_seq (c_seq (wp_reg zd (l_v (v_assign rfl) (l_nil (n_then (c_block ?_)))))))))
 replace E := ((E.step k102 dj3).step k66 dj3).trans e2.keep
 refine c_loop (τ := Nat × Int) [7, 9, 32, 33, 34, 35, 36, 37, 38, 39, 40, 41, 42, 43, 44, 45, 46, 47] (fun (i, n) => [(7, .int .i64 n), (9, .int .i64 i)]) (fun (i, n) W => Ext w W ∧ Keep (NoK) w2 W ∧ i ≤ 8 ∧ 0 ≤ n ∧ n ≤ (i : Int) * 60001 ∧ n + sumL m (List.drop i [rq.2.2.2.1, rq.2.2.2.2.1, rq.2.2.2.2.2.1, rq.2.2.2.2.2.2.1, mv.2.1, mv.2.2.1, an, key]) = sumL m [rq.2.2.2.1, rq.2.2.2.2.1, rq.2.2.2.2.2.1, rq.2.2.2.2.2.2.1, mv.2.1, mv.2.2.1, an, key]) (fun (i, n) => 8 - i) (0, 0) (by exact ⟨rfl, rfl, trivial⟩) (by exact ⟨E, Keep.refl _, Nat.zero_le _, by omega, by omega, by rw [List.drop_zero, Int.zero_add]⟩) ?_
 replace HS3 := ((HS3.keep k102 dj1).keep k66 dj1).ext e2
 rintro ⟨i, n⟩ w103 j ⟨E, EL1, h1, h2, h3, h4⟩
 have := EL1.size
 refine c_seq (c_seq (wp_reg zd (l_v (zmI rfl) (l_v (zmS rfl) (l_v (v_len (et := 26) zk rfl) ?_)))))
 refine l_v (v_lss rfl rfl) ?_
 replace HSa := (HSa.ext e2).ext EL1
 replace HSb := (HSb.ext e2).ext EL1
 replace HSc := (HSc.ext e2).ext EL1
 replace HSd := (HSd.ext e2).ext EL1
 replace HSe := (HSe.ext e2).ext EL1
 replace HSf := (HSf.ext e2).ext EL1
 replace HS4 := (HS4.ext e2).ext EL1
 replace HS5 := (HS5.ext e2).ext EL1
 replace HB1 := (HB1.ext e2).ext EL1
 replace HB5 := (HB5.ext e2).ext EL1
 replace HB6 := (HB6.ext e2).ext EL1
 replace HS3 := HS3.ext EL1
 replace HO2 := HO2.ext EL1
 refine l_nil (n_then (c_cond rfl rfl (fun hlt => ?_) (fun hlt => ?_)))
 ·
  have hlt := dtrue hlt
  obtain ⟨r, hx, hdr⟩ := getE (l := [rq.2.2.2.1, rq.2.2.2.2.1, rq.2.2.2.2.2.1, rq.2.2.2.2.2.2.1, mv.2.1, mv.2.2.1, an, key]) (i := i) (by simp; omega)
  obtain ⟨q, cs, hq, hF, _, HPq, hr⟩ := HO2.view.el hx
  cases hq
  obtain ⟨ar, cr, rfl, HSr⟩ := tBy_cells hr
  rw [hdr, sumL, ← Int.add_assoc] at h4
  refine c_skip (n_then (c_seq (c_block (wp_reg zd (l_v (zmI rfl) (l_v (zmS rfl) (l_v (zmI rfl) (l_v (v_indexAddr (et := 26) (sz := 1) (k := i) zk zk rfl rfl (by first | rfl | omega) (by simp at hlt; omega)) ?_))))))))
  refine l_v (v_load zk rfl (by first | exact pv_1 HPq | exact HB6.cell rfl | exact HB5.cell rfl | exact HB1.cell rfl | assumption)) ?_
  refine l_v (v_len (et := 5) zk rfl) ?_
  refine l_v (zmI rfl) (l_v (v_add rfl rfl (by first | exact wr_i64 zo zo | rfl)) ?_)
  refine l_v (vmin rfl rfl) ?_
  refine l_v (v_add rfl rfl (by first | exact wr_i64 zo zo | rfl)) ?_
  refine l_v (zaI rfl) (l_nil (n_blk (n_then (wp_reg zd (l_v (zmI rfl) (l_v (v_add rfl rfl (by first | exact wr_i64 zo zo | rfl)) ?_))))))
  refine l_v (zaI rfl) (l_nil (n_then (⟨(i + 1, n + (if m + 1 < (r.length : Int) then m + 1 else (r.length : Int))), _, rfl, by (repeat (first | exact Off.of_over _ _ _ | refine Off.upd ?_ zq _ | refine Off.overs ?_ zq _)), ⟨by first | rfl | exact congrArg (Value.int _) zo | (simp; done), by first | rfl | exact congrArg (Value.int _) zo | (simp; done), trivial⟩, ⟨E, EL1, ?_⟩, ?_⟩)))
  ·
   exact ⟨by simp at hlt; omega, by omega, by omega, h4⟩
  (dsimp only; omega)
 have hlt := dfalse hlt
 obtain rfl : i = 8 := by simp at hlt; omega
 have h5 : n = sumL m [rq.2.2.2.1, rq.2.2.2.2.1, rq.2.2.2.2.2.1, rq.2.2.2.2.2.2.1, mv.2.1, mv.2.2.1, an, key] := by rw [← h4]; exact (Int.add_zero n).symm
 refine c_exit (x_then (x_then (x_hit (n_then (c_seq (wp_reg zd (l_v (zmI rfl) (l_v (zmI rfl) (l_v (v_gtr rfl rfl) ?_)))))))))
 refine l_v (zmB rfl) (l_g1 rfl rfl (fun hG => v_fieldAddr (off := 16) (ft := 81) zk rfl) ?_)
 refine l_g1 rfl rfl (fun hG => v_load zk (gd hG rfl) (by first | exact HB6.pv 16 _ rfl | exact HB5.pv 16 _ rfl | exact HB1.pv 16 _ rfl | assumption)) ?_
 refine l_g1 rfl rfl (fun hG => zmI rfl) (l_g1f rfl rfl (fun hG => to_f2 zk (gd hG rfl) (gd hG rfl) (muchI_c HS3 hm0 hm1)) ?_)
 rintro w104 e104
 have := e104.size
 refine l_v (v_or rfl rfl) ?_
 refine l_v (zaB rfl) (l_nil (n_then (c_ret (ret1v rfl zq (zvB rfl) ?_))))
 replace E := E.trans e104.keep
 exact ⟨by rw [longC, ← h5], E⟩
theorem LongAsk_c {w : World} {F : Nat → Prop} {v : Value} {a : AkV} {m : Int} (HG1 : AgV tAk w F v a) (hm0 : 0 ≤ m) (hm1 : m ≤ 60000) : CallsR Try.prog 14 #[v, .int .i64 m] w (fun o w' => o = .bool (longC m (0, (0, 0, a), mv0, [], [], [], 0)) ∧ Ext w w') := by
 obtain ⟨k, x, y, z, u, b, mo⟩ := a
 obtain ⟨a1, c1, a2, c2, a3, c3, a4, c4, rfl, HSa, HSb, HSc, HSd, hi1, hi2⟩ := HG1.ak
 refine enter 10 Try.func14 rfl rfl (by simp) ?_
 refine c_seq ?_
 have E := Keep.refl (K := NoK) w
 replace HSa := HSa.all
 replace HSb := HSb.all
 replace HSc := HSc.all
 replace HSd := HSd.all
 refine wp_reg zd (l_to (to_box (zvA rfl) ?_))
 rintro b1 w1 zb1 HB1 e1 z1
 have := e1.size
 try simp only [Value.cells] at HB1
 refine l_v (v_assign rfl) (l_nil (n_then (c_seq (wp_reg zd (l_v (v_loadA zk rfl (by first | exact HB1.pv | assumption) rfl) ?_)))))
 refine l_v (v_build (pl := [(0, 1), (1, 1), (2, 7)]) (z := .agg #[.int .i64 0, .int .i64 0, .int .i64 0, .slice none 0 0, .slice none 0 0, .slice none 0 0, .slice none 0 0, .bool false, .int .i64 0]) (zl := [.int .i64 0, .int .i64 0, .int .i64 0, .slice none 0 0, .slice none 0 0, .slice none 0 0, .slice none 0 0, .bool false, .int .i64 0]) zk (by unfold kZero; kernel_rfl) rfl rfl (cells := [_, _, _, _, _, _, _, _, _]) rfl) ?_
 refine l_v (v_build (pl := [(0, 1), (1, 9), (10, 6), (16, 1), (17, 1), (18, 1), (19, 1)]) (z := .agg #[.int .i64 0, .int .i64 0, .int .i64 0, .int .i64 0, .slice none 0 0, .slice none 0 0, .slice none 0 0, .slice none 0 0, .bool false, .int .i64 0, .int .i64 0, .slice none 0 0, .slice none 0 0, .bool false, .int .i64 0, .int .i64 0, .slice none 0 0, .slice none 0 0, .slice none 0 0, .int .i64 0]) (zl := [.int .i64 0, .int .i64 0, .int .i64 0, .int .i64 0, .slice none 0 0, .slice none 0 0, .slice none 0 0, .slice none 0 0, .bool false, .int .i64 0, .int .i64 0, .slice none 0 0, .slice none 0 0, .bool false, .int .i64 0, .int .i64 0, .slice none 0 0, .slice none 0 0, .slice none 0 0, .int .i64 0]) zk (by unfold kZero; kernel_rfl) rfl rfl (cells := [_, _, _, _, _, _, _, _, _, _, _, _, _, _, _, _, _, _, _, _]) rfl) ?_
 replace HSa := HSa.ext e1
 replace HSb := HSb.ext e1
 replace HSc := HSc.ext e1
 replace HSd := HSd.ext e1
 refine l_v (zmI rfl) (l_to (to_f2 zk (zvA rfl) (zvI rfl) (CallsR.mono (Long_c (AgV.mkCm ⟨by decide, by decide⟩ (AgV.mkRq (tAk_mk HSa HSb HSc HSd hi1 hi2) ⟨by decide, by decide⟩ ⟨by decide, by decide⟩) mv0_ag (SlV.nil _ _ _) (SlV.nil _ _ _) (SlV.nil _ _ _) ⟨by decide, by decide⟩) hm0 hm1) ?_)))
 rintro _ w101 ⟨rfl, e101⟩
 have := e101.size
 refine l_v (zaB rfl) (l_nil (n_then (c_ret (ret1v rfl zq (zvB rfl) ?_))))
 replace E := (E.trans e1.keep).trans e101.keep
 exact ⟨rfl, E⟩
end Go.Proofs.Ytifnkmflmgnfjaa

namespace Go.Proofs.Ytifnkmflmgnfjaa
open Go.Vc
set_option linter.unusedVariables false
set_option linter.unusedSimpArgs false
set_option maxRecDepth 100000

def lngA (a : AkV) : Bool := longC 3000 (0, (0, 0, a), mv0, [], [], [], 0)
theorem LongAsk_k {w : World} {F : Nat → Prop} {v : Value} {a : AkV} (HG1 : AgV tAk w F v a) : CallsR Try.prog 14 #[v, .int .i64 3000] w (fun o w' => o = .bool (lngA a) ∧ Ext w w') := LongAsk_c HG1 zq zq
end Go.Proofs.Ytifnkmflmgnfjaa
