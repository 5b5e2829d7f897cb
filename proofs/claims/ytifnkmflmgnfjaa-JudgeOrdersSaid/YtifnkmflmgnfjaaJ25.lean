/- A part of the proof: steps and lemmas for the walks through the given program. -/
import Derived.Test.YtifnkmflmgnfjaaJl
namespace Go.Proofs.Ytifnkmflmgnfjaa
open Go.Vc
set_option linter.unusedVariables false
set_option linter.unusedSimpArgs false
set_option maxRecDepth 100000

def lstI : Option Nat → Int
  | none => -1
  | some n => (n : Int)
theorem lst_take {out : List JdV} {c : Int} {k : Nat} {x : JdV} (hx : out[k]? = some x) : lastJ (out.take (k + 1)) c = if x.1.1 = c then some k else lastJ (out.take k) c := by
  have hk := (List.getElem?_eq_some_iff.1 hx).1
  rw [List.take_add_one, hx]
  show lastJ (out.take k ++ [x]) c = _
  rw [lastJ_snoc, List.length_take, Nat.min_eq_left zo]
set_option maxHeartbeats 8000000 in
theorem refRequests_c {w : World} {F : Nat → Prop} {v : Value} {l : List EvV} (HSl : SlV tEv w F v l) (hn : l.length ≤ 100000) :
    CallsR Try.prog 19 #[v] w (fun o w' => ∃ r, o = .tuple #[r, .int .i64 ((rdE l 0 []).2 : Nat)] ∧ SlV tJd w' (FxB F w.heap.size) r (rdE l 0 []).1 ∧ Ext w w') := by
 obtain ⟨n0, hn0⟩ : ∃ n, n = w.heap.size := ⟨_, rfl⟩
 obtain ⟨al, cl, rfl⟩ := HSl.shape
 have hmx := HSl.len_max
 replace HSl := HSl.lt
 rw [← hn0] at HSl ⊢
 refine enter 160 Try.func19 rfl rfl (by simp) ?_
 refine c_seq ?_
 have E := Keep.refl (K := NoK) w
 obtain ⟨n1, hn1⟩ : ∃ n, n = w.heap.size := ⟨_, rfl⟩
 refine wp_reg zd (l_v (v_assign rfl) (l_v (v_assign rfl) (l_nil (n_then (c_seq (wp_reg zd (l_v (v_assign rfl) (l_nil (n_then ?_)))))))))
 refine c_seq (c_seq (wp_reg zd (l_v (v_assign rfl) (l_nil (n_then (c_block (c_loop (τ := Nat × Option Addr × Nat × List JdV) ([2, 3, 4, 5, 6, 7, 8, 9, 10, 11, 12, 13, 14, 15, 16, 17] ++ [18, 19, 20, 21, 22, 23, 24, 25, 26, 27, 28, 29, 30, 31, 32, 33] ++ [34, 35, 36, 37, 38, 39, 40, 41, 42, 43, 44, 45, 46, 47, 48, 49] ++ [50, 51, 52, 53, 54, 55, 56, 57, 58, 59, 60, 61, 62, 63, 64, 65] ++ [66, 67, 68, 69, 70, 71, 72, 73, 74, 75, 76, 77, 78, 79, 80, 81] ++ [82, 83, 84, 85, 86, 87, 88, 89, 90, 91, 92, 93, 94, 95, 96, 97] ++ [98, 99, 100, 101, 102, 103, 104, 105, 106, 107, 108, 109, 110, 111, 112, 113] ++ [114, 115, 116, 117, 118, 119, 120, 121, 122, 123, 124, 125, 126, 127, 128, 129] ++ [130, 131, 132, 133, 134, 135, 136, 137, 138, 139, 140, 141, 142, 143, 144, 145] ++ [146, 147, 148, 149, 150, 151, 152, 153, 154, 155, 156]) (fun (i, ao, co, out) => [(4, .slice ao out.length co), (5, .int .i64 i)]) (fun (i, ao, co, out) W => Ext w W ∧ Keep (fun b => n1 ≤ b) w W ∧ i ≤ l.length ∧ out.length ≤ i ∧ rdE l 0 [] = rdE (l.drop i) i out ∧ OwV tJd 86 W n1 (fun b => (F b ∧ b < n0) ∨ (n1 ≤ b ∧ b < W.heap.size)) (.slice ao out.length co) out) (fun (i, ao, co, out) => l.length - i) (0, none, 0, []) (by exact ⟨rfl, rfl, trivial⟩) (by exact ⟨E, Keep.refl _, Nat.zero_le _, Nat.zero_le _, rfl, OwV.nil _ _ _ _ _⟩) ?_)))))))
 rintro ⟨i, ao, co, out⟩ w101 j ⟨E, EL1, h1, h2, h3, HOx⟩
 have := EL1.size
 have zo_HOx := fun (b : Nat) h => HOx.own_lt (b := b) h
 refine c_seq (c_seq (wp_reg zd (l_v (zmI rfl) (l_v (zmS rfl) (l_v (v_len (et := 44) zk rfl) ?_)))))
 refine l_v (v_lss rfl rfl) ?_
 replace HSl := HSl.keep EL1 dj1
 refine l_nil (n_then (c_cond rfl rfl (fun hlt => ?_) (fun hlt => ?_)))
 ·
  have hlt := dtrue hlt
  obtain ⟨ev, hx, hdr⟩ := getE (l := l) (i := i) zo
  rw [hdr, rdE] at h3
  obtain ⟨q, cs, hqq, hF, _, HPq, hr⟩ := HSl.el hx
  subst hqq
  obtain ⟨a1, c1, a2, c2, a3, c3, a4, c4, a5, c5, a6, c6, rfl, HGa, HGx, he1, he2, he3⟩ := tEv_cells hr
  have hoa := zo_HOx
  refine c_skip (n_then (c_seq (c_block (c_seq (wp_reg zd (l_v (zmS rfl) (l_v (zmI rfl) (l_v (v_indexAddr (et := 44) (sz := 13) (k := i) zk zk rfl rfl (by first | rfl | omega) zo) ?_))))))))
  refine l_v (v_loadA zk rfl (by first | exact HPq | assumption) rfl) ?_
  refine l_to (to_alloc (z := (.agg #[.int .i64 0, .int .i64 0, .int .i64 0, .int .i64 0, .slice none 0 0, .slice none 0 0, .slice none 0 0, .slice none 0 0, .bool false, .int .i64 0, .int .i64 0, .slice none 0 0, .slice none 0 0])) (by unfold kZero; kernel_rfl) ?_)
  rintro b7 w7 zb7 HB7 e7 z7
  have := e7.size
  try simp only [Value.cells] at HB7
  refine l_to (to_storeA (n := 13) rfl rfl (zvA rfl) zk rfl dj6 HB7 dj5 ?_)
  rintro w102 HX102 k102 z102
  have := k102.size
  replace HB7 := HX102
  clear HX102
  try simp only [zS, Nat.zero_add, Nat.reduceAdd, List.drop_nil] at HB7
  refine l_nil (n_then (c_seq (wp_reg zd (l_v (v_assign rfl) (l_nil (n_then (c_seq (c_seq (wp_reg zd ?_)))))))))
  replace E := (E.trans e7.keep).step k102 dj3
  refine l_v (v_assign rfl) (l_nil (n_then (c_block (c_loop (τ := Nat) [7, 8, 20, 21, 22, 23, 24, 25, 26, 27, 28, 29, 30, 31, 32, 33, 34, 35] (fun k => [(7, .int .i64 (lstI (lastJ (out.take k) ev.2.1))), (8, .int .i64 k)]) (fun k W => Ext w W ∧ Keep (NoK) w102 W ∧ k ≤ out.length) (fun k => out.length - k) 0 (by exact ⟨rfl, rfl, trivial⟩) (by exact ⟨E, Keep.refl _, Nat.zero_le _⟩) ?_))))
  rintro k w103 j ⟨E, EL2, hk1⟩
  have := EL2.size
  refine c_seq (c_seq (wp_reg zd (l_v (zmI rfl) (l_v (zmS rfl) (l_v (v_len (et := 86) zk rfl) ?_)))))
  refine l_v (v_lss rfl rfl) ?_
  replace HSl := ((HSl.ext e7).keep k102 dj1).ext EL2
  replace HOx := ((HOx.ext e7).keep k102 (by intro i ho he; have he0 := he; have ho0 := ho; (try dsimp only [NoK] at he); (try simp only [Value.ownBlock, Option.some.injEq, reduceCtorEq] at ho); (try simp only [Value.ownBlock, Option.some.injEq, reduceCtorEq] at he); first | exact he.elim | exact ho.elim | omega | (have := zo_HOx _ ho0; omega)) (by intro i _ hi _ he; have he0 := he; have hi := hi; have he := he; (try dsimp only [NoK, AllB] at hi he); (try simp only [Value.ownBlock, Option.some.injEq, reduceCtorEq] at he); all_goals first | exact hi.elim | exact hi.1.elim | exact he.elim | omega | (rcases hi with hi | hi <;> omega) | (rcases he with he | he <;> omega))).ext EL2
  replace EL1 := ((EL1.trans e7.keep).step k102 dj3).trans EL2.keep
  replace HPq := HPq.ext e7
  replace HGa := ((HGa.ext e7).keep k102 dj1).ext EL2
  replace HGx := ((HGx.ext e7).keep k102 dj1).ext EL2
  replace HB7 := HB7.ext EL2
  refine l_nil (n_then (c_cond rfl rfl (fun hk => ?_) (fun hk => ?_)))
  ·
   have hk := dtrue hk
   obtain ⟨y, hy, _⟩ := getE (l := out) (i := k) zo
   obtain ⟨bo, rfl, hbo, hbo2⟩ := HOx.addr (fun h => by rw [h] at hk; simp at hk; omega)
   obtain ⟨q3, cs3, hq3, hF3, _, HPk, hr3⟩ := HOx.view.el hy
   cases hq3
   obtain ⟨g1, d1, g2, d2, g3, d3, g4, d4, g5, d5, g6, d6, rfl, _⟩ := tJd_cells hr3
   refine c_skip (n_then (c_seq (c_block (c_seq (wp_regd (NoK) zk zd zd ?_)))))
   refine rt_v (fun vals w hR hd => zmS rfl) ?_
   refine rt_v (fun vals w hR hd => zmI rfl) ?_
   refine rt_v (fun vals w hR hd => v_indexAddr (et := 86) (sz := 14) (k := k) zk zk (hd 0 rfl) (hd 1 rfl) (by first | rfl | omega) zo) ?_
   refine rt_v (fun vals w hR hd => v_fieldAddr (off := 0) (ft := 77) zk (hd 2 rfl)) ?_
   refine rt_v (fun vals w hR hd => v_fieldAddr (off := 0) (ft := 3) zk (hd 3 rfl)) ?_
   refine rt_v (fun vals w hR hd => v_load zk (hd 4 rfl) (by first | exact (HPk.ext hR) 0 _ rfl | exact (HB7.ext hR).pv 0 _ rfl | assumption)) ?_
   refine rt_v (fun vals w hR hd => v_fieldAddr (off := 1) (ft := 3) zk rfl) ?_
   refine rt_v (fun vals w hR hd => v_load zk (hd 6 rfl) (by first | exact (HPk.ext hR) 1 _ rfl | exact pv_1 (HPk.ext hR) | exact (HB7.ext hR).pv 1 _ rfl | assumption)) ?_
   refine rt_v (fun vals w hR hd => v_eql (hd 5 rfl) (hd 7 rfl)) ?_
   refine rt_nil (fun w104 e104 => ?_)
   rintro _ rfl _ rfl _ rfl _ rfl _ rfl _ rfl _ rfl _ rfl _ rfl
   have := e104.size
   replace E := E.trans e104.keep
   replace HSl := HSl.ext e104
   replace HOx := HOx.ext e104
   replace EL1 := EL1.trans e104.keep
   replace HGa := HGa.ext e104
   replace HGx := HGx.ext e104
   replace HB7 := HB7.ext e104
   replace EL2 := EL2.trans e104.keep
   replace HPk := HPk.ext e104
   refine fin_nil (n_then (c_cond rfl rfl (fun hyc => ?_) (fun hyc => ?_)))
   ·
    refine wp_reg zd (l_v (zmI rfl) (l_v (zaI rfl) (l_nil (n_blk (n_then (wp_reg zd (l_v (zmI rfl) (l_v (v_add rfl rfl (by first | exact wr_i64 zo zo | rfl)) ?_))))))))
    refine l_v (zaI rfl) (l_nil (n_then (⟨k + 1, _, rfl, by (repeat (first | exact Off.of_over _ _ _ | refine Off.upd ?_ zq _ | refine Off.overs ?_ zq _)), ⟨by first | rfl | exact congrArg (Value.int _) zo | (simp; done) | (rw [lst_take hy, if_pos (dtrue hyc)]; rfl), by first | rfl | exact congrArg (Value.int _) zo | (simp; done) | (rw [lst_take hy, if_pos (dtrue hyc)]; rfl), trivial⟩, ⟨E, EL2, ?_⟩, ?_⟩)))
    ·
     omega
    (dsimp only; omega)
   refine c_skip (n_blk (n_then (wp_reg zd (l_v (zmI rfl) (l_v (v_add rfl rfl (by first | exact wr_i64 zo zo | rfl)) ?_)))))
   refine l_v (zaI rfl) (l_nil (n_then (⟨k + 1, _, rfl, by (repeat (first | exact Off.of_over _ _ _ | refine Off.upd ?_ zq _ | refine Off.overs ?_ zq _)), ⟨by first | rfl | exact congrArg (Value.int _) zo | (simp; done) | (rw [lst_take hy, if_neg (dfalse hyc)]; rfl), by first | rfl | exact congrArg (Value.int _) zo | (simp; done) | (rw [lst_take hy, if_neg (dfalse hyc)]; rfl), trivial⟩, ⟨E, EL2, ?_⟩, ?_⟩)))
   ·
    omega
   (dsimp only; omega)
  have hke : k = out.length := by have := dfalse hk; omega
  subst hke
  rw [List.take_length] at *
  by_cases hs : (lastJ out ev.2.1).isSome = true
  ·
   refine c_exit (x_then (x_then (x_hit (n_then (c_seq ?_)))))
   obtain ⟨n, hln⟩ := Option.isSome_iff_exists.1 hs
   obtain ⟨x, hxn, hxc⟩ := lastJ_get hln
   have hnl := (List.getElem?_eq_some_iff.1 hxn).1
   obtain ⟨bo, rfl, hbo, hbo2⟩ := HOx.addr (fun h => by rw [h] at hnl; simp at hnl)
   have hbo3 := (hoa bo rfl).2
   obtain ⟨q2, cs2, hq2, hF2, _, HPj, hr2⟩ := HOx.view.el hxn
   cases hq2
   obtain ⟨g1, d1, g2, d2, g3, d3, g4, d4, g5, d5, g6, d6, rfl, HGra, HGrx, hj1, hj2, hj3, hj4⟩ := tJd_cells hr2
   have hev := ev_some (i := i) hln hxn
   refine wp_reg zd (l_v (v_fieldAddr (off := 1) (ft := 3) zk rfl) (l_v (v_load zk rfl (by first | exact HPj 1 _ rfl | exact pv_1 HPj | exact HB7.pv 1 _ rfl | assumption)) ?_))
   refine l_v (v_geq rfl rfl) ?_
   refine l_v (zmB rfl) (l_g1 rfl rfl (fun hG => v_fieldAddr (off := 1) (ft := 3) zk rfl) ?_)
   refine l_g1 rfl rfl (fun hG => v_load zk (gd hG rfl) (by first | exact HPj 1 _ rfl | exact pv_1 HPj | exact HB7.pv 1 _ rfl | assumption)) ?_
   refine l_g1 rfl rfl (fun hG => v_leq (gd hG rfl) rfl) ?_
   refine l_v (v_and rfl rfl) ?_
   refine l_v (zmB rfl) (l_g1 rfl rfl (fun hG => v_fieldAddr (off := 2) (ft := 2) zk rfl) ?_)
   refine l_g1 rfl rfl (fun hG => v_load zk (gd hG rfl) (by first | exact HPj 2 _ rfl | exact pv_1 HPj | exact HB7.pv 2 _ rfl | assumption)) ?_
   refine l_g1 rfl rfl (fun hG => v_geq (gd hG rfl) rfl) ?_
   refine l_v (v_and rfl rfl) ?_
   refine l_v (zmB rfl) (l_g1 rfl rfl (fun hG => v_fieldAddr (off := 2) (ft := 2) zk rfl) ?_)
   refine l_g1 rfl rfl (fun hG => v_load zk (gd hG rfl) (by first | exact HPj 2 _ rfl | exact pv_1 HPj | exact HB7.pv 2 _ rfl | assumption)) ?_
   refine l_g1 rfl rfl (fun hG => v_leq (gd hG rfl) rfl) ?_
   refine l_v (v_and rfl rfl) ?_
   refine l_v (zaB rfl) (l_nil (n_then (c_seq (wp_reg zd (l_v (v_fieldAddr (off := 0) (ft := 42) zk rfl) (l_v (v_load zk rfl (by first | exact HPj 0 _ rfl | exact HB7.pv 0 _ rfl | assumption)) ?_))))))
   refine l_nil (n_then (c_block (c_seq (wp_reg zd (l_v (v_eql rfl rfl) ?_)))))
   refine l_v (zaB rfl) (l_nil (n_then (c_cond rfl rfl (fun h58 => ?_) (fun h58 => ?_))))
   ·
    have hk1 : ev.1 = 1 := dtrue h58
    have hnb : ansB ev = false := by simp [ansB, hk1]
    refine c_seq (c_seq (wp_regd (NoK) zk zd zd ?_))
    refine rt_v (fun vals w hR hd => zmB rfl) ?_
    refine rt_v (fun vals w hR hd => v_not (hd 0 rfl)) ?_
    refine rt_v (fun vals w hR hd => v_move (t := .bool _) (hd 1 rfl)) ?_
    refine rt_g1 rfl (fun vals w hd => hd 2 rfl) (fun vals w hR hd hG => v_fieldAddr (off := 3) (ft := 28) zk rfl) ?_
    refine rt_g1 rfl (fun vals w hd => hd 2 rfl) (fun vals w hR hd hG => v_loadA zk (gd hG (hd 3 rfl)) (by first | exact (show Pv _ _ [_, _, _, _, _, _, _] from pv_sub 3 7 (HPj.ext hR)) | exact (show Pv _ _ [_, _, _, _, _, _, _] from pv_sub 3 7 (HB7.ext hR).pv) | exact pv_at 3 (HPj.ext hR) | exact pv_at 3 (HB7.ext hR).pv | exact (HPj.ext hR) | assumption) rfl) ?_
    refine rt_g1f rfl (fun vals w hd => hd 2 rfl) (fun vals w hR hd hG => to_f1 zk (gd hG (hd 4 rfl)) (refMayAsk_c (HGa.ext hR))) ?_
    refine rt_g1 rfl (fun vals w hd => hd 2 rfl) (fun vals w hR hd hG => v_not (gd hG (hd 5 rfl))) ?_
    refine rt_v (fun vals w hR hd => v_or (hd 2 rfl) (hd 6 rfl)) ?_
    refine rt_v (fun vals w hR hd => v_move (t := .bool _) (hd 7 rfl)) ?_
    refine rt_g1 rfl (fun vals w hd => hd 8 rfl) (fun vals w hR hd hG => v_fieldAddr (off := 10) (ft := 31) zk rfl) ?_
    refine rt_g1 rfl (fun vals w hd => hd 8 rfl) (fun vals w hR hd hG => v_loadA zk (gd hG (hd 9 rfl)) (by first | exact (show Pv _ _ [_, _, _] from pv_sub 10 3 (HPj.ext hR)) | exact (show Pv _ _ [_, _, _] from pv_sub 10 3 (HB7.ext hR).pv) | exact pv_at 10 (HPj.ext hR) | exact pv_at 10 (HB7.ext hR).pv | exact (HPj.ext hR) | assumption) rfl) ?_
    refine rt_g1 rfl (fun vals w hd => hd 8 rfl) (fun vals w hR hd hG => v_build (pl := [(0, 1), (1, 1), (2, 1)]) (z := .agg #[.int .i64 0, .slice none 0 0, .slice none 0 0]) (zl := [.int .i64 0, .slice none 0 0, .slice none 0 0]) zk (by unfold kZero; kernel_rfl) rfl rfl (cells := [_, _, _]) rfl) ?_
    refine rt_g1f rfl (fun vals w hd => hd 8 rfl) (fun vals w hR hd hG => to_f2 zk (gd hG (hd 10 rfl)) (gd hG (hd 11 rfl)) (refSameAnswer_c (HGx.ext hR) (an0_ag (F := NoK)))) ?_
    refine rt_g1 rfl (fun vals w hd => hd 8 rfl) (fun vals w hR hd hG => v_not (gd hG (hd 12 rfl))) ?_
    refine rt_v (fun vals w hR hd => v_or (hd 8 rfl) (hd 13 rfl)) ?_
    refine rt_v (fun vals w hR hd => v_move (t := .bool _) (hd 14 rfl)) ?_
    refine rt_g1 rfl (fun vals w hd => hd 15 rfl) (fun vals w hR hd hG => zmI rfl) ?_
    refine rt_g1 rfl (fun vals w hd => hd 15 rfl) (fun vals w hR hd hG => v_geq (gd hG (hd 16 rfl)) rfl) ?_
    refine rt_g1 rfl (fun vals w hd => hd 15 rfl) (fun vals w hR hd hG => v_move (t := .bool _) (gd hG (hd 17 rfl))) ?_
    refine rt_g2 rfl (fun vals w hd => hd 18 rfl) (fun vals w hR hd hG => zmS rfl) ?_
    refine rt_g2 rfl (fun vals w hd => hd 18 rfl) (fun vals w hR hd hG => zmI rfl) ?_
    refine rt_g2 rfl (fun vals w hd => hd 18 rfl) (fun vals w hR hd hG => v_indexAddr (et := 86) (sz := 14) (k := n) zk zk (gd hG (hd 19 rfl)) (gd hG (hd 20 rfl)) (by rw [hln]; rfl) zo) ?_
    refine rt_g2 rfl (fun vals w hd => hd 18 rfl) (fun vals w hR hd hG => v_fieldAddr (off := 0) (ft := 77) zk (gd hG (hd 21 rfl))) ?_
    refine rt_g2 rfl (fun vals w hd => hd 18 rfl) (fun vals w hR hd hG => v_fieldAddr (off := 1) (ft := 2) zk (gd hG (hd 22 rfl))) ?_
    refine rt_g2 rfl (fun vals w hd => hd 18 rfl) (fun vals w hR hd hG => v_load zk (gd hG (hd 23 rfl)) (by first | exact (HPj.ext hR) 1 _ rfl | exact pv_1 (HPj.ext hR) | exact (HB7.ext hR).pv 1 _ rfl | assumption)) ?_
    refine rt_g2 rfl (fun vals w hd => hd 18 rfl) (fun vals w hR hd hG => v_fieldAddr (off := 2) (ft := 2) zk rfl) ?_
    refine rt_g2 rfl (fun vals w hd => hd 18 rfl) (fun vals w hR hd hG => v_load zk (gd hG (hd 25 rfl)) (by first | exact (HPj.ext hR) 2 _ rfl | exact pv_1 (HPj.ext hR) | exact (HB7.ext hR).pv 2 _ rfl | assumption)) ?_
    refine rt_g2 rfl (fun vals w hd => hd 18 rfl) (fun vals w hR hd hG => v_geq (gd hG (hd 24 rfl)) (gd hG (hd 26 rfl))) ?_
    refine rt_g1 rfl (fun vals w hd => hd 15 rfl) (fun vals w hR hd hG => v_and (gd hG (hd 18 rfl)) (gda hG (hd 27 rfl))) ?_
    refine rt_v (fun vals w hR hd => v_or (hd 15 rfl) (hd 28 rfl)) ?_
    refine rt_nil (fun w105 e105 => ?_)
    rintro _ rfl _ rfl _ rfl _ rfl _ rfl _ rfl _ rfl _ rfl _ rfl _ rfl _ rfl _ rfl _ rfl _ rfl _ rfl _ rfl _ rfl _ rfl _ rfl _ rfl _ rfl _ rfl _ rfl _ rfl _ rfl _ rfl _ rfl _ rfl _ rfl _ rfl
    have := e105.size
    replace E := E.trans e105.keep
    replace HSl := HSl.ext e105
    replace HOx := HOx.ext e105
    replace EL1 := EL1.trans e105.keep
    replace HGa := HGa.ext e105
    replace HGx := HGx.ext e105
    replace HB7 := HB7.ext e105
    replace HPj := HPj.ext e105
    refine fin_nil (n_then (c_cond rfl rfl (fun h89 => ?_) (fun h89 => ?_)))
    ·
     have hev : evStep out i ev = none := by
      rw [hev, if_neg, if_neg]
      ·
       simp [hnb]
      rw [who_eq, hln] at h89
      have hge : decide (0 ≤ lstI (some n)) = true := by simp [lstI]
      rw [hge] at h89
      cases g1 : whoE ev <;> cases g2 : mayAk ev.2.2.2.1 <;> cases g3 : decide (ev.2.2.2.2 = an0) <;> simp_all [askB]
     refine c_seq (wp_reg zd (l_v (zmS rfl) (l_v (zmI rfl) (l_v (zaS rfl) (l_v (zaI rfl) (l_nil (n_then (c_ret (r_then ?_)))))))))
     refine r_blk (r_blk (r_then (r_then (r_blk (r_then (ret2v rfl zq zq (zvS rfl) (zvI rfl) ?_))))))
     have h5 : rdE l 0 [] = (out, i) := by rw [h3, hev]
     rw [h5]
     exact ⟨_, rfl, HOx.view.mono fun b _ h => h.elim (fun h => .inr zo) (fun h => h.elim (fun h => .inl h.1) (fun h => .inr zo)), E⟩
    have hev : evStep out i ev = some (out ++ [newJ ev i]) := by
     rw [hev, if_pos]
     rw [who_eq, hln] at h89
     have hge : decide (0 ≤ lstI (some n)) = true := by simp [lstI]
     rw [hge] at h89
     cases g1 : whoE ev <;> cases g2 : mayAk ev.2.2.2.1 <;> cases g3 : decide (ev.2.2.2.2 = an0) <;> simp_all [askB]
    refine c_skip (n_then (wp_reg zd (l_v (zmS rfl) (l_v (v_fieldAddr (off := 1) (ft := 3) zk rfl) (l_v (v_load zk rfl (by first | exact HPj 1 _ rfl | exact pv_1 HPj | exact HB7.pv 1 _ rfl | assumption)) ?_)))))
    refine l_v (v_fieldAddr (off := 2) (ft := 2) zk rfl) (l_v (v_load zk rfl (by first | exact HPj 2 _ rfl | exact pv_1 HPj | exact HB7.pv 2 _ rfl | assumption)) ?_)
    refine l_v (v_fieldAddr (off := 3) (ft := 28) zk rfl) (l_v (v_loadA zk rfl (by first | exact (show Pv _ _ [_, _, _, _, _, _, _] from pv_sub 3 7 HPj) | exact (show Pv _ _ [_, _, _, _, _, _, _] from pv_sub 3 7 HB7.pv) | exact pv_at 3 HPj | exact pv_at 3 HB7.pv | exact HPj | assumption) rfl) ?_)
    refine l_v (v_build (pl := [(0, 1), (1, 1), (2, 7)]) (z := .agg #[.int .i64 0, .int .i64 0, .int .i64 0, .slice none 0 0, .slice none 0 0, .slice none 0 0, .slice none 0 0, .bool false, .int .i64 0]) (zl := [.int .i64 0, .int .i64 0, .int .i64 0, .slice none 0 0, .slice none 0 0, .slice none 0 0, .slice none 0 0, .bool false, .int .i64 0]) zk (by unfold kZero; kernel_rfl) rfl rfl (cells := [_, _, _, _, _, _, _, _, _]) rfl) ?_
    refine l_v (zmI rfl) (l_v (v_build (pl := [(0, 9), (9, 1), (10, 1), (11, 3)]) (z := .agg #[.int .i64 0, .int .i64 0, .int .i64 0, .slice none 0 0, .slice none 0 0, .slice none 0 0, .slice none 0 0, .bool false, .int .i64 0, .int .i64 0, .int .i64 0, .int .i64 0, .slice none 0 0, .slice none 0 0]) (zl := [.int .i64 0, .int .i64 0, .int .i64 0, .slice none 0 0, .slice none 0 0, .slice none 0 0, .slice none 0 0, .bool false, .int .i64 0, .int .i64 0, .int .i64 0, .int .i64 0, .slice none 0 0, .slice none 0 0]) zk (by unfold kZero; kernel_rfl) rfl rfl (cells := [_, _, _, _, _, _, _, _, _, _, _, _, _, _]) rfl) ?_)
    refine l_to (to_slice1 (t := tJd) (et := 86) (bytes := 208) zk zq (zvA rfl) ((AgV.rp (show AgV tJd _ (fun b => F b ∧ b < n0) _ (newJ ev i) from ⟨_, rfl, tJd_mk (AgV.cells HGa) (AgV.cells an0_ag) he2 he3 ⟨by omega, by omega⟩ ⟨by decide, by decide⟩⟩))) ?_)
    rintro b50 w50 zb50 HO50 e50 z50
    have := e50.size
    have zo_HO50 := fun (b : Nat) h => HO50.own_lt (b := b) h
    have HS50 := HO50.view.mono (F' := fun b => (F b ∧ b < n0) ∨ b50 ≤ b) fun b _ h => h.elim .inr (fun h => .inl h.1)
    replace HOx := HOx.ext e50
    have HOy := HOx.mono (F' := fun b => (F b ∧ b < n0) ∨ n1 ≤ b) fun b _ h => h.imp (fun h => h) (fun h => h.1)
    have zo_HOy := fun (b : Nat) h => HOy.own_lt (b := b) h
    have zo_HOy := zo_HOx
    refine l_to (to_append (et := 86) (bytes := 208) zk (zvS rfl) HOy (zvS rfl) HS50 (deepF (fun b hb hb2 => ⟨hb2.imp (fun h => h) (fun h => by omega), fun ho => by have := zo_HOx _ ho; omega⟩)) (by first | omega | (simp; done) | (simp; omega)) (by simp only [maxLen]; first | omega | (simp; done) | (simp; omega)) zo ?_)
    rintro a51 n51 c51 w51 HO51 hn51 k51 h51 i51
    have := k51.size
    subst hn51
    have zo_HO51 := fun (b : Nat) h => HO51.own_lt (b := b) h
    refine l_v (zaS rfl) (l_nil (n_blk (n_blk (n_then (wp_reg zd (l_v (zmI rfl) (l_v (v_add rfl rfl (by first | exact wr_i64 zo zo | rfl)) ?_)))))))
    replace E := (E.trans e50.keep).step k51 (by intro i hi he; have he0 := he; (try dsimp only [NoK] at hi he ⊢); (try simp only [Value.ownBlock, Option.some.injEq] at he); first | exact he.elim | omega | exact he | (have := (HOy).own_lt he0; omega) | (have := zo_HOy _ he0; omega) | (have := (HOy).own_lt he0; rcases hi with hi | hi <;> omega) | (have := zo_HOx _ he; omega))
    replace HSl := (HSl.ext e50).keep k51 (by intro i _ hi he; have he0 := he; (try dsimp only [NoK, AllB] at hi he); (try simp only [Value.ownBlock, Option.some.injEq] at he); first | exact hi.elim | exact he.elim | omega | (rcases hi with hi | hi <;> omega) | (rcases he with he | he <;> omega) | (have := (HOy).own_lt he0; omega) | (have := zo_HOy _ he0; omega) | (have := (HOy).own_lt he0; rcases hi with hi | hi <;> omega) | (have := zo_HOx _ he; omega))
    replace EL1 := (EL1.trans e50.keep).step k51 (by intro i hi he; have he0 := he; (try dsimp only [NoK] at hi he ⊢); (try simp only [Value.ownBlock, Option.some.injEq] at he); first | exact he.elim | omega | exact he | (have := (HOy).own_lt he0; omega) | (have := zo_HOy _ he0; omega) | (have := (HOy).own_lt he0; rcases hi with hi | hi <;> omega) | (have := zo_HOx _ he; omega))
    replace HGa := HGa.ext e50
    replace HGx := HGx.ext e50
    replace HB7 := (HB7.ext e50).keep k51 (by intro h; have he0 := h; (try dsimp only at h); (try simp only [Value.ownBlock, Option.some.injEq] at h); first | omega | (have := (HOy).own_lt he0; omega) | (have := zo_HOy _ he0; omega) | (have he := he0; have := zo_HOx _ he; omega))
    replace HPj := HPj.ext e50
    replace HS50 := HS50.keep k51 (by intro i _ hi he; have he0 := he; (try dsimp only [NoK, AllB] at hi he); (try simp only [Value.ownBlock, Option.some.injEq] at he); first | exact hi.elim | exact he.elim | omega | (rcases hi with hi | hi <;> omega) | (rcases he with he | he <;> omega) | (have := (HOy).own_lt he0; omega) | (have := zo_HOy _ he0; omega) | (have := (HOy).own_lt he0; rcases hi with hi | hi <;> omega) | (have := zo_HOx _ he; omega))
    refine l_v (zaI rfl) (l_nil (n_then (⟨(i + 1, a51, c51, out ++ [newJ ev i]), _, rfl, by (repeat' (first | exact Off.of_over _ _ _ | refine Off.upd ?_ zq _ | refine Off.overs ?_ zq _)), ⟨by first | rfl | exact congrArg (Value.int _) zo | (simp; done), by first | rfl | exact congrArg (Value.int _) zo | (simp; done), trivial⟩, ⟨E, EL1, ?_⟩, ?_⟩)))
    ·
     exact ⟨by omega, by simp; omega, by rw [h3, hev], HO51.mono fun b hb h => h.imp (fun h => h) (fun h => ⟨h, hb⟩)⟩
    (dsimp only; omega)
   have hk1 : ¬ ev.1 = 1 := dfalse h58
   have hna : askB ev = false := by simp [askB, hk1]
   refine c_seq (wp_reg zd (l_v (v_eql rfl rfl) ?_))
   refine l_v (zaB rfl) (l_nil (n_then (c_cond rfl rfl (fun h104 => ?_) (fun h104 => ?_))))
   ·
    have hk2 : ev.1 = 2 := dtrue h104
    refine c_seq (c_seq (wp_regd (NoK) zk zd zd ?_))
    refine rt_v (fun vals w hR hd => zmB rfl) ?_
    refine rt_v (fun vals w hR hd => v_not (hd 0 rfl)) ?_
    refine rt_v (fun vals w hR hd => v_move (t := .bool _) (hd 1 rfl)) ?_
    refine rt_g1 rfl (fun vals w hd => hd 2 rfl) (fun vals w hR hd hG => v_fieldAddr (off := 10) (ft := 31) zk rfl) ?_
    refine rt_g1 rfl (fun vals w hd => hd 2 rfl) (fun vals w hR hd hG => v_loadA zk (gd hG (hd 3 rfl)) (by first | exact (show Pv _ _ [_, _, _] from pv_sub 10 3 (HPj.ext hR)) | exact (show Pv _ _ [_, _, _] from pv_sub 10 3 (HB7.ext hR).pv) | exact pv_at 10 (HPj.ext hR) | exact pv_at 10 (HB7.ext hR).pv | exact (HPj.ext hR) | assumption) rfl) ?_
    refine rt_g1f rfl (fun vals w hd => hd 2 rfl) (fun vals w hR hd hG => to_f1 zk (gd hG (hd 4 rfl)) (refMayAnswer_c (HGx.ext hR))) ?_
    refine rt_g1 rfl (fun vals w hd => hd 2 rfl) (fun vals w hR hd hG => v_not (gd hG (hd 5 rfl))) ?_
    refine rt_v (fun vals w hR hd => v_or (hd 2 rfl) (hd 6 rfl)) ?_
    refine rt_v (fun vals w hR hd => v_move (t := .bool _) (hd 7 rfl)) ?_
    refine rt_g1 rfl (fun vals w hd => hd 8 rfl) (fun vals w hR hd hG => v_fieldAddr (off := 3) (ft := 28) zk rfl) ?_
    refine rt_g1 rfl (fun vals w hd => hd 8 rfl) (fun vals w hR hd hG => v_loadA zk (gd hG (hd 9 rfl)) (by first | exact (show Pv _ _ [_, _, _, _, _, _, _] from pv_sub 3 7 (HPj.ext hR)) | exact (show Pv _ _ [_, _, _, _, _, _, _] from pv_sub 3 7 (HB7.ext hR).pv) | exact pv_at 3 (HPj.ext hR) | exact pv_at 3 (HB7.ext hR).pv | exact (HPj.ext hR) | assumption) rfl) ?_
    refine rt_g1 rfl (fun vals w hd => hd 8 rfl) (fun vals w hR hd hG => v_build (pl := [(0, 1), (1, 1), (2, 1), (3, 1), (4, 1), (5, 1), (6, 1)]) (z := .agg #[.int .i64 0, .slice none 0 0, .slice none 0 0, .slice none 0 0, .slice none 0 0, .bool false, .int .i64 0]) (zl := [.int .i64 0, .slice none 0 0, .slice none 0 0, .slice none 0 0, .slice none 0 0, .bool false, .int .i64 0]) zk (by unfold kZero; kernel_rfl) rfl rfl (cells := [_, _, _, _, _, _, _]) rfl) ?_
    refine rt_g1f rfl (fun vals w hd => hd 8 rfl) (fun vals w hR hd hG => to_f2 zk (gd hG (hd 10 rfl)) (gd hG (hd 11 rfl)) (refSameAsk_c (HGa.ext hR) (ak0_ag (F := NoK)))) ?_
    refine rt_g1 rfl (fun vals w hd => hd 8 rfl) (fun vals w hR hd hG => v_not (gd hG (hd 12 rfl))) ?_
    refine rt_v (fun vals w hR hd => v_or (hd 8 rfl) (hd 13 rfl)) ?_
    refine rt_v (fun vals w hR hd => v_move (t := .bool _) (hd 14 rfl)) ?_
    refine rt_g1 rfl (fun vals w hd => hd 15 rfl) (fun vals w hR hd hG => zmI rfl) ?_
    refine rt_g1 rfl (fun vals w hd => hd 15 rfl) (fun vals w hR hd hG => v_lss (gd hG (hd 16 rfl)) rfl) ?_
    refine rt_v (fun vals w hR hd => v_or (hd 15 rfl) (hd 17 rfl)) ?_
    refine rt_v (fun vals w hR hd => v_move (t := .bool _) (hd 18 rfl)) ?_
    refine rt_g1 rfl (fun vals w hd => hd 19 rfl) (fun vals w hR hd hG => zmS rfl) ?_
    refine rt_g1 rfl (fun vals w hd => hd 19 rfl) (fun vals w hR hd hG => zmI rfl) ?_
    refine rt_g1 rfl (fun vals w hd => hd 19 rfl) (fun vals w hR hd hG => v_indexAddr (et := 86) (sz := 14) (k := n) zk zk (gd hG (hd 20 rfl)) (gd hG (hd 21 rfl)) (by rw [hln]; rfl) zo) ?_
    refine rt_g1 rfl (fun vals w hd => hd 19 rfl) (fun vals w hR hd hG => v_fieldAddr (off := 0) (ft := 77) zk (gd hG (hd 22 rfl))) ?_
    refine rt_g1 rfl (fun vals w hd => hd 19 rfl) (fun vals w hR hd hG => v_fieldAddr (off := 1) (ft := 2) zk (gd hG (hd 23 rfl))) ?_
    refine rt_g1 rfl (fun vals w hd => hd 19 rfl) (fun vals w hR hd hG => v_load zk (gd hG (hd 24 rfl)) (by first | exact (HPj.ext hR) 1 _ rfl | exact pv_1 (HPj.ext hR) | exact (HB7.ext hR).pv 1 _ rfl | assumption)) ?_
    refine rt_g1 rfl (fun vals w hd => hd 19 rfl) (fun vals w hR hd hG => v_fieldAddr (off := 2) (ft := 2) zk rfl) ?_
    refine rt_g1 rfl (fun vals w hd => hd 19 rfl) (fun vals w hR hd hG => v_load zk (gd hG (hd 26 rfl)) (by first | exact (HPj.ext hR) 2 _ rfl | exact pv_1 (HPj.ext hR) | exact (HB7.ext hR).pv 2 _ rfl | assumption)) ?_
    refine rt_g1 rfl (fun vals w hd => hd 19 rfl) (fun vals w hR hd hG => v_neq (gd hG (hd 25 rfl)) (gd hG (hd 27 rfl))) ?_
    refine rt_v (fun vals w hR hd => v_or (hd 19 rfl) (hd 28 rfl)) ?_
    refine rt_v (fun vals w hR hd => v_move (t := .bool _) (hd 29 rfl)) ?_
    refine rt_g1 rfl (fun vals w hd => hd 30 rfl) (fun vals w hR hd hG => zmS rfl) ?_
    refine rt_g1 rfl (fun vals w hd => hd 30 rfl) (fun vals w hR hd hG => zmI rfl) ?_
    refine rt_g1 rfl (fun vals w hd => hd 30 rfl) (fun vals w hR hd hG => v_indexAddr (et := 86) (sz := 14) (k := n) zk zk (gd hG (hd 31 rfl)) (gd hG (hd 32 rfl)) (by rw [hln]; rfl) zo) ?_
    have hlt2 : decide (lstI (some n) < 0) = false := decide_eq_false (by simp [lstI])
    refine rt_g1 rfl (fun vals w hd => hd 30 rfl) (fun vals w hR hd hG => v_fieldAddr (off := 10) (ft := 3) zk (gd hG (hd 33 rfl))) ?_
    refine rt_g1 rfl (fun vals w hd => hd 30 rfl) (fun vals w hR hd hG => v_load zk (gd hG (hd 34 rfl)) (by first | exact (HPj.ext hR) 10 _ rfl | exact pv_1 (HPj.ext hR) | exact (HB7.ext hR).pv 10 _ rfl | assumption)) ?_
    refine rt_g1 rfl (fun vals w hd => hd 30 rfl) (fun vals w hR hd hG => v_geq (gd hG (hd 35 rfl)) rfl) ?_
    refine rt_v (fun vals w hR hd => v_or (hd 30 rfl) (hd 36 rfl)) ?_
    refine rt_nil (fun w106 e106 => ?_)
    rintro _ rfl _ rfl _ rfl _ rfl _ rfl _ rfl _ rfl _ rfl _ rfl _ rfl _ rfl _ rfl _ rfl _ rfl _ rfl _ rfl _ rfl _ rfl _ rfl _ rfl _ rfl _ rfl _ rfl _ rfl _ rfl _ rfl _ rfl _ rfl _ rfl _ rfl _ rfl _ rfl _ rfl _ rfl _ rfl _ rfl _ rfl _ rfl
    have := e106.size
    replace E := E.trans e106.keep
    replace HSl := HSl.ext e106
    replace HOx := HOx.ext e106
    replace EL1 := EL1.trans e106.keep
    replace HGa := HGa.ext e106
    replace HGx := HGx.ext e106
    replace HB7 := HB7.ext e106
    replace HPj := HPj.ext e106
    refine fin_nil (n_then (c_cond rfl rfl (fun h143 => ?_) (fun h143 => ?_)))
    ·
     have hev : evStep out i ev = none := by
      rw [hev, if_neg, if_neg]
      ·
       rw [who_eq, hln, hlt2, ge_not] at h143
       cases g1 : whoE ev <;> cases g2 : mayAn ev.2.2.2.2 <;> cases g3 : decide (ev.2.2.2.1 = ak0) <;> simp_all [ansB]
       exact fun h9 => h143.resolve_left (fun h8 => h8 h9)
      simp [hna]
     refine c_seq (wp_reg zd (l_v (zmS rfl) (l_v (zmI rfl) (l_v (zaS rfl) (l_v (zaI rfl) (l_nil (n_then (c_ret (r_then ?_)))))))))
     refine r_blk (r_blk (r_then (r_then (r_blk (r_then (ret2v rfl zq zq (zvS rfl) (zvI rfl) ?_))))))
     have h5 : rdE l 0 [] = (out, i) := by rw [h3, hev]
     rw [h5]
     exact ⟨_, rfl, HOx.view.mono fun b _ h => h.elim (fun h => .inr zo) (fun h => h.elim (fun h => .inl h.1) (fun h => .inr zo)), E⟩
    have hev : evStep out i ev = some (out.set n (x.1, x.2.1, (i : Int), ev.2.2.2.2)) := by
     rw [hev, if_neg, if_pos]
     ·
      rw [who_eq, hln, hlt2, ge_not] at h143
      cases g1 : whoE ev <;> cases g2 : mayAn ev.2.2.2.2 <;> cases g3 : decide (ev.2.2.2.1 = ak0) <;> simp_all [ansB]
     simp [hna]
    have HOy := HOx.mono (F' := fun b => (F b ∧ b < n0) ∨ n1 ≤ b) fun b _ h => h.imp (fun h => h) (fun h => h.1)
    have hrx : ∀ (W : World) (G : Nat → Prop), AgV tAn W G (.agg #[.int .i64 ev.2.2.2.2.1, .slice a5 ev.2.2.2.2.2.1.length c5, .slice a6 ev.2.2.2.2.2.2.length c6]) ev.2.2.2.2 → ∀ cl, tJd.rep W G cl (x.1, x.2.1, (i : Int), x.2.2.2) → tJd.rep W G (setAt cl 11 [.int .i64 ev.2.2.2.2.1, .slice a5 ev.2.2.2.2.2.1.length c5, .slice a6 ev.2.2.2.2.2.2.length c6]) (x.1, x.2.1, (i : Int), ev.2.2.2.2) := by
     intro W G hg cl hcl
     obtain ⟨y1, f1, y2, f2, y3, f3, y4, f4, y5, f5, y6, f6, rfl, k1, k2, k3, k4, k5, k6⟩ := tJd_cells hcl
     exact tJd_mk (AgV.cells k1) (AgV.cells hg) k3 k4 k5 k6
    have hri : ∀ (W : World) (G : Nat → Prop) cl, tJd.rep W G cl x → tJd.rep W G (cl.set 10 (.int .i64 (i : Int))) (x.1, x.2.1, (i : Int), x.2.2.2) := by
     intro W G cl hcl
     obtain ⟨y1, f1, y2, f2, y3, f3, y4, f4, y5, f5, y6, f6, rfl, k1, k2, k3, k4, k5, k6⟩ := tJd_cells hcl
     exact tJd_mk (AgV.cells k1) (AgV.cells k2) k3 k4 k5 ⟨by omega, by omega⟩
    have zo_HOy := fun (b : Nat) h => HOy.own_lt (b := b) h
    refine c_skip (n_then (wp_any zk ?_))
    have e107 : Ext w106 { w106 with drawn := w106.drawn + 1 } := Keep.drawn _ _
    generalize hw107 : ({ w106 with drawn := w106.drawn + 1 } : World) = w107 at e107 ⊢
    clear hw107
    have := e107.size
    refine r_cut 10 rfl zd zd zd ?_
    replace HOy := HOy.ext e107
    refine wp_regJW (fun k => k = bo) (OneJ 9 (fun W => OwV tJd 86 W n1 (fun b => (F b ∧ b < n0) ∨ n1 ≤ b) (.slice (some ⟨bo, 0, none⟩) out.length co) (out)) (fun W => OwV tJd 86 W n1 (fun b => (F b ∧ b < n0) ∨ n1 ≤ b) (.slice (some ⟨bo, 0, none⟩) out.length co) (out.set n (x.1, x.2.1, (i : Int), x.2.2.2)))) zd zd (fun vals done hd => OneJ.start HOy (hd 9 zq)) ?_
    refine rj_v OneJ.on zq (fun done vals w hR hJ hdn hd => zmS rfl) ?_
    refine rj_v OneJ.on zq (fun done vals w hR hJ hdn hd => zmI rfl) ?_
    refine rj_v OneJ.on zq (fun done vals w hR hJ hdn hd => zmS rfl) ?_
    refine rj_v OneJ.on zq (fun done vals w hR hJ hdn hd => zmI rfl) ?_
    refine rj_v OneJ.on zq (fun done vals w hR hJ hdn hd => zmI rfl) ?_
    refine rj_v OneJ.on zq (fun done vals w hR hJ hdn hd => v_fieldAddr (off := 10) (ft := 31) zk rfl) ?_
    replace HB7 := HB7.ext e107
    refine rj_v OneJ.on zq (fun done vals w hR hJ hdn hd => v_loadA zk (hd 5 rfl) (by first | exact (show Pv _ _ [_, _, _] from pv_sub 10 3 (HB7.keep hR (by intro h; have he0 := h; (try dsimp only at h); (try simp only [Value.ownBlock, Option.some.injEq] at h); first | omega | (have he := he0; have := zo_HOx _ he; omega))).pv) | exact pv_at 10 (HB7.keep hR (by intro h; have he0 := h; (try dsimp only at h); (try simp only [Value.ownBlock, Option.some.injEq] at h); first | omega | (have he := he0; have := zo_HOx _ he; omega))).pv | assumption) rfl) ?_
    refine rj_v OneJ.on zq (fun done vals w hR hJ hdn hd => v_indexAddr (et := 86) (sz := 14) (k := n) zk zk (hd 0 rfl) (hd 1 rfl) (by rw [hln]; rfl) zo) ?_
    refine rj_v OneJ.on zq (fun done vals w hR hJ hdn hd => v_fieldAddr (off := 10) (ft := 3) zk (hd 7 rfl)) ?_
    refine rj_d (fun done vals w hR hcl hdk hJ hdn hd => to_storeO (k := n) (off := 10) (hd 8 rfl) ((by rw [show tJd.sz = 14 from rfl]; simp [add_lit])) zq (hd 4 rfl) rfl zk (hJ.2 hdk) (x1 := (x.1, x.2.1, (i : Int), x.2.2.2)) hxn (fun cl h => hri _ _ cl h) (fun w1 hO1 k1 z1 => ⟨k1, OneJ.step hO1⟩)) ?_
    refine rj_nil (fun vals w108 k108 J108 => ?_)
    rintro _ - rfl _ - rfl _ - rfl _ - rfl _ - rfl _ - rfl _ - rfl _ - rfl _ - rfl _ - -
    have := k108.size
    have HOz := J108.1 rfl
    dsimp only at HOz
    have zo_HOz := fun (b : Nat) h => HOz.own_lt (b := b) h
    refine fin_nilJ (n_then (r_cut 2 rfl zd zd zd ?_))
    refine wp_regdW (NoK) zd zd ?_
    refine rt_v (fun vals w hR hd => v_indexAddr (et := 86) (sz := 14) (k := n) zk zk rfl rfl (by rw [hln]; rfl) zo) ?_
    refine rt_v (fun vals w hR hd => v_fieldAddr (off := 11) (ft := 31) zk (hd 0 rfl)) ?_
    refine rt_nil (fun w109 e109 => ?_)
    replace E := (E.trans e107.keep).step k108 (by intro i hi he; have he0 := he; (try dsimp only [NoK] at hi he ⊢); (try simp only [Value.ownBlock, Option.some.injEq] at he); first | exact he.elim | omega | exact he | (have := zo_HOx _ he; omega))
    replace HSl := (HSl.ext e107).keep k108 (by intro i _ hi he; have he0 := he; (try dsimp only [NoK, AllB] at hi he); (try simp only [Value.ownBlock, Option.some.injEq] at he); first | exact hi.elim | exact he.elim | omega | (rcases hi with hi | hi <;> omega) | (rcases he with he | he <;> omega) | (have := zo_HOx _ he; omega))
    replace EL1 := (EL1.trans e107.keep).step k108 (by intro i hi he; have he0 := he; (try dsimp only [NoK] at hi he ⊢); (try simp only [Value.ownBlock, Option.some.injEq] at he); first | exact he.elim | omega | exact he | (have := zo_HOx _ he; omega))
    replace HGa := (HGa.ext e107).keep k108 (by intro i _ hi he; have he0 := he; (try dsimp only [NoK, AllB] at hi he); (try simp only [Value.ownBlock, Option.some.injEq] at he); first | exact hi.elim | exact he.elim | omega | (rcases hi with hi | hi <;> omega) | (rcases he with he | he <;> omega) | (have := zo_HOx _ he; omega))
    replace HGx := (HGx.ext e107).keep k108 (by intro i _ hi he; have he0 := he; (try dsimp only [NoK, AllB] at hi he); (try simp only [Value.ownBlock, Option.some.injEq] at he); first | exact hi.elim | exact he.elim | omega | (rcases hi with hi | hi <;> omega) | (rcases he with he | he <;> omega) | (have := zo_HOx _ he; omega))
    replace HB7 := HB7.keep k108 (by intro h; have he0 := h; (try dsimp only at h); (try simp only [Value.ownBlock, Option.some.injEq] at h); first | omega | (have he := he0; have := zo_HOx _ he; omega))
    rintro _ rfl _ rfl
    have := e109.size
    refine fin_nil (n_then (r_one zd rfl ?_))
    replace HGx := HGx.ext e109
    replace HOz := HOz.ext e109
    refine l_to (to_storeOP (k := n) (off := 11) (m := 3) rfl ((by rw [show tJd.sz = 14 from rfl]; simp [add_lit])) (zvA rfl) zk rfl zq (one_all (by rfl)) HOz (x0 := (x.1, x.2.1, (i : Int), x.2.2.2)) (x1 := (x.1, x.2.1, (i : Int), ev.2.2.2.2)) (List.getElem?_set_self hnl) (fun cl h => hrx _ _ (HGx.mono fun b _ h => ⟨.inl h, by omega⟩) cl h) ?_)
    rintro w61 HO61 k61 z61
    have := k61.size
    rw [List.set_set] at HO61
    have zo_HO61 := fun (b : Nat) h => HO61.own_lt (b := b) h
    refine l_nil (n_blk (n_blk (n_then (wp_reg zd (l_v (zmI rfl) (l_v (v_add rfl rfl (by first | exact wr_i64 zo zo | rfl)) ?_))))))
    replace E := (E.trans e109.keep).step k61 (by intro i hi he; have he0 := he; (try dsimp only [NoK] at hi he ⊢); (try simp only [Value.ownBlock, Option.some.injEq] at he); first | exact he.elim | omega | exact he | (have := zo_HOx _ he; omega))
    replace HSl := (HSl.ext e109).keep k61 (by intro i _ hi he; have he0 := he; (try dsimp only [NoK, AllB] at hi he); (try simp only [Value.ownBlock, Option.some.injEq] at he); first | exact hi.elim | exact he.elim | omega | (rcases hi with hi | hi <;> omega) | (rcases he with he | he <;> omega) | (have := zo_HOx _ he; omega))
    replace EL1 := (EL1.trans e109.keep).step k61 (by intro i hi he; have he0 := he; (try dsimp only [NoK] at hi he ⊢); (try simp only [Value.ownBlock, Option.some.injEq] at he); first | exact he.elim | omega | exact he | (have := zo_HOx _ he; omega))
    replace HGa := (HGa.ext e109).keep k61 (by intro i _ hi he; have he0 := he; (try dsimp only [NoK, AllB] at hi he); (try simp only [Value.ownBlock, Option.some.injEq] at he); first | exact hi.elim | exact he.elim | omega | (rcases hi with hi | hi <;> omega) | (rcases he with he | he <;> omega) | (have := zo_HOx _ he; omega))
    replace HB7 := (HB7.ext e109).keep k61 (by intro h; have he0 := h; (try dsimp only at h); (try simp only [Value.ownBlock, Option.some.injEq] at h); first | omega | (have he := he0; have := zo_HOx _ he; omega))
    replace HGx := HGx.keep k61 (by intro i _ hi he; have he0 := he; (try dsimp only [NoK, AllB] at hi he); (try simp only [Value.ownBlock, Option.some.injEq] at he); first | exact hi.elim | exact he.elim | omega | (rcases hi with hi | hi <;> omega) | (rcases he with he | he <;> omega) | (have := zo_HOx _ he; omega))
    refine l_v (zaI rfl) (l_nil (n_then (⟨(i + 1, some ⟨bo, 0, none⟩, co, out.set n (x.1, x.2.1, (i : Int), ev.2.2.2.2)), _, rfl, by (repeat' (first | exact Off.of_over _ _ _ | refine Off.upd ?_ zq _ | refine Off.overs ?_ zq _)), ⟨by first | rfl | exact congrArg (Value.int _) zo | (simp; done) | (simp only [List.length_set]; rfl), by first | rfl | exact congrArg (Value.int _) zo | (simp; done) | (simp only [List.length_set]; rfl), trivial⟩, ⟨E, EL1, ?_⟩, ?_⟩)))
    ·
     refine ⟨by omega, by rw [List.length_set]; omega, by rw [h3, hev], ?_⟩
     rw [List.length_set]
     exact HO61.mono fun b hb h => h.imp (fun h => h) (fun h => ⟨h, hb⟩)
    (dsimp only; omega)
   have hk2 : ¬ ev.1 = 2 := dfalse h104
   have hnb : ansB ev = false := by simp [ansB, hk2]
   have hev : evStep out i ev = none := by rw [hev, if_neg (by simp [hna]), if_neg (by simp [hnb])]
   refine c_seq (wp_reg zd (l_v (zmS rfl) (l_v (zmI rfl) (l_v (zaS rfl) (l_v (zaI rfl) (l_nil (n_then (c_ret (r_blk ?_)))))))))
   refine r_blk (r_then (r_then (r_blk (r_then (ret2v rfl zq zq (zvS rfl) (zvI rfl) ?_)))))
   have h5 : rdE l 0 [] = (out, i) := by rw [h3, hev]
   rw [h5]
   exact ⟨_, rfl, HOx.view.mono fun b _ h => h.elim (fun h => .inr zo) (fun h => h.elim (fun h => .inl h.1) (fun h => .inr zo)), E⟩
  refine c_exit (x_then (x_then (x_hit (n_then (c_seq ?_)))))
  have hln : lastJ out ev.2.1 = none := by cases h : lastJ out ev.2.1 with | none => rfl | some n => rw [h] at hs; simp at hs
  have hev := ev_none (i := i) hln
  refine wp_reg zd (l_v (v_fieldAddr (off := 1) (ft := 3) zk rfl) (l_v (v_load zk rfl (by first | exact HB7.pv 1 _ rfl | assumption)) ?_))
  refine l_v (v_geq rfl rfl) ?_
  refine l_v (zmB rfl) (l_g1 rfl rfl (fun hG => v_fieldAddr (off := 1) (ft := 3) zk rfl) ?_)
  refine l_g1 rfl rfl (fun hG => v_load zk (gd hG rfl) (by first | exact HB7.pv 1 _ rfl | assumption)) ?_
  refine l_g1 rfl rfl (fun hG => v_leq (gd hG rfl) rfl) ?_
  refine l_v (v_and rfl rfl) ?_
  refine l_v (zmB rfl) (l_g1 rfl rfl (fun hG => v_fieldAddr (off := 2) (ft := 2) zk rfl) ?_)
  refine l_g1 rfl rfl (fun hG => v_load zk (gd hG rfl) (by first | exact HB7.pv 2 _ rfl | assumption)) ?_
  refine l_g1 rfl rfl (fun hG => v_geq (gd hG rfl) rfl) ?_
  refine l_v (v_and rfl rfl) ?_
  refine l_v (zmB rfl) (l_g1 rfl rfl (fun hG => v_fieldAddr (off := 2) (ft := 2) zk rfl) ?_)
  refine l_g1 rfl rfl (fun hG => v_load zk (gd hG rfl) (by first | exact HB7.pv 2 _ rfl | assumption)) ?_
  refine l_g1 rfl rfl (fun hG => v_leq (gd hG rfl) rfl) ?_
  refine l_v (v_and rfl rfl) ?_
  refine l_v (zaB rfl) (l_nil (n_then (c_seq (wp_reg zd (l_v (v_fieldAddr (off := 0) (ft := 42) zk rfl) (l_v (v_load zk rfl (by first | exact HB7.pv 0 _ rfl | assumption)) ?_))))))
  refine l_nil (n_then (c_block (c_seq (wp_reg zd (l_v (v_eql rfl rfl) ?_)))))
  refine l_v (zaB rfl) (l_nil (n_then (c_cond rfl rfl (fun h58 => ?_) (fun h58 => ?_))))
  ·
   have hk1 : ev.1 = 1 := dtrue h58
   refine c_seq (c_seq (wp_regd (NoK) zk zd zd ?_))
   refine rt_v (fun vals w hR hd => zmB rfl) ?_
   refine rt_v (fun vals w hR hd => v_not (hd 0 rfl)) ?_
   refine rt_v (fun vals w hR hd => v_move (t := .bool _) (hd 1 rfl)) ?_
   refine rt_g1 rfl (fun vals w hd => hd 2 rfl) (fun vals w hR hd hG => v_fieldAddr (off := 3) (ft := 28) zk rfl) ?_
   refine rt_g1 rfl (fun vals w hd => hd 2 rfl) (fun vals w hR hd hG => v_loadA zk (gd hG (hd 3 rfl)) (by first | exact (show Pv _ _ [_, _, _, _, _, _, _] from pv_sub 3 7 (HB7.ext hR).pv) | exact pv_at 3 (HB7.ext hR).pv | assumption) rfl) ?_
   refine rt_g1f rfl (fun vals w hd => hd 2 rfl) (fun vals w hR hd hG => to_f1 zk (gd hG (hd 4 rfl)) (refMayAsk_c (HGa.ext hR))) ?_
   refine rt_g1 rfl (fun vals w hd => hd 2 rfl) (fun vals w hR hd hG => v_not (gd hG (hd 5 rfl))) ?_
   refine rt_v (fun vals w hR hd => v_or (hd 2 rfl) (hd 6 rfl)) ?_
   refine rt_v (fun vals w hR hd => v_move (t := .bool _) (hd 7 rfl)) ?_
   refine rt_g1 rfl (fun vals w hd => hd 8 rfl) (fun vals w hR hd hG => v_fieldAddr (off := 10) (ft := 31) zk rfl) ?_
   refine rt_g1 rfl (fun vals w hd => hd 8 rfl) (fun vals w hR hd hG => v_loadA zk (gd hG (hd 9 rfl)) (by first | exact (show Pv _ _ [_, _, _] from pv_sub 10 3 (HB7.ext hR).pv) | exact pv_at 10 (HB7.ext hR).pv | assumption) rfl) ?_
   refine rt_g1 rfl (fun vals w hd => hd 8 rfl) (fun vals w hR hd hG => v_build (pl := [(0, 1), (1, 1), (2, 1)]) (z := .agg #[.int .i64 0, .slice none 0 0, .slice none 0 0]) (zl := [.int .i64 0, .slice none 0 0, .slice none 0 0]) zk (by unfold kZero; kernel_rfl) rfl rfl (cells := [_, _, _]) rfl) ?_
   refine rt_g1f rfl (fun vals w hd => hd 8 rfl) (fun vals w hR hd hG => to_f2 zk (gd hG (hd 10 rfl)) (gd hG (hd 11 rfl)) (refSameAnswer_c (HGx.ext hR) (an0_ag (F := NoK)))) ?_
   refine rt_g1 rfl (fun vals w hd => hd 8 rfl) (fun vals w hR hd hG => v_not (gd hG (hd 12 rfl))) ?_
   refine rt_v (fun vals w hR hd => v_or (hd 8 rfl) (hd 13 rfl)) ?_
   refine rt_v (fun vals w hR hd => v_move (t := .bool _) (hd 14 rfl)) ?_
   refine rt_g1 rfl (fun vals w hd => hd 15 rfl) (fun vals w hR hd hG => zmI rfl) ?_
   refine rt_g1 rfl (fun vals w hd => hd 15 rfl) (fun vals w hR hd hG => v_geq (gd hG (hd 16 rfl)) rfl) ?_
   refine rt_g1 rfl (fun vals w hd => hd 15 rfl) (fun vals w hR hd hG => v_move (t := .bool _) (gd hG (hd 17 rfl))) ?_
   refine rt_g2 rfl (fun vals w hd => hd 18 rfl) (fun vals w hR hd hG => show OpVat _ _ _ _ (undef) from False.elim ((by simp [hln, lstI] at hG))) ?_
   refine rt_g2 rfl (fun vals w hd => hd 18 rfl) (fun vals w hR hd hG => show OpVat _ _ _ _ (undef) from False.elim ((by simp [hln, lstI] at hG))) ?_
   refine rt_g2 rfl (fun vals w hd => hd 18 rfl) (fun vals w hR hd hG => show OpVat _ _ _ _ (undef) from False.elim ((by simp [hln, lstI] at hG))) ?_
   refine rt_g2 rfl (fun vals w hd => hd 18 rfl) (fun vals w hR hd hG => show OpVat _ _ _ _ (undef) from False.elim ((by simp [hln, lstI] at hG))) ?_
   refine rt_g2 rfl (fun vals w hd => hd 18 rfl) (fun vals w hR hd hG => show OpVat _ _ _ _ (undef) from False.elim ((by simp [hln, lstI] at hG))) ?_
   refine rt_g2 rfl (fun vals w hd => hd 18 rfl) (fun vals w hR hd hG => show OpVat _ _ _ _ (undef) from False.elim ((by simp [hln, lstI] at hG))) ?_
   refine rt_g2 rfl (fun vals w hd => hd 18 rfl) (fun vals w hR hd hG => show OpVat _ _ _ _ (undef) from False.elim ((by simp [hln, lstI] at hG))) ?_
   refine rt_g2 rfl (fun vals w hd => hd 18 rfl) (fun vals w hR hd hG => show OpVat _ _ _ _ (undef) from False.elim ((by simp [hln, lstI] at hG))) ?_
   refine rt_g2 rfl (fun vals w hd => hd 18 rfl) (fun vals w hR hd hG => show OpVat _ _ _ _ (.bool true) from False.elim ((by simp [hln, lstI] at hG))) ?_
   refine rt_g1 rfl (fun vals w hd => hd 15 rfl) (fun vals w hR hd hG => v_and (gd hG (hd 18 rfl)) (gda hG (hd 27 rfl))) ?_
   refine rt_v (fun vals w hR hd => v_or (hd 15 rfl) (hd 28 rfl)) ?_
   refine rt_nil (fun w110 e110 => ?_)
   rintro _ rfl _ rfl _ rfl _ rfl _ rfl _ rfl _ rfl _ rfl _ rfl _ rfl _ rfl _ rfl _ rfl _ rfl _ rfl _ rfl _ rfl _ rfl _ rfl _ rfl _ rfl _ rfl _ rfl _ rfl _ rfl _ rfl _ rfl _ rfl _ rfl _ rfl
   have := e110.size
   replace E := E.trans e110.keep
   replace HSl := HSl.ext e110
   replace HOx := HOx.ext e110
   replace EL1 := EL1.trans e110.keep
   replace HGa := HGa.ext e110
   replace HGx := HGx.ext e110
   replace HB7 := HB7.ext e110
   refine fin_nil (n_then (c_cond rfl rfl (fun h89 => ?_) (fun h89 => ?_)))
   ·
    have hev : evStep out i ev = none := by
     rw [hev, if_neg]
     rw [who_eq, hln] at h89
     cases g1 : whoE ev <;> cases g2 : mayAk ev.2.2.2.1 <;> cases g3 : decide (ev.2.2.2.2 = an0) <;> simp_all [askB, lstI]
    refine c_seq (wp_reg zd (l_v (zmS rfl) (l_v (zmI rfl) (l_v (zaS rfl) (l_v (zaI rfl) (l_nil (n_then (c_ret (r_then ?_)))))))))
    refine r_blk (r_blk (r_then (r_then (r_blk (r_then (ret2v rfl zq zq (zvS rfl) (zvI rfl) ?_))))))
    have h5 : rdE l 0 [] = (out, i) := by rw [h3, hev]
    rw [h5]
    exact ⟨_, rfl, HOx.view.mono fun b _ h => h.elim (fun h => .inr zo) (fun h => h.elim (fun h => .inl h.1) (fun h => .inr zo)), E⟩
   have hev : evStep out i ev = some (out ++ [newJ ev i]) := by
    rw [hev, if_pos]
    rw [who_eq, hln] at h89
    cases g1 : whoE ev <;> cases g2 : mayAk ev.2.2.2.1 <;> cases g3 : decide (ev.2.2.2.2 = an0) <;> simp_all [askB, lstI]
   refine c_skip (n_then (wp_reg zd (l_v (zmS rfl) (l_v (v_fieldAddr (off := 1) (ft := 3) zk rfl) (l_v (v_load zk rfl (by first | exact HB7.pv 1 _ rfl | assumption)) ?_)))))
   refine l_v (v_fieldAddr (off := 2) (ft := 2) zk rfl) (l_v (v_load zk rfl (by first | exact HB7.pv 2 _ rfl | assumption)) ?_)
   refine l_v (v_fieldAddr (off := 3) (ft := 28) zk rfl) (l_v (v_loadA zk rfl (by first | exact (show Pv _ _ [_, _, _, _, _, _, _] from pv_sub 3 7 HB7.pv) | exact pv_at 3 HB7.pv | assumption) rfl) ?_)
   refine l_v (v_build (pl := [(0, 1), (1, 1), (2, 7)]) (z := .agg #[.int .i64 0, .int .i64 0, .int .i64 0, .slice none 0 0, .slice none 0 0, .slice none 0 0, .slice none 0 0, .bool false, .int .i64 0]) (zl := [.int .i64 0, .int .i64 0, .int .i64 0, .slice none 0 0, .slice none 0 0, .slice none 0 0, .slice none 0 0, .bool false, .int .i64 0]) zk (by unfold kZero; kernel_rfl) rfl rfl (cells := [_, _, _, _, _, _, _, _, _]) rfl) ?_
   refine l_v (zmI rfl) (l_v (v_build (pl := [(0, 9), (9, 1), (10, 1), (11, 3)]) (z := .agg #[.int .i64 0, .int .i64 0, .int .i64 0, .slice none 0 0, .slice none 0 0, .slice none 0 0, .slice none 0 0, .bool false, .int .i64 0, .int .i64 0, .int .i64 0, .int .i64 0, .slice none 0 0, .slice none 0 0]) (zl := [.int .i64 0, .int .i64 0, .int .i64 0, .slice none 0 0, .slice none 0 0, .slice none 0 0, .slice none 0 0, .bool false, .int .i64 0, .int .i64 0, .int .i64 0, .int .i64 0, .slice none 0 0, .slice none 0 0]) zk (by unfold kZero; kernel_rfl) rfl rfl (cells := [_, _, _, _, _, _, _, _, _, _, _, _, _, _]) rfl) ?_)
   refine l_to (to_slice1 (t := tJd) (et := 86) (bytes := 208) zk zq (zvA rfl) ((AgV.rp (show AgV tJd _ (fun b => F b ∧ b < n0) _ (newJ ev i) from ⟨_, rfl, tJd_mk (AgV.cells HGa) (AgV.cells an0_ag) he2 he3 ⟨by omega, by omega⟩ ⟨by decide, by decide⟩⟩))) ?_)
   rintro b50 w50 zb50 HO50 e50 z50
   have := e50.size
   have zo_HO50 := fun (b : Nat) h => HO50.own_lt (b := b) h
   have HS50 := HO50.view.mono (F' := fun b => (F b ∧ b < n0) ∨ b50 ≤ b) fun b _ h => h.elim .inr (fun h => .inl h.1)
   replace HOx := HOx.ext e50
   have HOy := HOx.mono (F' := fun b => (F b ∧ b < n0) ∨ n1 ≤ b) fun b _ h => h.imp (fun h => h) (fun h => h.1)
   have zo_HOy := fun (b : Nat) h => HOy.own_lt (b := b) h
   have zo_HOy := zo_HOx
   refine l_to (to_append (et := 86) (bytes := 208) zk (zvS rfl) HOy (zvS rfl) HS50 (deepF (fun b hb hb2 => ⟨hb2.imp (fun h => h) (fun h => by omega), fun ho => by have := zo_HOx _ ho; omega⟩)) (by first | omega | (simp; done) | (simp; omega)) (by simp only [maxLen]; first | omega | (simp; done) | (simp; omega)) zo ?_)
   rintro a51 n51 c51 w51 HO51 hn51 k51 h51 i51
   have := k51.size
   subst hn51
   have zo_HO51 := fun (b : Nat) h => HO51.own_lt (b := b) h
   refine l_v (zaS rfl) (l_nil (n_blk (n_blk (n_then (wp_reg zd (l_v (zmI rfl) (l_v (v_add rfl rfl (by first | exact wr_i64 zo zo | rfl)) ?_)))))))
   replace E := (E.trans e50.keep).step k51 (by intro i hi he; have he0 := he; (try dsimp only [NoK] at hi he ⊢); (try simp only [Value.ownBlock, Option.some.injEq] at he); first | exact he.elim | omega | exact he | (have := (HOy).own_lt he0; omega) | (have := zo_HOy _ he0; omega) | (have := (HOy).own_lt he0; rcases hi with hi | hi <;> omega) | (have := zo_HOx _ he; omega))
   replace HSl := (HSl.ext e50).keep k51 (by intro i _ hi he; have he0 := he; (try dsimp only [NoK, AllB] at hi he); (try simp only [Value.ownBlock, Option.some.injEq] at he); first | exact hi.elim | exact he.elim | omega | (rcases hi with hi | hi <;> omega) | (rcases he with he | he <;> omega) | (have := (HOy).own_lt he0; omega) | (have := zo_HOy _ he0; omega) | (have := (HOy).own_lt he0; rcases hi with hi | hi <;> omega) | (have := zo_HOx _ he; omega))
   replace EL1 := (EL1.trans e50.keep).step k51 (by intro i hi he; have he0 := he; (try dsimp only [NoK] at hi he ⊢); (try simp only [Value.ownBlock, Option.some.injEq] at he); first | exact he.elim | omega | exact he | (have := (HOy).own_lt he0; omega) | (have := zo_HOy _ he0; omega) | (have := (HOy).own_lt he0; rcases hi with hi | hi <;> omega) | (have := zo_HOx _ he; omega))
   replace HGa := HGa.ext e50
   replace HGx := HGx.ext e50
   replace HB7 := (HB7.ext e50).keep k51 (by intro h; have he0 := h; (try dsimp only at h); (try simp only [Value.ownBlock, Option.some.injEq] at h); first | omega | (have := (HOy).own_lt he0; omega) | (have := zo_HOy _ he0; omega) | (have he := he0; have := zo_HOx _ he; omega))
   replace HS50 := HS50.keep k51 (by intro i _ hi he; have he0 := he; (try dsimp only [NoK, AllB] at hi he); (try simp only [Value.ownBlock, Option.some.injEq] at he); first | exact hi.elim | exact he.elim | omega | (rcases hi with hi | hi <;> omega) | (rcases he with he | he <;> omega) | (have := (HOy).own_lt he0; omega) | (have := zo_HOy _ he0; omega) | (have := (HOy).own_lt he0; rcases hi with hi | hi <;> omega) | (have := zo_HOx _ he; omega))
   refine l_v (zaI rfl) (l_nil (n_then (⟨(i + 1, a51, c51, out ++ [newJ ev i]), _, rfl, by (repeat' (first | exact Off.of_over _ _ _ | refine Off.upd ?_ zq _ | refine Off.overs ?_ zq _)), ⟨by first | rfl | exact congrArg (Value.int _) zo | (simp; done), by first | rfl | exact congrArg (Value.int _) zo | (simp; done), trivial⟩, ⟨E, EL1, ?_⟩, ?_⟩)))
   ·
    exact ⟨by omega, by simp; omega, by rw [h3, hev], HO51.mono fun b hb h => h.imp (fun h => h) (fun h => ⟨h, hb⟩)⟩
   (dsimp only; omega)
  have hk1 : ¬ ev.1 = 1 := dfalse h58
  have hna : askB ev = false := by simp [askB, hk1]
  have hev : evStep out i ev = none := by rw [hev, if_neg (by simp [hna])]
  refine c_seq (wp_reg zd (l_v (v_eql rfl rfl) ?_))
  refine l_v (zaB rfl) (l_nil (n_then (c_cond rfl rfl (fun h104 => ?_) (fun h104 => ?_))))
  ·
   refine c_seq (c_seq (wp_regd (NoK) zk zd zd ?_))
   refine rt_v (fun vals w hR hd => zmB rfl) ?_
   refine rt_v (fun vals w hR hd => v_not (hd 0 rfl)) ?_
   refine rt_v (fun vals w hR hd => v_move (t := .bool _) (hd 1 rfl)) ?_
   refine rt_g1 rfl (fun vals w hd => hd 2 rfl) (fun vals w hR hd hG => v_fieldAddr (off := 10) (ft := 31) zk rfl) ?_
   refine rt_g1 rfl (fun vals w hd => hd 2 rfl) (fun vals w hR hd hG => v_loadA zk (gd hG (hd 3 rfl)) (by first | exact (show Pv _ _ [_, _, _] from pv_sub 10 3 (HB7.ext hR).pv) | exact pv_at 10 (HB7.ext hR).pv | assumption) rfl) ?_
   refine rt_g1f rfl (fun vals w hd => hd 2 rfl) (fun vals w hR hd hG => to_f1 zk (gd hG (hd 4 rfl)) (refMayAnswer_c (HGx.ext hR))) ?_
   refine rt_g1 rfl (fun vals w hd => hd 2 rfl) (fun vals w hR hd hG => v_not (gd hG (hd 5 rfl))) ?_
   refine rt_v (fun vals w hR hd => v_or (hd 2 rfl) (hd 6 rfl)) ?_
   refine rt_v (fun vals w hR hd => v_move (t := .bool _) (hd 7 rfl)) ?_
   refine rt_g1 rfl (fun vals w hd => hd 8 rfl) (fun vals w hR hd hG => v_fieldAddr (off := 3) (ft := 28) zk rfl) ?_
   refine rt_g1 rfl (fun vals w hd => hd 8 rfl) (fun vals w hR hd hG => v_loadA zk (gd hG (hd 9 rfl)) (by first | exact (show Pv _ _ [_, _, _, _, _, _, _] from pv_sub 3 7 (HB7.ext hR).pv) | exact pv_at 3 (HB7.ext hR).pv | assumption) rfl) ?_
   refine rt_g1 rfl (fun vals w hd => hd 8 rfl) (fun vals w hR hd hG => v_build (pl := [(0, 1), (1, 1), (2, 1), (3, 1), (4, 1), (5, 1), (6, 1)]) (z := .agg #[.int .i64 0, .slice none 0 0, .slice none 0 0, .slice none 0 0, .slice none 0 0, .bool false, .int .i64 0]) (zl := [.int .i64 0, .slice none 0 0, .slice none 0 0, .slice none 0 0, .slice none 0 0, .bool false, .int .i64 0]) zk (by unfold kZero; kernel_rfl) rfl rfl (cells := [_, _, _, _, _, _, _]) rfl) ?_
   refine rt_g1f rfl (fun vals w hd => hd 8 rfl) (fun vals w hR hd hG => to_f2 zk (gd hG (hd 10 rfl)) (gd hG (hd 11 rfl)) (refSameAsk_c (HGa.ext hR) (ak0_ag (F := NoK)))) ?_
   refine rt_g1 rfl (fun vals w hd => hd 8 rfl) (fun vals w hR hd hG => v_not (gd hG (hd 12 rfl))) ?_
   refine rt_v (fun vals w hR hd => v_or (hd 8 rfl) (hd 13 rfl)) ?_
   refine rt_v (fun vals w hR hd => v_move (t := .bool _) (hd 14 rfl)) ?_
   refine rt_g1 rfl (fun vals w hd => hd 15 rfl) (fun vals w hR hd hG => zmI rfl) ?_
   refine rt_g1 rfl (fun vals w hd => hd 15 rfl) (fun vals w hR hd hG => v_lss (gd hG (hd 16 rfl)) rfl) ?_
   refine rt_v (fun vals w hR hd => v_or (hd 15 rfl) (hd 17 rfl)) ?_
   refine rt_v (fun vals w hR hd => v_move (t := .bool _) (hd 18 rfl)) ?_
   refine rt_g1 rfl (fun vals w hd => hd 19 rfl) (fun vals w hR hd hG => show OpVat _ _ _ _ (undef) from False.elim ((by simp [hln, lstI] at hG))) ?_
   refine rt_g1 rfl (fun vals w hd => hd 19 rfl) (fun vals w hR hd hG => show OpVat _ _ _ _ (undef) from False.elim ((by simp [hln, lstI] at hG))) ?_
   refine rt_g1 rfl (fun vals w hd => hd 19 rfl) (fun vals w hR hd hG => show OpVat _ _ _ _ (undef) from False.elim ((by simp [hln, lstI] at hG))) ?_
   refine rt_g1 rfl (fun vals w hd => hd 19 rfl) (fun vals w hR hd hG => show OpVat _ _ _ _ (undef) from False.elim ((by simp [hln, lstI] at hG))) ?_
   refine rt_g1 rfl (fun vals w hd => hd 19 rfl) (fun vals w hR hd hG => show OpVat _ _ _ _ (undef) from False.elim ((by simp [hln, lstI] at hG))) ?_
   refine rt_g1 rfl (fun vals w hd => hd 19 rfl) (fun vals w hR hd hG => show OpVat _ _ _ _ (undef) from False.elim ((by simp [hln, lstI] at hG))) ?_
   refine rt_g1 rfl (fun vals w hd => hd 19 rfl) (fun vals w hR hd hG => show OpVat _ _ _ _ (undef) from False.elim ((by simp [hln, lstI] at hG))) ?_
   refine rt_g1 rfl (fun vals w hd => hd 19 rfl) (fun vals w hR hd hG => show OpVat _ _ _ _ (undef) from False.elim ((by simp [hln, lstI] at hG))) ?_
   refine rt_g1 rfl (fun vals w hd => hd 19 rfl) (fun vals w hR hd hG => show OpVat _ _ _ _ (.bool true) from False.elim ((by simp [hln, lstI] at hG))) ?_
   refine rt_v (fun vals w hR hd => v_or (hd 19 rfl) (hd 28 rfl)) ?_
   refine rt_v (fun vals w hR hd => v_move (t := .bool _) (hd 29 rfl)) ?_
   refine rt_g1 rfl (fun vals w hd => hd 30 rfl) (fun vals w hR hd hG => show OpVat _ _ _ _ (undef) from False.elim ((by simp [hln, lstI] at hG))) ?_
   refine rt_g1 rfl (fun vals w hd => hd 30 rfl) (fun vals w hR hd hG => show OpVat _ _ _ _ (undef) from False.elim ((by simp [hln, lstI] at hG))) ?_
   refine rt_g1 rfl (fun vals w hd => hd 30 rfl) (fun vals w hR hd hG => show OpVat _ _ _ _ (undef) from False.elim ((by simp [hln, lstI] at hG))) ?_
   refine rt_g1 rfl (fun vals w hd => hd 30 rfl) (fun vals w hR hd hG => show OpVat _ _ _ _ (undef) from False.elim ((by simp [hln, lstI] at hG))) ?_
   refine rt_g1 rfl (fun vals w hd => hd 30 rfl) (fun vals w hR hd hG => show OpVat _ _ _ _ (undef) from False.elim ((by simp [hln, lstI] at hG))) ?_
   refine rt_g1 rfl (fun vals w hd => hd 30 rfl) (fun vals w hR hd hG => show OpVat _ _ _ _ (.bool true) from False.elim ((by simp [hln, lstI] at hG))) ?_
   refine rt_v (fun vals w hR hd => v_or (hd 30 rfl) (hd 36 rfl)) ?_
   refine rt_nil (fun w111 e111 => ?_)
   rintro _ rfl _ rfl _ rfl _ rfl _ rfl _ rfl _ rfl _ rfl _ rfl _ rfl _ rfl _ rfl _ rfl _ rfl _ rfl _ rfl _ rfl _ rfl _ rfl _ rfl _ rfl _ rfl _ rfl _ rfl _ rfl _ rfl _ rfl _ rfl _ rfl _ rfl _ rfl _ rfl _ rfl _ rfl _ rfl _ rfl _ rfl _ rfl
   have := e111.size
   replace E := E.trans e111.keep
   replace HSl := HSl.ext e111
   replace HOx := HOx.ext e111
   replace EL1 := EL1.trans e111.keep
   replace HGa := HGa.ext e111
   replace HGx := HGx.ext e111
   replace HB7 := HB7.ext e111
   refine fin_nil (n_then (c_cond rfl rfl (fun h143 => ?_) (fun h143 => ?_)))
   ·
    refine c_seq (wp_reg zd (l_v (zmS rfl) (l_v (zmI rfl) (l_v (zaS rfl) (l_v (zaI rfl) (l_nil (n_then (c_ret (r_then ?_)))))))))
    refine r_blk (r_blk (r_then (r_then (r_blk (r_then (ret2v rfl zq zq (zvS rfl) (zvI rfl) ?_))))))
    have h5 : rdE l 0 [] = (out, i) := by rw [h3, hev]
    rw [h5]
    exact ⟨_, rfl, HOx.view.mono fun b _ h => h.elim (fun h => .inr zo) (fun h => h.elim (fun h => .inl h.1) (fun h => .inr zo)), E⟩
   simp [hln, lstI] at h143
  refine c_seq (wp_reg zd (l_v (zmS rfl) (l_v (zmI rfl) (l_v (zaS rfl) (l_v (zaI rfl) (l_nil (n_then (c_ret (r_blk ?_)))))))))
  refine r_blk (r_then (r_then (r_blk (r_then (ret2v rfl zq zq (zvS rfl) (zvI rfl) ?_)))))
  have h5 : rdE l 0 [] = (out, i) := by rw [h3, hev]
  rw [h5]
  exact ⟨_, rfl, HOx.view.mono fun b _ h => h.elim (fun h => .inr zo) (fun h => h.elim (fun h => .inl h.1) (fun h => .inr zo)), E⟩
 have hi : i = l.length := by have := dfalse hlt; omega
 refine c_exit (x_then (x_then (x_hit (n_then (c_seq (wp_reg zd (l_v (zmS rfl) (l_v (zmS rfl) (l_v (v_len (et := 44) zk rfl) ?_)))))))))
 refine l_v (zaS rfl) (l_v (zaI rfl) (l_nil (n_then (c_ret (ret2v rfl zq zq (zvS rfl) (zvI rfl) ?_)))))
 have h5 : rdE l 0 [] = (out, l.length) := by rw [h3, List.drop_eq_nil_of_le zo, hi]; rfl
 rw [h5]
 exact ⟨_, rfl, HOx.view.mono fun b _ h => h.elim (fun h => .inr zo) (fun h => h.elim (fun h => .inl h.1) (fun h => .inr zo)), E⟩
end Go.Proofs.Ytifnkmflmgnfjaa
