/- A part of the proof: steps and lemmas for the walks through the given program. -/
import Derived.Test.YtifnkmflmgnfjaaJ25
namespace Go.Proofs.Ytifnkmflmgnfjaa
open Go.Vc
set_option linter.unusedVariables false
set_option linter.unusedSimpArgs false
set_option maxRecDepth 100000

theorem SameJudged_s {w : World} {F G : Nat → Prop} {v u : Value} {a : JdV} (HG1 : AgV tJd w F v a) (HG2 : AgV tJd w G u a) : CallsR Try.prog 48 #[v, u] w (fun o w' => o = .bool true ∧ Ext w w') := by
 obtain ⟨a1, c1, a2, c2, a3, c3, a4, c4, a5, c5, a6, c6, rfl, HGa, HGx, i1, i2, i3, i4⟩ := HG1.jd
 obtain ⟨d1, e1, d2, e2, d3, e3, d4, e4, d5, e5, d6, e6, rfl, HGb, HGy, j1, j2, j3, j4⟩ := HG2.jd
 refine enter 51 Try.func48 rfl rfl (by simp) ?_
 refine c_seq ?_
 have E := Keep.refl (K := NoK) w
 replace HGa := HGa.all
 replace HGx := HGx.all
 replace HGb := HGb.all
 replace HGy := HGy.all
 refine wp_reg zd (l_to (to_box (zvA rfl) ?_))
 rintro b1 w1 zb1 HB1 e10 z1
 have := e10.size
 try simp only [Value.cells] at HB1
 refine l_to (to_box (zvA rfl) ?_)
 rintro b2 w2 zb2 HB2 e20 z2
 have := e20.size
 try simp only [Value.cells] at HB2
 replace HB1 := HB1.ext e20
 refine l_v (v_assign rfl) (l_nil (n_then (c_seq (wp_reg zd (l_v (v_fieldAddr (off := 0) (ft := 77) zk rfl) (l_v (v_fieldAddr (off := 0) (ft := 3) zk rfl) (l_v (v_load zk rfl (by first | exact HB2.pv 0 _ rfl | exact HB1.pv 0 _ rfl | assumption)) ?_)))))))
 refine l_v (v_fieldAddr (off := 0) (ft := 77) zk rfl) (l_v (v_fieldAddr (off := 0) (ft := 3) zk rfl) (l_v (v_load zk rfl (by first | exact HB2.pv 0 _ rfl | exact HB1.pv 0 _ rfl | assumption)) ?_))
 refine l_v (v_eql rfl rfl) ?_
 refine l_v (zmB rfl) (l_g1 rfl rfl (fun hG => v_fieldAddr (off := 0) (ft := 77) zk rfl) ?_)
 refine l_g1 rfl rfl (fun hG => v_fieldAddr (off := 1) (ft := 2) zk (gd hG rfl)) ?_
 refine l_g1 rfl rfl (fun hG => v_load zk (gd hG rfl) (by first | exact HB2.pv 1 _ rfl | exact HB1.pv 1 _ rfl | assumption)) ?_
 refine l_g1 rfl rfl (fun hG => v_fieldAddr (off := 0) (ft := 77) zk rfl) ?_
 refine l_g1 rfl rfl (fun hG => v_fieldAddr (off := 1) (ft := 2) zk (gd hG rfl)) ?_
 refine l_g1 rfl rfl (fun hG => v_load zk (gd hG rfl) (by first | exact HB2.pv 1 _ rfl | exact HB1.pv 1 _ rfl | assumption)) ?_
 refine l_g1 rfl rfl (fun hG => v_eql (gd hG rfl) (gd hG rfl)) ?_
 refine l_v (v_and rfl rfl) ?_
 refine l_v (zmB rfl) (l_g1 rfl rfl (fun hG => v_fieldAddr (off := 0) (ft := 77) zk rfl) ?_)
 refine l_g1 rfl rfl (fun hG => v_fieldAddr (off := 2) (ft := 28) zk (gd hG rfl)) ?_
 refine l_g1 rfl rfl (fun hG => v_loadA zk (gd hG rfl) (by first | exact (show Pv _ _ [_, _, _, _, _, _, _] from pv_sub 2 7 HB2.pv) | exact (show Pv _ _ [_, _, _, _, _, _, _] from pv_sub 2 7 HB1.pv) | exact pv_at 2 HB2.pv | exact pv_at 2 HB1.pv | assumption) rfl) ?_
 refine l_g1 rfl rfl (fun hG => v_fieldAddr (off := 0) (ft := 77) zk rfl) ?_
 refine l_g1 rfl rfl (fun hG => v_fieldAddr (off := 2) (ft := 28) zk (gd hG rfl)) ?_
 refine l_g1 rfl rfl (fun hG => v_loadA zk (gd hG rfl) (by first | exact (show Pv _ _ [_, _, _, _, _, _, _] from pv_sub 2 7 HB2.pv) | exact (show Pv _ _ [_, _, _, _, _, _, _] from pv_sub 2 7 HB1.pv) | exact pv_at 2 HB2.pv | exact pv_at 2 HB1.pv | assumption) rfl) ?_
 replace HGa := (HGa.ext e10).ext e20
 replace HGb := (HGb.ext e10).ext e20
 refine l_g1f rfl rfl (fun hG => to_f2 zk (gd hG rfl) (gd hG rfl) (refSameAsk_c HGa HGb)) ?_
 rintro w101 e101
 have := e101.size
 refine l_v (v_and rfl rfl) ?_
 refine l_v (zmB rfl) (l_g1 rfl rfl (fun hG => v_fieldAddr (off := 9) (ft := 3) zk rfl) ?_)
 replace HB1 := HB1.ext e101
 replace HB2 := HB2.ext e101
 refine l_g1 rfl rfl (fun hG => v_load zk (gd hG rfl) (by first | exact HB2.pv 9 _ rfl | exact HB1.pv 9 _ rfl | assumption)) ?_
 refine l_g1 rfl rfl (fun hG => v_fieldAddr (off := 9) (ft := 3) zk rfl) ?_
 refine l_g1 rfl rfl (fun hG => v_load zk (gd hG rfl) (by first | exact HB2.pv 9 _ rfl | exact HB1.pv 9 _ rfl | assumption)) ?_
 refine l_g1 rfl rfl (fun hG => v_eql (gd hG rfl) (gd hG rfl)) ?_
 refine l_v (v_and rfl rfl) ?_
 refine l_v (zmB rfl) (l_g1 rfl rfl (fun hG => v_fieldAddr (off := 10) (ft := 3) zk rfl) ?_)
 refine l_g1 rfl rfl (fun hG => v_load zk (gd hG rfl) (by first | exact HB2.pv 10 _ rfl | exact HB1.pv 10 _ rfl | assumption)) ?_
 refine l_g1 rfl rfl (fun hG => v_fieldAddr (off := 10) (ft := 3) zk rfl) ?_
 refine l_g1 rfl rfl (fun hG => v_load zk (gd hG rfl) (by first | exact HB2.pv 10 _ rfl | exact HB1.pv 10 _ rfl | assumption)) ?_
 refine l_g1 rfl rfl (fun hG => v_eql (gd hG rfl) (gd hG rfl)) ?_
 refine l_v (v_and rfl rfl) ?_
 refine l_v (zmB rfl) (l_g1 rfl rfl (fun hG => v_fieldAddr (off := 11) (ft := 31) zk rfl) ?_)
 refine l_g1 rfl rfl (fun hG => v_loadA zk (gd hG rfl) (by first | exact (show Pv _ _ [_, _, _] from pv_sub 11 3 HB2.pv) | exact (show Pv _ _ [_, _, _] from pv_sub 11 3 HB1.pv) | exact pv_at 11 HB2.pv | exact pv_at 11 HB1.pv | assumption) rfl) ?_
 refine l_g1 rfl rfl (fun hG => v_fieldAddr (off := 11) (ft := 31) zk rfl) ?_
 refine l_g1 rfl rfl (fun hG => v_loadA zk (gd hG rfl) (by first | exact (show Pv _ _ [_, _, _] from pv_sub 11 3 HB2.pv) | exact (show Pv _ _ [_, _, _] from pv_sub 11 3 HB1.pv) | exact pv_at 11 HB2.pv | exact pv_at 11 HB1.pv | assumption) rfl) ?_
 replace HGx := ((HGx.ext e10).ext e20).ext e101
 replace HGy := ((HGy.ext e10).ext e20).ext e101
 refine l_g1f rfl rfl (fun hG => to_f2 zk (gd hG rfl) (gd hG rfl) (refSameAnswer_c HGx HGy)) ?_
 rintro w102 e102
 have := e102.size
 refine l_v (v_and rfl rfl) ?_
 refine l_v (zaB rfl) (l_nil (n_then (c_ret (ret1v rfl zq (zvB rfl) ?_))))
 replace E := (((E.trans e10.keep).trans e20.keep).trans e101.keep).trans e102.keep
 refine ⟨?_, E⟩
 simp
theorem much_c {w : World} {F : Nat → Prop} {v : Value} {l : List EvV} (HSl : SlV tEv w F v l) : CallsR Try.prog 18 #[v] w (fun o w' => (∃ b, o = .bool b ∧ (b = false → l.length ≤ 80)) ∧ Ext w w') := by
 obtain ⟨al, cl, rfl⟩ := HSl.shape
 have hmx := HSl.len_max
 refine enter 31 Try.func18 rfl rfl (by simp) ?_
 refine c_seq ?_
 have E := Keep.refl (K := NoK) w
 replace HSl := HSl.all
 refine wp_reg zd (l_v (v_assign rfl) (l_nil (n_then (c_seq (c_seq (wp_reg zd (l_v (v_assign rfl) (l_nil (n_then ?_)))))))))
 refine c_block (c_loop (τ := Nat) [2, 3, 4, 5, 6, 7, 8, 9, 10, 11, 12, 13, 14, 15, 16, 17, 18, 19, 20, 21, 22, 23, 24, 25, 26, 27] (fun i => [(3, .int .i64 i)]) (fun i W => Ext w W ∧ Keep (NoK) w W ∧ i ≤ l.length) (fun i => l.length - i) 0 (by exact ⟨rfl, trivial⟩) (by exact ⟨E, Keep.refl _, Nat.zero_le _⟩) ?_)
 rintro i w101 j ⟨E, EL1, h1⟩
 have := EL1.size
 refine c_seq (c_seq (wp_reg zd (l_v (zmI rfl) (l_v (zmS rfl) (l_v (v_len (et := 44) zk rfl) ?_)))))
 refine l_v (v_lss rfl rfl) ?_
 refine l_v (zmB rfl) (l_g1 rfl rfl (fun hG => zmI rfl) (l_g1 rfl rfl (fun hG => v_lss (gd hG rfl) rfl) ?_))
 refine l_v (v_and rfl rfl) ?_
 replace HSl := HSl.ext EL1
 refine l_nil (n_then (c_cond rfl rfl (fun hlt => ?_) (fun hlt => ?_)))
 ·
  have hlt : i < l.length := by simp at hlt; omega
  obtain ⟨ev, hx, _⟩ := getE (l := l) (i := i) hlt
  obtain ⟨q, cs, hqq, hF, _, HPq, hr⟩ := HSl.el hx
  subst hqq
  obtain ⟨a1, c1, a2, c2, a3, c3, a4, c4, a5, c5, a6, c6, rfl, HGa, HGx, _⟩ := tEv_cells hr
  refine c_skip (n_then (c_seq (c_block (c_seq (wp_reg zd (l_v (zmS rfl) (l_v (zmI rfl) (l_v (v_indexAddr (et := 44) (sz := 13) (k := i) zk zk rfl rfl (by first | rfl | omega) zo) ?_))))))))
  refine l_v (v_fieldAddr (off := 3) (ft := 28) zk rfl) (l_v (v_loadA zk rfl (by first | exact (show Pv _ _ [_, _, _, _, _, _, _] from pv_sub 3 7 HPq) | exact pv_at 3 HPq | exact HPq | assumption) rfl) ?_)
  refine l_to (to_f2 zk (zvA rfl) (zvI rfl) (CallsR.mono (LongAsk_k HGa) ?_))
  rintro _ w102 ⟨rfl, e102⟩
  have := e102.size
  refine l_v (zmB rfl) (l_g1 rfl rfl (fun hG => zmS rfl) (l_g1 rfl rfl (fun hG => zmI rfl) (l_g1 rfl rfl (fun hG => v_indexAddr (et := 44) (sz := 13) (k := i) zk zk (gd hG rfl) (gd hG rfl) (by first | rfl | omega) zo) ?_)))
  refine l_g1 rfl rfl (fun hG => v_fieldAddr (off := 10) (ft := 31) zk (gd hG rfl)) ?_
  replace HPq := HPq.ext e102
  refine l_g1 rfl rfl (fun hG => v_loadA zk (gd hG rfl) (by first | exact (show Pv _ _ [_, _, _] from pv_sub 10 3 HPq) | exact pv_at 10 HPq | exact HPq | assumption) rfl) ?_
  replace HGx := HGx.ext e102
  refine l_g1f rfl rfl (fun hG => to_f2 zk (gd hG rfl) (zvI rfl) (Much_c (most := 3000) HGx zq)) ?_
  rintro w103 e103
  have := e103.size
  refine l_v (v_or rfl rfl) ?_
  replace E := (E.trans e102.keep).trans e103.keep
  replace HSl := (HSl.ext e102).ext e103
  replace EL1 := (EL1.trans e102.keep).trans e103.keep
  replace HGa := (HGa.ext e102).ext e103
  replace HPq := HPq.ext e103
  replace HGx := HGx.ext e103
  refine l_nil (n_then (c_cond rfl rfl (fun hc => ?_) (fun hc => ?_)))
  ·
   refine c_seq (wp_reg zd (l_v (v_assign rfl) (l_nil (n_then (c_ret (r_blk (r_then (r_then (r_blk ?_)))))))))
   refine r_then (ret1v rfl zq (zvB rfl) ?_)
   exact ⟨⟨true, rfl, fun h => by cases h⟩, E⟩
  refine c_skip (n_blk (n_then (wp_reg zd (l_v (zmI rfl) (l_v (v_add rfl rfl (by first | exact wr_i64 zo zo | rfl)) ?_)))))
  refine l_v (zaI rfl) (l_nil (n_then (⟨i + 1, _, rfl, by (repeat (first | exact Off.of_over _ _ _ | refine Off.upd ?_ zq _ | refine Off.overs ?_ zq _)), ⟨by first | rfl | exact congrArg (Value.int _) zo | (simp; done), trivial⟩, ⟨E, EL1, ?_⟩, ?_⟩)))
  ·
   omega
  (dsimp only; omega)
 refine c_exit (x_then (x_then (x_hit (n_then (c_seq (wp_reg zd (l_v (zmS rfl) (l_v (v_len (et := 44) zk rfl) ?_))))))))
 refine l_v (v_gtr rfl rfl) ?_
 refine l_v (zaB rfl) (l_nil (n_then (c_ret (ret1v rfl zq (zvB rfl) ?_))))
 refine ⟨⟨_, rfl, fun h => ?_⟩, E⟩
 have := of_decide_eq_false h; omega
theorem once_c {w : World} {F G : Nat → Prop} {v u : Value} {mo : Int} {l : List EvV} (HSl : SlV tEv w F v l) (HSr : SlV tJd w G u (rdE l 0 []).1) (hn : l.length ≤ 100000) : CallsR Try.prog 20 #[v, u, .int .i64 mo] w (fun o w' => o = .bool true ∧ Ext w w') := by
 obtain ⟨al, cl, rfl⟩ := HSl.shape
 obtain ⟨ar, cr, rfl⟩ := HSr.shape
 obtain ⟨r, hr0⟩ : ∃ r, r = (rdE l 0 []).1 := ⟨_, rfl⟩
 have hmr := HSr.len_max
 rw [← hr0] at HSr hmr ⊢
 refine enterM 45 Try.func20 rfl rfl (by simp) ?_
 refine c_seq ?_
 have E := Keep.refl (K := NoK) w
 replace HSl := HSl.all
 replace HSr := HSr.all
 refine wp_reg zd (l_to (to_box (zvS rfl) ?_))
 rintro b4 w4 zb4 HB4 e4 z4
 have := e4.size
 try simp only [Value.cells] at HB4
 refine l_to (to_box (zvI rfl) ?_)
 rintro b5 w5 zb5 HB5 e5 z5
 have := e5.size
 try simp only [Value.cells] at HB5
 refine l_to (to_alloc (z := (.bool false)) (by unfold kZero; kernel_rfl) ?_)
 rintro b6 w6 zb6 HB6 e6 z6
 have := e6.size
 try simp only [Value.cells] at HB6
 refine l_nil (n_then (c_seq (wp_reg zd (l_to (to_alloc (z := (.int .i64 0)) (by unfold kZero; kernel_rfl) ?_)))))
 rintro b7 w7 zb7 HB7 e7 z7
 have := e7.size
 try simp only [Value.cells] at HB7
 refine l_to (to_store rfl rfl (zvI rfl) rfl zk HB7 dj5 ?_)
 rintro w101 HX101 k101 z101
 have := k101.size
 replace HB7 := HX101
 clear HX101
 try simp only [zS, Nat.zero_add, Nat.reduceAdd, List.drop_nil] at HB7
 refine l_nil (n_then (c_seq (wp_reg zd (l_v (zmS rfl) (l_to (to_f1 zk (zvS rfl) (CallsR.mono (Requests_c) ?_)))))))
 replace HSl := ((((HSl.ext e4).ext e5).ext e6).ext e7).keep k101 dj1
 replace HSr := ((((HSr.ext e4).ext e5).ext e6).ext e7).keep k101 dj1
 rintro _ w8 ⟨b8, hb8, rfl, HB8, e8⟩
 have := e8.size
 have zl8 := HB8.lt
 refine l_v (v_assign rfl) (l_nil (n_then (c_seq (c_seq (wp_reg zd (l_v (v_move rfl) (l_v (v_feqlnil (ps := #[123]) (rs := #[]) (v := false) zk rfl rfl) ?_)))))))
 replace E := (((((E.trans e4.keep).trans e5.keep).trans e6.keep).trans e7.keep).step k101 dj3).trans e8.keep
 replace HB4 := ((((HB4.ext e5).ext e6).ext e7).keep k101 dj4).ext e8
 replace HB5 := (((HB5.ext e6).ext e7).keep k101 dj4).ext e8
 replace HB6 := ((HB6.ext e7).keep k101 dj4).ext e8
 replace HSl := HSl.ext e8
 replace HSr := HSr.ext e8
 replace HB7 := HB7.ext e8
 refine l_nil (n_then (c_cond rfl rfl (fun hn0 => ?_) (fun hn0 => ?_)))
 ·
  cases hn0
 refine c_skip (n_then (c_seq (c_seq (wp_reg zd (l_v (v_move rfl) (l_nil (n_then (c_block ?_))))))))
 refine c_rangeT (N := 45) rfl (show _ = (Value.func _ _ _) from rfl) zk zq E (fun x : Nat × List Value => [.int .i64 (x.1 : Int), .agg x.2.toArray]) (fun _ => rfl) (yJ (w8.heap.size + 2) (fun i => (i < w.heap.size ∧ i < w8.heap.size) ∨ w8.heap.size + 2 ≤ i) (rdE l 0 []).1) (fun xs => xs.length = (rdE l 0 []).1.length) (fun _ => True) (fun i => i = b6 ∨ i = b7) (fun i h => by have h := h; (try dsimp only at h); exact ⟨fun _ => by omega, by omega⟩) (Reqs_seq (K := fun i => (i = b6 ∨ i = b7) ∨ i = w8.heap.size ∨ i = w8.heap.size + 1) HSl HB8 hn (fun h => by have h := h; (try dsimp only at h); omega) (fun i hi hf h => by have h := h; (try dsimp only at h); omega) (fun i h => by have h := h; (try dsimp only at h); omega)) (fun pre W => Blk W b7 [.int .i64 (pre.length : Int)] 3 ∧ Blk W b6 [.bool false] 4) (fun c pre W => c = .ret ∧ Blk W b6 [.bool true] 4) (fun s A B t h => ⟨h.1.turn t, h.2.turn t⟩) (fun c s A B t h => ⟨h.1, h.2.turn t⟩) (⟨HB7, HB6⟩) (fun pre x e1 W => ∃ b10 jd, Holds [(4, .pointer (some ⟨b4, 0, none⟩)), (5, .pointer (some ⟨b5, 0, none⟩)), (6, .pointer (some ⟨b6, 0, none⟩)), (7, .pointer (some ⟨b7, 0, none⟩)), (9, .int .i64 (x.1 : Int)), (10, .pointer (some ⟨b10, 0, none⟩))] e1 ∧ Blk W b10 x.2 86 ∧ w8.heap.size + 2 ≤ b10 ∧ x.1 = pre.length ∧ r[x.1]? = some jd ∧ tJd.rep W (fun i => i < w.heap.size ∨ w8.heap.size + 2 ≤ i) x.2 jd) (fun pre x e1 W W' t h => by obtain ⟨b10, jd, h1, h2, h3, h4, h5, h6⟩ := h; exact ⟨b10, jd, h1, h2.keep t.keep (fun hh => by have hh := hh; (try dsimp only at hh); omega), h3, h4, h5, tJd.keep h6 t.keep (fun i _ hi hh => by rcases hi with hi | hi <;> omega)⟩) ?_ ?_ ?_ ?_
 ·
  rintro l pre x w102 E EK hY ⟨HB7, HB6⟩
  have := EK.size
  have := E.size
  obtain ⟨hz9, hx1, jd, hjd, hr⟩ := hY
  rw [← hr0] at hjd
  replace HSl := HSl.keep EK dj1
  replace HSr := HSr.keep EK dj1
  replace HB4 := HB4.keep EK dj4
  replace HB5 := HB5.keep EK dj4
  replace HB8 := HB8.keep EK dj4
  replace hr := tJd.mono hr (F' := fun i => i < w.heap.size ∨ w8.heap.size + 2 ≤ i) fun i _ h => h.imp (fun h => h.1) (fun h => h)
  have EL1 := Keep.refl (K := NoK) w102
  refine c_seq (wp_reg zd (l_v (zaI rfl) (l_nil (n_then (wp_reg zd (l_to (to_alloc (z := (.agg #[.int .i64 0, .int .i64 0, .int .i64 0, .slice none 0 0, .slice none 0 0, .slice none 0 0, .slice none 0 0, .bool false, .int .i64 0, .int .i64 0, .int .i64 0, .int .i64 0, .slice none 0 0, .slice none 0 0])) (by unfold kZero; kernel_rfl) ?_)))))))
  rintro b10 w10 zb10 HB10 e10 z10
  have := e10.size
  try simp only [Value.cells] at HB10
  refine l_to (to_storeA (n := 14) rfl rfl (zvA rfl) zk (tJd.len hr) (tJd.one hr) HB10 dj5 ?_)
  rintro w11 HB11 k11 z11
  have := k11.size
  rw [show x.2.toArray.toList = x.2 from rfl, setAt_all (by rw [tJd.len hr]; rfl)] at HB11
  refine l_nil (n_then ?_)
  replace HSl := (HSl.ext e10).keep k11 dj1
  replace HSr := (HSr.ext e10).keep k11 dj1
  replace HB4 := (HB4.ext e10).keep k11 dj4
  replace HB5 := (HB5.ext e10).keep k11 dj4
  replace HB8 := (HB8.ext e10).keep k11 dj4
  replace E := (E.trans e10.keep).step k11 dj3
  replace HB7 := (HB7.ext e10).keep k11 dj4
  replace HB6 := (HB6.ext e10).keep k11 dj4
  replace EL1 := (EL1.trans e10.keep).step k11 dj3
  exact ⟨_, rfl, EL1, ⟨HB7, HB6⟩, b10, jd, ⟨rfl, rfl, rfl, rfl, rfl, rfl, trivial⟩, HB11, by omega, hx1, hjd, tJd.keep hr EL1 (fun _ _ _ h => h)⟩
 ·
  rintro l pre x e1 w103 E EK ⟨HB7, HB6⟩ ⟨b10, jd, hh, HB10, hb10, hx1, hjd, hr⟩
  have := EK.size
  have := E.size
  replace HSl := HSl.keep EK dj1
  replace HSr := HSr.keep EK dj1
  obtain ⟨jj, rfl⟩ : ∃ j, e1 = updL _ j := ⟨_, hh.upd⟩
  have EL1 := Keep.refl (K := fun i => i = b6 ∨ i = b7) w103
  refine c_block (c_seq (c_seq ?_))
  have hlx := (List.getElem?_eq_some_iff.1 hjd).1
  obtain ⟨q, cs, hqq, hF, _, HPq, hr2⟩ := HSr.el hjd
  subst hqq
  have HGq : AgV tJd _ _ _ jd := ⟨cs, rfl, hr2⟩
  have HGr : AgV tJd _ _ _ jd := ⟨x.2, rfl, hr⟩
  obtain ⟨m1, n1, m2, n2, m3, n3, m4, n4, m5, n5, m6, n6, rfl, _⟩ := tJd_cells hr2
  refine wp_regd (NoK) zk zd zd ?_
  replace HB4 := HB4.keep EK dj4
  replace HB5 := HB5.keep EK dj4
  replace HB8 := HB8.keep EK dj4
  refine rt_v (fun vals w hR hd => v_load zk rfl (by first | exact pv_1 (HPq.ext hR) | exact (HB10.ext hR).cell rfl | exact (HB6.ext hR).cell rfl | exact (HB7.ext hR).cell rfl | exact (HB8.ext hR).cell rfl | exact (HB5.ext hR).cell rfl | exact (HB4.ext hR).cell rfl | assumption)) ?_
  refine rt_v (fun vals w hR hd => v_load zk rfl (by first | exact pv_1 (HPq.ext hR) | exact (HB10.ext hR).cell rfl | exact (HB6.ext hR).cell rfl | exact (HB7.ext hR).cell rfl | exact (HB8.ext hR).cell rfl | exact (HB5.ext hR).cell rfl | exact (HB4.ext hR).cell rfl | assumption)) ?_
  refine rt_v (fun vals w hR hd => v_len (et := 86) zk (hd 1 rfl)) ?_
  refine rt_v (fun vals w hR hd => OpVat.as (b := false) (v_geq (hd 0 rfl) (hd 2 rfl)) (decide_eq_false zo)) ?_
  refine rt_v (fun vals w hR hd => v_move (t := .bool _) (hd 3 rfl)) ?_
  refine rt_hv rfl (fun vals w hd => hd 4 rfl) (fun vals w hR hd => zmI rfl) ?_
  refine rt_hv rfl (fun vals w hd => hd 4 rfl) (fun vals w hR hd => v_load zk rfl (by first | exact pv_1 (HPq.ext hR) | exact (HB10.ext hR).cell rfl | exact (HB6.ext hR).cell rfl | exact (HB7.ext hR).cell rfl | exact (HB8.ext hR).cell rfl | exact (HB5.ext hR).cell rfl | exact (HB4.ext hR).cell rfl | assumption)) ?_
  refine rt_hv rfl (fun vals w hd => hd 4 rfl) (fun vals w hR hd => OpVat.as (b := false) (v_neq (hd 5 rfl) (hd 6 rfl)) (by rw [hx1]; simp)) ?_
  refine rt_v (fun vals w hR hd => v_orT (hd 4 rfl) (hd 7 rfl)) ?_
  refine rt_v (fun vals w hR hd => v_move (t := .bool _) (hd 8 rfl)) ?_
  refine rt_hv rfl (fun vals w hd => hd 9 rfl) (fun vals w hR hd => v_loadA (n := 14) zk rfl ((HB10.ext hR).pv) (tJd.len hr)) ?_
  refine rt_hv rfl (fun vals w hd => hd 9 rfl) (fun vals w hR hd => v_load zk rfl (by first | exact pv_1 (HPq.ext hR) | exact (HB10.ext hR).cell rfl | exact (HB6.ext hR).cell rfl | exact (HB7.ext hR).cell rfl | exact (HB8.ext hR).cell rfl | exact (HB5.ext hR).cell rfl | exact (HB4.ext hR).cell rfl | assumption)) ?_
  refine rt_hv rfl (fun vals w hd => hd 9 rfl) (fun vals w hR hd => v_load zk rfl (by first | exact pv_1 (HPq.ext hR) | exact (HB10.ext hR).cell rfl | exact (HB6.ext hR).cell rfl | exact (HB7.ext hR).cell rfl | exact (HB8.ext hR).cell rfl | exact (HB5.ext hR).cell rfl | exact (HB4.ext hR).cell rfl | assumption)) ?_
  refine rt_hv rfl (fun vals w hd => hd 9 rfl) (fun vals w hR hd => v_indexAddr (et := 86) (sz := 14) (k := x.1) zk zk (hd 11 rfl) (hd 12 rfl) (by rw [hx1]) zo) ?_
  refine rt_hv rfl (fun vals w hd => hd 9 rfl) (fun vals w hR hd => v_loadA zk (hd 13 rfl) (by first | exact (HPq.ext hR) | exact (HB10.ext hR).pv | exact (HB6.ext hR).pv | exact (HB7.ext hR).pv | exact (HB8.ext hR).pv | exact (HB5.ext hR).pv | exact (HB4.ext hR).pv | assumption) rfl) ?_
  refine rt_hvf rfl (fun vals w hd => hd 9 rfl) (fun vals w hR hd => to_f2 zk (hd 10 rfl) (hd 14 rfl) (SameJudged_s (HGr.ext hR) (HGq.ext hR))) ?_
  refine rt_hv rfl (fun vals w hd => hd 9 rfl) (fun vals w hR hd => v_not (hd 15 rfl)) ?_
  refine rt_v (fun vals w hR hd => v_orT (hd 9 rfl) (hd 16 rfl)) ?_
  refine rt_nil (fun w104 e104 => ?_)
  rintro _ rfl _ rfl _ rfl _ rfl _ rfl _ rfl _ rfl _ rfl _ rfl _ rfl _ rfl _ rfl _ rfl _ rfl _ rfl _ rfl _ rfl _ rfl
  have := e104.size
  replace HSl := HSl.ext e104
  replace HSr := HSr.ext e104
  replace HB4 := HB4.ext e104
  replace HB5 := HB5.ext e104
  replace HB8 := HB8.ext e104
  replace E := E.trans e104.keep
  replace HB7 := HB7.ext e104
  replace HB6 := HB6.ext e104
  replace HB10 := HB10.ext e104
  replace EL1 := EL1.trans e104.keep
  replace HPq := HPq.ext e104
  replace HGq := HGq.ext e104
  replace HGr := HGr.ext e104
  refine fin_nil (n_then (c_cond rfl rfl (fun hq => ?_) (fun hq => ?_)))
  ·
   cases hq
  refine c_skip (n_then (c_seq (wp_reg zd (l_v (v_load zk rfl (by first | exact pv_1 HPq | exact HB10.cell rfl | exact HB6.cell rfl | exact HB7.cell rfl | exact HB8.cell rfl | exact HB5.cell rfl | exact HB4.cell rfl | assumption)) ?_))))
  refine l_v (v_add rfl rfl (by first | exact wr_i64 zo zo | rfl)) ?_
  refine l_to (to_store rfl rfl (zvI rfl) rfl zk HB7 dj5 ?_)
  rintro w105 HX105 k105 z105
  have := k105.size
  replace HB7 := HX105
  clear HX105
  try simp only [zS, Nat.zero_add, Nat.reduceAdd, List.drop_nil] at HB7
  replace HB4 := HB4.keep k105 dj4
  replace HB5 := HB5.keep k105 dj4
  replace HB8 := HB8.keep k105 dj4
  replace HB6 := HB6.keep k105 dj4
  replace HB10 := HB10.keep k105 dj4
  replace HPq := HPq.keep k105 (by intro h; (try dsimp only at h); (try simp only [add_block] at h); first | omega)
  refine l_nil (n_then (c_seq (wp_reg zd (l_v (v_load zk rfl (by first | exact pv_1 HPq | exact HB10.cell rfl | exact HB6.cell rfl | exact HB7.cell rfl | exact HB8.cell rfl | exact HB5.cell rfl | exact HB4.cell rfl | assumption)) ?_))))
  refine l_v (v_load zk rfl (by first | exact pv_1 HPq | exact HB10.cell rfl | exact HB6.cell rfl | exact HB7.cell rfl | exact HB8.cell rfl | exact HB5.cell rfl | exact HB4.cell rfl | assumption)) ?_
  refine l_v (v_eql rfl rfl) ?_
  replace HSl := HSl.keep k105 dj1
  replace HSr := HSr.keep k105 dj1
  replace E := E.step k105 dj3
  replace EL1 := EL1.step k105 dj3
  replace HGq := HGq.keep k105 dj1
  replace HGr := HGr.keep k105 dj1
  refine l_nil (n_then (c_cond rfl rfl (fun hmo => ?_) (fun hmo => ?_)))
  ·
   refine c_seq (wp_reg zd (l_to (to_store rfl rfl (zvB rfl) rfl zk HB6 dj5 ?_)))
   rintro w106 HX106 k106 z106
   have := k106.size
   replace HB6 := HX106
   clear HX106
   try simp only [zS, Nat.zero_add, Nat.reduceAdd, List.drop_nil] at HB6
   replace EL1 := EL1.step k106 dj3
   refine l_nil (n_then (c_ret (r_blk (⟨EL1, ?_⟩))))
   exact ⟨rfl, HB6⟩
  refine c_skip (n_blk (⟨EL1, ?_⟩))
  refine ⟨?_, HB6⟩
  simpa using HB7
 ·
  rintro D xs w107 hD E EK hS ⟨HB7, HB6⟩ HD
  have := EK.size
  have := E.size
  replace HB4 := HB4.keep EK dj4
  replace HB5 := HB5.keep EK dj4
  replace HB8 := HB8.keep EK dj4
  refine n_blk (n_then (c_seq (wp_reg zd (l_v (v_load zk rfl (by first | exact HB6.cell rfl | exact HB7.cell rfl | exact HB8.cell rfl | exact HB5.cell rfl | exact HB4.cell rfl | assumption)) ?_))))
  refine l_v (v_load zk rfl (by first | exact HB6.cell rfl | exact HB7.cell rfl | exact HB8.cell rfl | exact HB5.cell rfl | exact HB4.cell rfl | assumption)) ?_
  refine l_v (v_len (et := 86) zk rfl) ?_
  refine l_v (v_eql rfl rfl) ?_
  refine l_to (to_store rfl rfl (zvB rfl) rfl zk HB6 dj5 ?_)
  rintro w108 HX108 k108 z108
  have := k108.size
  replace HSl := (HSl.keep EK dj1).keep k108 dj1
  replace HSr := (HSr.keep EK dj1).keep k108 dj1
  replace HB4 := HB4.keep k108 dj4
  replace HB5 := HB5.keep k108 dj4
  replace HB8 := HB8.keep k108 dj4
  replace E := E.step k108 dj3
  replace HB7 := HB7.keep k108 dj4
  replace HD := defB_keep HD k108 (by intro h; have he0 := h; have he := h; have h := h; (try dsimp only at h); first | omega)
  replace HB6 := HX108
  clear HX108
  try simp only [zS, Nat.zero_add, Nat.reduceAdd, List.drop_nil] at HB6
  refine l_nil (n_then (c_ret (retM1s HD rfl zq rfl zk (HB6.cell rfl) ?_)))
  have E := keep_put E (by omega : w.heap.size ≤ D) (.deferred none)
  refine ⟨?_, E⟩
  rw [hS, ← hr0]; simp
 rintro D _ pre w109 hD E EK hpre ⟨rfl, HB6⟩ HD
 have := EK.size
 have := E.size
 refine c_ret (r_blk (r_then (retM1s HD rfl zq rfl zk (HB6.cell rfl) ?_)))
 have E := keep_put E (by omega : w.heap.size ≤ D) (.deferred none)
 exact ⟨rfl, E⟩
end Go.Proofs.Ytifnkmflmgnfjaa
