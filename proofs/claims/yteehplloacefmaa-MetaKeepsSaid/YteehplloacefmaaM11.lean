/- A part of the proof: steps and lemmas for the walks through the given program. -/
import Derived.Test.YteehplloacefmaaM10
namespace Go.Proofs.Yteehplloacefmaa
open Go.Vc
set_option linter.unusedVariables false
set_option linter.unusedSimpArgs false
set_option maxRecDepth 100000

theorem begMt_len (s : MtV) (k : List UInt8) (g : Int) : (begMt s k g).1.2.2.length ≤ s.2.2.length + 1 := by
  unfold begMt; split <;> (try split) <;> (try split) <;> simp
theorem goMt_len (s : MtV) (c : Bool) (m : MvV) : (goMt s c m).1.2.2.length ≤ s.2.2.length + 1 := by
  unfold goMt
  split
  · simp
  · split
    · split
      · simp
      · simp
    · have h := List.length_eraseIdx_le (l := s.2.2) (i := ‹Nat›)
      simp only; omega
theorem stMt_len (s : MtV) (c : CmV) : (stMt s c).1.2.2.length ≤ s.2.2.length + 1 := by
  unfold stMt
  have h1 := begMt_len s c.2.2.2.2.2.1 c.2.2.2.2.2.2
  have h2 := goMt_len s (decide (c.1 = 9)) c.2.2.1
  split
  · split <;> simp
  · split
    · split
      · split <;> simp
      · simp
    · split
      · exact h1
      · split
        · exact h2
        · simp
theorem doMt_len (s : MtV) (c : CmV) : (doMt s c).1.2.2.length ≤ s.2.2.length + 1 := by
  unfold doMt
  have := stMt_len s c
  split
  · simp [mt0]
  · split
    · exact this
    · simp [mt0]
theorem mtS {w : World} {F : Nat → Prop} {e n : Int} {v1 v2 : Value} {s : MtV} (h : AgV tMt w F (.agg #[.int .i64 e, v1, .int .i64 n, v2]) s) : SlV tRg w F v1 s.1.2 ∧ SlV tMa w F v2 s.2.2 ∧ I64' s.1.1 ∧ I64' s.2.1 := by
  obtain ⟨a, c, a2, c2, hq, h1, h2, h3, h4⟩ := h.mt
  simp only [Value.agg.injEq, Array.mk.injEq, List.cons.injEq, and_true] at hq
  obtain ⟨_, rfl, _, rfl⟩ := hq
  exact ⟨h1, h2, h3, h4⟩
theorem rMay_s {w : World} {F : Nat → Prop} {v : Value} {s : MtV} (HG1 : AgV tMt w F v s) : CallsR Try.prog 13 #[v] w (fun o w' => o = .bool (mayMt s) ∧ Ext w w') := by
  obtain ⟨⟨e0, rs⟩, n, ms⟩ := s
  exact rMay_c HG1
theorem MetaKeeps_c {w : World} {F : Nat → Prop} {v : Value} {l : List CmV} (HSl : SlV tCm w F v l) : CallsR Try.prog 5 #[v] w (fun o w' => o = .bool true ∧ Ext w w') := by
 obtain ⟨al, cl, rfl⟩ := HSl.shape
 refine enter 133 Try.func5 rfl rfl (by simp) ?_
 refine c_seq ?_
 have E := Keep.refl (K := NoK) w
 replace HSl := HSl.all
 refine wp_reg zd (l_v (v_assign rfl) (l_nil (n_then (c_seq (c_seq (wp_reg zd (l_v (zmS rfl) (l_v (v_len (et := 42) zk rfl) ?_))))))))
 refine l_v (v_gtr rfl rfl) ?_
 refine l_nil (n_then (c_cond rfl rfl (fun h13 => ?_) (fun h13 => ?_)))
 ·
  refine c_seq (wp_reg zd (l_to (to_f0 zk (CallsR.mono (known20_c) ?_))))
  rintro _ w101 ⟨rfl, e101⟩
  have := e101.size
  refine l_v (zaB rfl) (l_nil (n_then (c_ret (r_then (ret1v rfl zq (zvB rfl) ?_)))))
  replace E := E.trans e101.keep
  exact ⟨rfl, E⟩
 have h80 : l.length ≤ 80 := by have := dfalse h13; omega
 refine c_skip (n_then (c_seq (wp_reg zd (l_to (to_f0 zk (CallsR.mono (MetaNew_c) ?_))))))
 rintro _ w1 ⟨HG0, e1⟩
 have := e1.size
 replace HG0 : AgV tMt _ _ _ kS0 := HG0.all
 obtain ⟨a1, c1, f1, g1, rfl, _, _, is1, is2⟩ := AgV.mt HG0
 refine l_to (to_alloc (z := (.agg #[.int .i64 0, .slice none 0 0, .int .i64 0, .slice none 0 0])) (by unfold kZero; kernel_rfl) ?_)
 rintro b3 w3 zb3 HB3 e3 z3
 have := e3.size
 try simp only [Value.cells] at HB3
 refine l_to (to_storeA (n := 4) rfl rfl (zvA rfl) zk rfl dj6 HB3 dj5 ?_)
 rintro w102 HX102 k102 z102
 have := k102.size
 replace HB3 := HX102
 clear HX102
 try simp only [zS, Nat.zero_add, Nat.reduceAdd, List.drop_nil] at HB3
 replace E := ((E.trans e1.keep).trans e3.keep).step k102 dj3
 replace HG0 := (HG0.ext e3).keep k102 dj1
 refine l_nil (n_then (c_seq (c_seq (wp_reg zd (l_v (v_assign rfl) (l_nil (n_then (c_block (c_loop (τ := Nat × MtV × Option Addr × Nat × Option Addr × Nat) [2, 4, 5, 6, 7, 8, 9, 10, 16, 17, 18, 19, 20, 21, 22, 23, 24, 25, 26, 27, 28, 29, 30, 31, 32, 33, 34, 35, 36, 37, 38, 39, 40, 41, 42, 43, 44, 45, 46, 47, 48, 49, 50, 51, 52, 53, 54, 55, 56, 57, 58, 59, 60, 61, 62, 63, 64, 65, 66, 67, 68, 69, 70, 71, 72, 73, 74, 75, 76, 77, 78, 79, 80, 81, 82, 83, 84, 85, 86, 87, 88, 89, 90, 91, 92, 93, 94, 95, 96, 97, 98, 99, 100, 101, 102, 103, 104, 105, 106, 107, 108, 109, 110, 111, 112, 113, 114, 115, 116, 117, 118, 119, 120, 121, 122, 123, 124, 125, 126, 127, 128, 129, 130, 131] (fun (i, s, a, c, a2, c2) => [(4, .int .i64 i)]) (fun (i, s, a, c, a2, c2) W => Ext w W ∧ Keep (fun b => b = b3) w102 W ∧ i ≤ l.length ∧ s.2.2.length ≤ i ∧ Blk W b3 [.int .i64 s.1.1, .slice a s.1.2.length c, .int .i64 s.2.1, .slice a2 s.2.2.length c2] 27 ∧ AgV tMt W (fun q => q ≠ b3 ∧ q < W.heap.size) (.agg #[.int .i64 s.1.1, .slice a s.1.2.length c, .int .i64 s.2.1, .slice a2 s.2.2.length c2]) s) (fun (i, s, a, c, a2, c2) => l.length - i) (0, kS0, a1, c1, f1, g1) (by exact ⟨rfl, trivial⟩) (by exact ⟨E, Keep.refl _, Nat.zero_le _, Nat.le_refl _, HB3, HG0.mono fun q hq h => ⟨by omega, hq⟩⟩) ?_)))))))))
 replace HSl := ((HSl.ext e1).ext e3).keep k102 dj1
 rintro ⟨i, s, a, c, a2, c2⟩ w103 j ⟨E, EL1, h1, h2, HB3, HGs⟩
 have := EL1.size
 refine c_seq (c_seq (wp_reg zd (l_v (zmI rfl) (l_v (zmS rfl) (l_v (v_len (et := 42) zk rfl) ?_)))))
 refine l_v (v_lss rfl rfl) ?_
 replace HSl := HSl.keep EL1 dj1
 replace HG0 := HG0.keep EL1 dj1
 refine l_nil (n_then (c_cond rfl rfl (fun hlt => ?_) (fun hlt => ?_)))
 ·
  have hlt := dtrue hlt
  obtain ⟨n7, hn7⟩ : ∃ n, n = w103.heap.size := ⟨_, rfl⟩
  rw [← hn7] at HGs
  obtain ⟨cm, hx, hdr⟩ := getE (l := l) (i := i) zo
  obtain ⟨q, cs, hqq, hF, _, HPq, hr⟩ := HSl.el hx
  subst hqq
  have HGc : AgV tCm _ _ (.agg cs.toArray) cm := ⟨_, rfl, hr⟩
  obtain ⟨k, rq, mv, en, an, key, g⟩ := cm
  obtain ⟨x1, d1, x2, d2, x3, d3, x4, d4, x5, d5, x6, d6, x7, d7, x8, d8, x9, d9, hcs, _, _, _⟩ := AgV.cm HGc
  have hcc := congrArg Array.toList (Value.agg.inj hcs)
  simp only [] at hcc
  subst hcc
  have hlen := doMt_len s (k, rq, mv, en, an, key, g)
  obtain ⟨HSsr, HSsm, js1, js2⟩ := mtS HGs
  refine c_skip (n_then (c_seq (c_block (c_seq (wp_any zk ?_)))))
  have e104 : Ext w103 { w103 with drawn := w103.drawn + 1 } := Keep.drawn _ _
  generalize hw104 : ({ w103 with drawn := w103.drawn + 1 } : World) = w104 at e104 ⊢
  clear hw104
  have := e104.size
  refine r_cut 11 rfl zd zd zd ?_
  refine wp_regJW (fun k => w104.heap.size ≤ k) (CJ (tMt) ((doMt s (k, rq, mv, en, an, key, g)).1) (tU8) ([]) (.int .i64 (doMt s (k, rq, mv, en, an, key, g)).2) ([.int .i64 0, .slice none 0 0, .int .i64 0, .slice none 0 0] : List Value) 27 99 5 6 7 8 9 10 w104.heap.size) zd zd (fun vals done hd => CJ.start _ (by rfl) (by simp only [List.forall_mem_cons]; repeat' (first | exact rfl | apply And.intro | (intro u hu; cases hu; done))) (Nat.le_refl _) (fun h => absurd rfl h) (hd 5 zq) (hd 6 zq) (hd 7 zq) (hd 8 zq) (hd 9 zq)) ?_
  replace HB3 := HB3.ext e104
  replace HPq := HPq.ext e104
  refine rj_v CJ.on zq (fun done vals w hR hJ hdn hd => v_loadA zk rfl (by first | exact (HPq.keep hR (by intro h; (try dsimp only at h); (try simp only [add_block] at h); first | omega)) | exact (HB3.keep hR dj4).pv | assumption) rfl) ?_
  refine rj_v CJ.on zq (fun done vals w hR hJ hdn hd => zmS rfl) ?_
  refine rj_v CJ.on zq (fun done vals w hR hJ hdn hd => zmI rfl) ?_
  refine rj_v CJ.on zq (fun done vals w hR hJ hdn hd => v_indexAddr (et := 42) (sz := 20) (k := i) zk zk (hd 1 rfl) (hd 2 rfl) (by first | rfl | omega) zo) ?_
  refine rj_v CJ.on zq (fun done vals w hR hJ hdn hd => v_loadA zk (hd 3 rfl) (by first | exact (HPq.keep hR (by intro h; (try dsimp only at h); (try simp only [add_block] at h); first | omega)) | exact (HB3.keep hR dj4).pv | assumption) rfl) ?_
  replace E := E.trans e104.keep
  replace HSl := HSl.ext e104
  replace HG0 := HG0.ext e104
  replace HGs := HGs.ext e104
  replace EL1 := EL1.trans e104.keep
  replace HGc := HGc.ext e104
  replace HSsm := HSsm.ext e104
  refine rj_d (fun done vals w hR hcl hdk hJ hdn hd => by
    exact to_f2 zk (hd 0 rfl) (hd 4 rfl) (CallsR.mono (MetaDo_s (HGs.keep hR dj1) (HGc.keep hR dj1) zo) fun o w1 h => by
     obtain ⟨⟨y, rfl, cs, rfl, hr⟩, e1⟩ := h
     exact ⟨Ext.keep e1, hJ.call zq (Bool.eq_false_iff.2 fun h => absurd (hdk.symm.trans (hcl 6 _ h rfl 5 rfl)) zq) (Bool.eq_false_iff.2 fun h => absurd (hdk.symm.trans (hcl 6 _ (hcl 7 _ h rfl 6 rfl) rfl 5 rfl)) zq) (Bool.eq_false_iff.2 fun h => absurd (hdk.symm.trans (hcl 6 _ (hcl 8 _ h rfl 6 rfl) rfl 5 rfl)) zq) (Bool.eq_false_iff.2 fun h => absurd (hdk.symm.trans (hcl 6 _ (hcl 7 _ (hcl 10 _ h rfl 7 rfl) rfl 6 rfl) rfl 5 rfl)) zq) e1 hr (Ty.len _ hr) (Ty.one _ hr)⟩)) ?_
  refine rj_d (fun done vals w hR hcl hdk hJ hdn hd => by
    obtain ⟨cs, hv, hj⟩ := hJ.mvd zq (hdn 5 rfl)
    exact OpTo.of_v (v_move (t := .tuple #[.agg cs.toArray, .int .i64 (doMt s (k, rq, mv, en, an, key, g)).2]) hv) ⟨Keep.refl _, hj⟩) ?_
  refine rj_d (fun done vals w hR hcl hdk hJ hdn hd => by
    obtain ⟨cs, hv, hj⟩ := hJ.x0d zq (hdn 6 rfl)
    exact OpTo.of_v (v_extract (t := .agg cs.toArray) hv rfl) ⟨Keep.refl _, hj⟩) ?_
  refine rj_d (fun done vals w hR hcl hdk hJ hdn hd => by
    obtain ⟨cs, hv, hj⟩ := hJ.x1d zq (hdn 6 rfl)
    exact OpTo.of_v (v_extract (t := .int .i64 (doMt s (k, rq, mv, en, an, key, g)).2) hv rfl) ⟨Keep.refl _, hj⟩) ?_
  refine rj_d (fun done vals w hR hcl hdk hJ hdn hd => to_alloc (z := .agg #[.int .i64 0, .slice none 0 0, .int .i64 0, .slice none 0 0]) (by unfold kZero; kernel_rfl) fun b w1 hb hB e hz => ⟨Ext.keep e, hJ.al zq (Bool.eq_false_iff.2 fun h => absurd (hdk.symm.trans (hcl 10 _ h rfl 9 rfl)) zq) hb hB e⟩) ?_
  refine rj_d (fun done vals w hR hcl hdk hJ hdn hd => by
    obtain ⟨b, cs, hb, hv, hn, hB, hl, ho⟩ := hJ.seen (hdn 7 rfl) (hdn 9 rfl) hdk
    exact to_storeA (n := 4) (hb) rfl (hv) zk (show cs.length = _ from hl) (show ∀ u ∈ cs, _ from ho) hB (of_decide_eq_true rfl) (fun w1 hB1 kk z => ⟨kk.mono (fun i _ h => by rw [h]; exact hn), hJ.st zq (hdn 7 rfl) (hdn 9 rfl) hb hv (by rw [show cs.toArray.toList = cs from rfl, setAt_all (by rw [hl]; rfl)] at hB1; exact hB1) kk⟩)) ?_
  refine rj_nil (fun vals w105 k105 J105 => ?_)
  rintro _ - rfl _ - rfl _ - rfl _ - rfl _ - rfl v28 qp5 - v22 qp6 - v29 qp7 - v30 qp8 - v5 qp9 - _ - -
  have := k105.size
  obtain ⟨b5, cs5, qh5, qh6, qh7, qh8, qh9, zb5, HB5, HGn, -⟩ := J105.fin
  obtain rfl := qp5.trans qh5
  obtain rfl := qp6.trans qh6
  obtain rfl := qp7.trans qh7
  obtain rfl := qp8.trans qh8
  obtain rfl := qp9.trans qh9
  have zl5 := HB5.lt
  replace HSl := HSl.keep k105 dj1
  replace HG0 := HG0.keep k105 dj1
  replace HGs := HGs.keep k105 dj1
  replace HGc := HGc.keep k105 dj1
  replace HSsm := HSsm.keep k105 dj1
  obtain ⟨s', hs'⟩ : ∃ x, x = (doMt s (k, rq, mv, en, an, key, g)).1 := ⟨_, rfl⟩
  rw [← hs'] at HGn
  replace E := E.step k105 dj3
  replace HB3 := HB3.keep k105 dj4
  replace EL1 := EL1.step k105 dj3
  replace HPq := HPq.keep k105 (by intro h; (try dsimp only at h); (try simp only [add_block] at h); first | omega)
  replace HGn := HGn.mono fun b hb h => And.intro h hb
  obtain ⟨a5, c5, a6, c6, hq5, _⟩ := AgV.mt HGn
  obtain rfl : cs5 = [_, _, _, _] := congrArg Array.toList (Value.agg.inj hq5)
  obtain ⟨HSnr, HSnm, j1, j2⟩ := mtS HGn
  refine fin_nilJ (n_then (r_one zd rfl ?_))
  refine l_v (zaI rfl) (l_nil (n_then (c_seq (c_seq (wp_reg zd (l_v (zmI rfl) (l_v (v_neq rfl rfl) ?_)))))))
  refine l_nil (n_then (c_cond rfl rfl (fun h32 => ?_) (fun h32 => ?_)))
  ·
   refine c_exit (x_then (x_hit (n_then (wp_reg zd (l_v (zmI rfl) (l_v (v_add rfl rfl (by first | exact wr_i64 zo zo | rfl)) ?_))))))
   refine l_v (zaI rfl) (l_nil (n_then (⟨(i + 1, s, a, c, a2, c2), _, rfl, by (repeat (first | exact Off.of_over _ _ _ | refine Off.upd ?_ zq _ | refine Off.overs ?_ zq _)), ⟨by first | rfl | exact congrArg (Value.int _) zo | (simp; done), trivial⟩, ⟨E, EL1, ?_⟩, ?_⟩)))
   ·
    exact ⟨by omega, by omega, HB3, HGs.mono fun q hq h => ⟨h.1, hq⟩⟩
   (dsimp only; omega)
  have h0 : (doMt s (k, rq, mv, en, an, key, g)).2 = 0 := by simpa using h32
  have hk := do_keeps (s := s) (s' := s') (c := (k, rq, mv, en, an, key, g)) (by rw [hs', ← h0])
  obtain ⟨k1, ⟨k2, k3⟩, ⟨k4, k5⟩, k6⟩ := hk
  obtain ⟨p1, p2, p3, p4⟩ := mayMt_iff.1 k1
  obtain ⟨q1, q2, q3, q4, q5, q6⟩ := mayM_parts p1
  rw [← hs'] at hlen
  have hwe : IntKind.i64.wrap (s.1.1 + 1) = s.1.1 + 1 := wr_i64 (by have := js1.1; omega) zo
  have hwn : IntKind.i64.wrap (s.2.1 + 1) = s.2.1 + 1 := wr_i64 (by have := js2.1; omega) zo
  refine c_skip (n_then (c_seq (c_seq (wp_reg zd (l_v (v_loadA zk rfl (by first | exact HB5.pv | exact HPq | exact HB3.pv | assumption) rfl) ?_)))))
  refine l_to (to_f1 zk (zvA rfl) (CallsR.mono (rMay_s HGn) ?_))
  rintro _ w106 ⟨rfl, e106⟩
  have := e106.size
  refine l_v (v_not rfl) ?_
  refine l_v (zmB rfl) (l_g1 rfl rfl (fun hG => v_fieldAddr (off := 0) (ft := 24) zk rfl) ?_)
  refine l_g1 rfl rfl (fun hG => v_fieldAddr (off := 0) (ft := 2) zk (gd hG rfl)) ?_
  replace HB3 := HB3.ext e106
  replace HPq := HPq.ext e106
  replace HB5 := HB5.ext e106
  refine l_g1 rfl rfl (fun hG => v_load zk (gd hG rfl) (by first | exact HB5.pv 0 _ rfl | exact HPq 0 _ rfl | exact HB3.pv 0 _ rfl | assumption)) ?_
  refine l_g1 rfl rfl (fun hG => v_fieldAddr (off := 0) (ft := 24) zk rfl) ?_
  refine l_g1 rfl rfl (fun hG => v_fieldAddr (off := 0) (ft := 2) zk (gd hG rfl)) ?_
  refine l_g1 rfl rfl (fun hG => v_load zk (gd hG rfl) (by first | exact HB5.pv 0 _ rfl | exact HPq 0 _ rfl | exact HB3.pv 0 _ rfl | assumption)) ?_
  refine l_g1 rfl rfl (fun hG => v_lss (gd hG rfl) (gd hG rfl)) ?_
  refine l_v (v_or rfl rfl) ?_
  refine l_v (zmB rfl) (l_g1 rfl rfl (fun hG => v_fieldAddr (off := 2) (ft := 2) zk rfl) ?_)
  refine l_g1 rfl rfl (fun hG => v_load zk (gd hG rfl) (by first | exact HB5.pv 2 _ rfl | exact HPq 2 _ rfl | exact pv_1 HPq | exact HB3.pv 2 _ rfl | assumption)) ?_
  refine l_g1 rfl rfl (fun hG => v_fieldAddr (off := 2) (ft := 2) zk rfl) ?_
  refine l_g1 rfl rfl (fun hG => v_load zk (gd hG rfl) (by first | exact HB5.pv 2 _ rfl | exact HPq 2 _ rfl | exact pv_1 HPq | exact HB3.pv 2 _ rfl | assumption)) ?_
  refine l_g1 rfl rfl (fun hG => v_lss (gd hG rfl) (gd hG rfl)) ?_
  refine l_v (v_or rfl rfl) ?_
  refine l_v (zmB rfl) (l_g1 rfl rfl (fun hG => v_fieldAddr (off := 0) (ft := 24) zk rfl) ?_)
  refine l_g1 rfl rfl (fun hG => v_fieldAddr (off := 0) (ft := 2) zk (gd hG rfl)) ?_
  refine l_g1 rfl rfl (fun hG => v_load zk (gd hG rfl) (by first | exact HB5.pv 0 _ rfl | exact HPq 0 _ rfl | exact HB3.pv 0 _ rfl | assumption)) ?_
  refine l_g1 rfl rfl (fun hG => v_fieldAddr (off := 0) (ft := 24) zk rfl) ?_
  refine l_g1 rfl rfl (fun hG => v_fieldAddr (off := 0) (ft := 2) zk (gd hG rfl)) ?_
  refine l_g1 rfl rfl (fun hG => v_load zk (gd hG rfl) (by first | exact HB5.pv 0 _ rfl | exact HPq 0 _ rfl | exact HB3.pv 0 _ rfl | assumption)) ?_
  refine l_g1 rfl rfl (fun hG => v_add (gd hG rfl) rfl (by first | exact wr_i64 zo zo | rfl)) ?_
  refine l_g1 rfl rfl (fun hG => v_gtr (gd hG rfl) (gd hG rfl)) ?_
  refine l_v (v_or rfl rfl) ?_
  refine l_v (zmB rfl) (l_g1 rfl rfl (fun hG => v_fieldAddr (off := 2) (ft := 2) zk rfl) ?_)
  refine l_g1 rfl rfl (fun hG => v_load zk (gd hG rfl) (by first | exact HB5.pv 2 _ rfl | exact HPq 2 _ rfl | exact pv_1 HPq | exact HB3.pv 2 _ rfl | assumption)) ?_
  refine l_g1 rfl rfl (fun hG => v_fieldAddr (off := 2) (ft := 2) zk rfl) ?_
  refine l_g1 rfl rfl (fun hG => v_load zk (gd hG rfl) (by first | exact HB5.pv 2 _ rfl | exact HPq 2 _ rfl | exact pv_1 HPq | exact HB3.pv 2 _ rfl | assumption)) ?_
  refine l_g1 rfl rfl (fun hG => v_add (gd hG rfl) rfl (by first | exact wr_i64 zo zo | rfl)) ?_
  refine l_g1 rfl rfl (fun hG => v_gtr (gd hG rfl) (gd hG rfl)) ?_
  refine l_v (v_or rfl rfl) ?_
  replace E := E.trans e106.keep
  replace HSl := HSl.ext e106
  replace HG0 := HG0.ext e106
  replace HGs := HGs.ext e106
  replace EL1 := EL1.trans e106.keep
  replace HGc := HGc.ext e106
  replace HSsm := HSsm.ext e106
  replace HGn := HGn.ext e106
  replace HSnr := HSnr.ext e106
  replace HSnm := HSnm.ext e106
  refine l_nil (n_then (c_cond rfl rfl (fun h69 => ?_) (fun h69 => ?_)))
  ·
   rw [k1] at h69; (try rw [hwe] at h69); (try rw [hwn] at h69); simp at h69; omega
  refine c_skip (n_then (c_seq (c_seq (wp_reg zd (l_v (v_assign rfl) (l_nil (n_then (c_block (c_loop (τ := Nat) [2, 7, 8, 9, 10, 70, 71, 72, 73, 74, 75, 76, 77, 78, 79, 80, 81, 82, 83, 84, 85, 86, 87, 88, 89, 90, 91, 92, 93, 94, 95, 96, 97, 98, 99, 100, 101, 102, 103, 104, 105, 106, 107, 108, 109, 110, 111, 112, 113, 114, 115, 116, 117, 118, 119, 120, 121, 122, 123, 124, 125, 126, 127, 128, 129, 130] (fun kk => [(7, .int .i64 kk)]) (fun kk W => Ext w W ∧ Keep (NoK) w106 W ∧ kk ≤ s.2.2.length) (fun kk => s.2.2.length - kk) 0 (by exact ⟨rfl, trivial⟩) (by exact ⟨E, Keep.refl _, Nat.zero_le _⟩) ?_)))))))))
  rintro kk w107 j ⟨E, EL2, h5⟩
  have := EL2.size
  replace HB3 := HB3.ext EL2
  replace HPq := HPq.ext EL2
  replace HB5 := HB5.ext EL2
  refine c_seq (c_seq (wp_reg zd (l_v (zmI rfl) (l_v (v_fieldAddr (off := 3) (ft := 25) zk rfl) (l_v (v_load zk rfl (by first | exact HB5.pv 3 _ rfl | exact HPq 3 _ rfl | exact pv_1 HPq | exact HB3.pv 3 _ rfl | assumption)) ?_)))))
  refine l_v (v_len (et := 54) zk rfl) ?_
  refine l_v (v_lss rfl rfl) ?_
  replace HSl := HSl.ext EL2
  replace HG0 := HG0.ext EL2
  replace HGs := HGs.ext EL2
  replace EL1 := EL1.trans EL2.keep
  replace HGc := HGc.ext EL2
  replace HSsm := HSsm.ext EL2
  replace HGn := HGn.ext EL2
  replace HSnr := HSnr.ext EL2
  replace HSnm := HSnm.ext EL2
  refine l_nil (n_then (c_cond rfl rfl (fun hl2 => ?_) (fun hl2 => ?_)))
  ·
   have hl2 := dtrue hl2
   obtain ⟨x, hxx, _⟩ := getE (l := s.2.2) (i := kk) zo
   obtain ⟨qx, csx, hqx, hFx, _, HPx, hrx⟩ := HSsm.el hxx
   subst hqx
   have HGxa : AgV tMa _ _ _ x := ⟨csx, rfl, hrx⟩
   obtain ⟨y1, z1, y2, z2, rfl, _⟩ := tMa_cells hrx
   have HGx := AgV.maMv HGxa
   refine c_skip (n_then (c_seq (c_block (c_seq (wp_reg zd (l_v (v_fieldAddr (off := 3) (ft := 25) zk rfl) (l_v (v_load zk rfl (by first | exact HPx 3 _ rfl | exact pv_1 HPx | exact HB5.pv 3 _ rfl | exact HPq 3 _ rfl | exact pv_1 HPq | exact HB3.pv 3 _ rfl | assumption)) ?_)))))))
   refine l_v (zmI rfl) (l_v (v_indexAddr (et := 54) (sz := 7) (k := kk) zk zk rfl rfl (by first | rfl | omega) zo) ?_)
   refine l_v (v_fieldAddr (off := 0) (ft := 39) zk rfl) (l_v (v_loadA zk rfl (by first | exact (show Pv _ _ [_, _, _, _, _, _] from pv_sub 0 6 HPx) | exact (show Pv _ _ [_, _, _, _, _, _] from pv_sub 0 6 HB5.pv) | exact (show Pv _ _ [_, _, _, _, _, _] from pv_sub 0 6 HPq) | exact (show Pv _ _ [_, _, _, _, _, _] from pv_sub 0 6 HB3.pv) | exact pv_at 0 HPx | exact pv_at 0 HB5.pv | exact pv_at 0 HPq | exact pv_at 0 HB3.pv | exact HPx | exact HPq | assumption) rfl) ?_)
   refine l_to (to_alloc (z := (.agg #[.int .i64 0, .slice none 0 0, .slice none 0 0, .bool false, .int .i64 0, .int .i64 0])) (by unfold kZero; kernel_rfl) ?_)
   rintro b8 w8 zb8 HB8 e8 z8
   have := e8.size
   try simp only [Value.cells] at HB8
   refine l_to (to_storeA (n := 6) rfl rfl (zvA rfl) zk rfl dj6 HB8 dj5 ?_)
   rintro w108 HX108 k108 z108
   have := k108.size
   replace HB8 := HX108
   clear HX108
   try simp only [zS, Nat.zero_add, Nat.reduceAdd, List.drop_nil] at HB8
   refine l_nil (n_then (c_seq (wp_reg zd (l_v (v_assign rfl) (l_nil (n_then (c_seq (c_seq (wp_reg zd ?_)))))))))
   replace E := (E.trans e8.keep).step k108 dj3
   refine l_v (v_assign rfl) (l_nil (n_then (c_block (c_loop (τ := Nat × Bool) [9, 10, 83, 84, 85, 86, 87, 88, 89, 90, 91, 92, 93, 94, 95, 96, 97, 98, 99, 100] (fun (p, hb) => [(9, .bool hb), (10, .int .i64 p)]) (fun (p, hb) W => Ext w W ∧ Keep (NoK) w108 W ∧ p ≤ s'.2.2.length ∧ hb = (s'.2.2.take p).any (fun y => decide (y.1 = x.1))) (fun (p, hb) => s'.2.2.length - p) (0, false) (by exact ⟨rfl, rfl, trivial⟩) (by exact ⟨E, Keep.refl _, Nat.zero_le _, rfl⟩) ?_))))
   rintro ⟨p, hb⟩ w109 j ⟨E, EL3, h6, h7⟩
   have := EL3.size
   replace HB3 := ((HB3.ext e8).keep k108 dj4).ext EL3
   replace HPq := ((HPq.ext e8).keep k108 (by intro h; (try dsimp only at h); (try simp only [add_block] at h); first | omega)).ext EL3
   replace HB5 := ((HB5.ext e8).keep k108 dj4).ext EL3
   replace HPx := ((HPx.ext e8).keep k108 (by intro h; (try dsimp only at h); (try simp only [add_block] at h); first | omega)).ext EL3
   replace HB8 := HB8.ext EL3
   refine c_seq (c_seq (wp_reg zd (l_v (zmI rfl) (l_v (v_fieldAddr (off := 3) (ft := 25) zk rfl) (l_v (v_load zk rfl (by first | exact HB8.pv 3 _ rfl | exact HPx 3 _ rfl | exact pv_1 HPx | exact HB5.pv 3 _ rfl | exact HPq 3 _ rfl | exact pv_1 HPq | exact HB3.pv 3 _ rfl | assumption)) ?_)))))
   refine l_v (v_len (et := 54) zk rfl) ?_
   refine l_v (v_lss rfl rfl) ?_
   replace HSl := ((HSl.ext e8).keep k108 dj1).ext EL3
   replace HG0 := ((HG0.ext e8).keep k108 dj1).ext EL3
   replace HGs := ((HGs.ext e8).keep k108 dj1).ext EL3
   replace EL1 := ((EL1.trans e8.keep).step k108 dj3).trans EL3.keep
   replace HGc := ((HGc.ext e8).keep k108 dj1).ext EL3
   replace HSsm := ((HSsm.ext e8).keep k108 dj1).ext EL3
   replace HGn := ((HGn.ext e8).keep k108 dj1).ext EL3
   replace HSnr := ((HSnr.ext e8).keep k108 dj1).ext EL3
   replace HSnm := ((HSnm.ext e8).keep k108 dj1).ext EL3
   replace EL2 := ((EL2.trans e8.keep).step k108 dj3).trans EL3.keep
   replace HGx := ((HGx.ext e8).keep k108 dj1).ext EL3
   refine l_nil (n_then (c_cond rfl rfl (fun hl3 => ?_) (fun hl3 => ?_)))
   ·
    have hl3 := dtrue hl3
    obtain ⟨y, hyy, _⟩ := getE (l := s'.2.2) (i := p) zo
    obtain ⟨qy, csy, hqy, hFy, _, HPy, hry⟩ := HSnm.el hyy
    subst hqy
    have HGya : AgV tMa _ _ _ y := ⟨csy, rfl, hry⟩
    obtain ⟨y3, z3, y4, z4, rfl, _⟩ := tMa_cells hry
    have HGy := AgV.maMv HGya
    refine c_skip (n_then (c_seq (c_block (wp_regd (NoK) zk zd zd ?_))))
    refine rt_v (fun vals w hR hd => zmB rfl) ?_
    refine rt_v (fun vals w hR hd => v_move (t := .bool _) (hd 0 rfl)) ?_
    refine rt_g1 rfl (fun vals w hd => hd 1 rfl) (fun vals w hR hd hG => v_fieldAddr (off := 3) (ft := 25) zk rfl) ?_
    refine rt_g1 rfl (fun vals w hd => hd 1 rfl) (fun vals w hR hd hG => v_load zk (gd hG (hd 2 rfl)) (by first | exact (HPy.ext hR) 3 _ rfl | exact pv_1 (HPy.ext hR) | exact (HB8.ext hR).pv 3 _ rfl | exact (HPx.ext hR) 3 _ rfl | exact pv_1 (HPx.ext hR) | exact (HB5.ext hR).pv 3 _ rfl | exact (HPq.ext hR) 3 _ rfl | exact pv_1 (HPq.ext hR) | exact (HB3.ext hR).pv 3 _ rfl | assumption)) ?_
    refine rt_g1 rfl (fun vals w hd => hd 1 rfl) (fun vals w hR hd hG => zmI rfl) ?_
    refine rt_g1 rfl (fun vals w hd => hd 1 rfl) (fun vals w hR hd hG => v_indexAddr (et := 54) (sz := 7) (k := p) zk zk (gd hG (hd 3 rfl)) (gd hG (hd 4 rfl)) (by first | rfl | omega) zo) ?_
    refine rt_g1 rfl (fun vals w hd => hd 1 rfl) (fun vals w hR hd hG => v_fieldAddr (off := 0) (ft := 39) zk (gd hG (hd 5 rfl))) ?_
    refine rt_g1 rfl (fun vals w hd => hd 1 rfl) (fun vals w hR hd hG => v_loadA zk (gd hG (hd 6 rfl)) (by first | exact (show Pv _ _ [_, _, _, _, _, _] from pv_sub 0 6 (HPy.ext hR)) | exact (show Pv _ _ [_, _, _, _, _, _] from pv_sub 0 6 (HB8.ext hR).pv) | exact (show Pv _ _ [_, _, _, _, _, _] from pv_sub 0 6 (HPx.ext hR)) | exact (show Pv _ _ [_, _, _, _, _, _] from pv_sub 0 6 (HB5.ext hR).pv) | exact (show Pv _ _ [_, _, _, _, _, _] from pv_sub 0 6 (HPq.ext hR)) | exact (show Pv _ _ [_, _, _, _, _, _] from pv_sub 0 6 (HB3.ext hR).pv) | exact pv_at 0 (HPy.ext hR) | exact pv_at 0 (HB8.ext hR).pv | exact pv_at 0 (HPx.ext hR) | exact pv_at 0 (HB5.ext hR).pv | exact pv_at 0 (HPq.ext hR) | exact pv_at 0 (HB3.ext hR).pv | exact (HPy.ext hR) | exact (HPx.ext hR) | exact (HPq.ext hR) | assumption) rfl) ?_
    refine rt_g1 rfl (fun vals w hd => hd 1 rfl) (fun vals w hR hd hG => v_loadA zk rfl (by first | exact (HPy.ext hR) | exact (HB8.ext hR).pv | exact (HPx.ext hR) | exact (HB5.ext hR).pv | exact (HPq.ext hR) | exact (HB3.ext hR).pv | assumption) rfl) ?_
    refine rt_g1f rfl (fun vals w hd => hd 1 rfl) (fun vals w hR hd hG => to_f2 zk (gd hG (hd 7 rfl)) (gd hG (hd 8 rfl)) (rSameMove_c (HGy.ext hR) (HGx.ext hR))) ?_
    refine rt_v (fun vals w hR hd => v_or (hd 1 rfl) (hd 9 rfl)) ?_
    refine rt_v (fun vals w hR hd => v_assign (t := .bool _) (hd 10 rfl)) ?_
    refine rt_nil (fun w110 e110 => ?_)
    rintro _ rfl _ rfl _ rfl _ rfl _ rfl _ rfl _ rfl _ rfl _ rfl _ rfl _ rfl _ rfl
    have := e110.size
    refine fin_nil (n_blk (n_then (wp_reg zd (l_v (zmI rfl) (l_v (v_add rfl rfl (by first | exact wr_i64 zo zo | rfl)) ?_)))))
    replace E := E.trans e110.keep
    replace HSl := HSl.ext e110
    replace HG0 := HG0.ext e110
    replace HB3 := HB3.ext e110
    replace HGs := HGs.ext e110
    replace EL1 := EL1.trans e110.keep
    replace HPq := HPq.ext e110
    replace HGc := HGc.ext e110
    replace HSsm := HSsm.ext e110
    replace HB5 := HB5.ext e110
    replace HGn := HGn.ext e110
    replace HSnr := HSnr.ext e110
    replace HSnm := HSnm.ext e110
    replace EL2 := EL2.trans e110.keep
    replace HPx := HPx.ext e110
    replace HGx := HGx.ext e110
    replace HB8 := HB8.ext e110
    replace EL3 := EL3.trans e110.keep
    replace HPy := HPy.ext e110
    replace HGy := HGy.ext e110
    refine l_v (zaI rfl) (l_nil (n_then (⟨(p + 1, hb || decide (y.1 = x.1)), _, rfl, by (repeat (first | exact Off.of_over _ _ _ | refine Off.upd ?_ zq _ | refine Off.overs ?_ zq _)), ⟨by first | rfl | exact congrArg (Value.int _) zo | (simp; done), by first | rfl | exact congrArg (Value.int _) zo | (simp; done), trivial⟩, ⟨E, EL3, ?_⟩, ?_⟩)))
    ·
     exact ⟨by omega, by rw [List.take_add_one, hyy, List.any_append, h7]; simp⟩
    (dsimp only; omega)
   have hbe : hb = s'.2.2.any (fun y => decide (y.1 = x.1)) := by rw [h7, List.take_of_length_le (by have := dfalse hl3; omega)]
   refine c_exit (x_then (x_then (x_hit (n_then (c_seq (wp_regd (NoK) zk zd zd ?_))))))
   refine rt_v (fun vals w hR hd => zmB rfl) ?_
   refine rt_v (fun vals w hR hd => v_not (hd 0 rfl)) ?_
   refine rt_v (fun vals w hR hd => v_move (t := .bool _) (hd 1 rfl)) ?_
   refine rt_g1 rfl (fun vals w hd => hd 2 rfl) (fun vals w hR hd hG => zmS rfl) ?_
   refine rt_g1 rfl (fun vals w hd => hd 2 rfl) (fun vals w hR hd hG => zmI rfl) ?_
   refine rt_g1 rfl (fun vals w hd => hd 2 rfl) (fun vals w hR hd hG => v_indexAddr (et := 42) (sz := 20) (k := i) zk zk (gd hG (hd 3 rfl)) (gd hG (hd 4 rfl)) (by first | rfl | omega) zo) ?_
   refine rt_g1 rfl (fun vals w hd => hd 2 rfl) (fun vals w hR hd hG => v_fieldAddr (off := 0) (ft := 31) zk (gd hG (hd 5 rfl))) ?_
   refine rt_g1 rfl (fun vals w hd => hd 2 rfl) (fun vals w hR hd hG => v_load zk (gd hG (hd 6 rfl)) (by first | exact (HB8.ext hR).pv 0 _ rfl | exact (HPx.ext hR) 0 _ rfl | exact (HB5.ext hR).pv 0 _ rfl | exact (HPq.ext hR) 0 _ rfl | exact (HB3.ext hR).pv 0 _ rfl | assumption)) ?_
   refine rt_g1 rfl (fun vals w hd => hd 2 rfl) (fun vals w hR hd hG => v_neq (gd hG (hd 7 rfl)) rfl) ?_
   refine rt_g1 rfl (fun vals w hd => hd 2 rfl) (fun vals w hR hd hG => v_move (t := .bool _) (gd hG (hd 8 rfl))) ?_
   refine rt_g2 rfl (fun vals w hd => hd 9 rfl) (fun vals w hR hd hG => v_fieldAddr (off := 3) (ft := 25) zk rfl) ?_
   refine rt_g2 rfl (fun vals w hd => hd 9 rfl) (fun vals w hR hd hG => v_load zk (gd hG (hd 10 rfl)) (by first | exact (HB8.ext hR).pv 3 _ rfl | exact (HPx.ext hR) 3 _ rfl | exact pv_1 (HPx.ext hR) | exact (HB5.ext hR).pv 3 _ rfl | exact (HPq.ext hR) 3 _ rfl | exact pv_1 (HPq.ext hR) | exact (HB3.ext hR).pv 3 _ rfl | assumption)) ?_
   refine rt_g2 rfl (fun vals w hd => hd 9 rfl) (fun vals w hR hd hG => zmI rfl) ?_
   refine rt_g2 rfl (fun vals w hd => hd 9 rfl) (fun vals w hR hd hG => v_indexAddr (et := 54) (sz := 7) (k := kk) zk zk (gd hG (hd 11 rfl)) (gd hG (hd 12 rfl)) (by first | rfl | omega) zo) ?_
   refine rt_g2 rfl (fun vals w hd => hd 9 rfl) (fun vals w hR hd hG => v_fieldAddr (off := 6) (ft := 4) zk (gd hG (hd 13 rfl))) ?_
   refine rt_g2 rfl (fun vals w hd => hd 9 rfl) (fun vals w hR hd hG => v_load zk (gd hG (hd 14 rfl)) (by first | exact (HB8.ext hR).pv 6 _ rfl | exact (HPx.ext hR) 6 _ rfl | exact pv_1 (HPx.ext hR) | exact (HB5.ext hR).pv 6 _ rfl | exact (HPq.ext hR) 6 _ rfl | exact pv_1 (HPq.ext hR) | exact (HB3.ext hR).pv 6 _ rfl | assumption)) ?_
   refine rt_g2 rfl (fun vals w hd => hd 9 rfl) (fun vals w hR hd hG => v_not (gd hG (hd 15 rfl))) ?_
   refine rt_g1 rfl (fun vals w hd => hd 2 rfl) (fun vals w hR hd hG => v_or (gd hG (hd 9 rfl)) (gda hG (hd 16 rfl))) ?_
   refine rt_g1 rfl (fun vals w hd => hd 2 rfl) (fun vals w hR hd hG => v_move (t := .bool _) (gd hG (hd 17 rfl))) ?_
   refine rt_g2 rfl (fun vals w hd => hd 18 rfl) (fun vals w hR hd hG => zmS rfl) ?_
   refine rt_g2 rfl (fun vals w hd => hd 18 rfl) (fun vals w hR hd hG => zmI rfl) ?_
   refine rt_g2 rfl (fun vals w hd => hd 18 rfl) (fun vals w hR hd hG => v_indexAddr (et := 42) (sz := 20) (k := i) zk zk (gd hG (hd 19 rfl)) (gd hG (hd 20 rfl)) (by first | rfl | omega) zo) ?_
   refine rt_g2 rfl (fun vals w hd => hd 18 rfl) (fun vals w hR hd hG => v_fieldAddr (off := 10) (ft := 39) zk (gd hG (hd 21 rfl))) ?_
   refine rt_g2 rfl (fun vals w hd => hd 18 rfl) (fun vals w hR hd hG => v_fieldAddr (off := 0) (ft := 2) zk (gd hG (hd 22 rfl))) ?_
   refine rt_g2 rfl (fun vals w hd => hd 18 rfl) (fun vals w hR hd hG => v_load zk (gd hG (hd 23 rfl)) (by first | exact (HB8.ext hR).pv 10 _ rfl | exact (HPx.ext hR) 10 _ rfl | exact pv_1 (HPx.ext hR) | exact (HB5.ext hR).pv 10 _ rfl | exact (HPq.ext hR) 10 _ rfl | exact pv_1 (HPq.ext hR) | exact (HB3.ext hR).pv 10 _ rfl | exact (HB8.ext hR).pv 0 _ rfl | exact (HPx.ext hR) 0 _ rfl | exact (HB5.ext hR).pv 0 _ rfl | exact (HPq.ext hR) 0 _ rfl | exact (HB3.ext hR).pv 0 _ rfl | assumption)) ?_
   refine rt_g2 rfl (fun vals w hd => hd 18 rfl) (fun vals w hR hd hG => v_fieldAddr (off := 0) (ft := 2) zk rfl) ?_
   refine rt_g2 rfl (fun vals w hd => hd 18 rfl) (fun vals w hR hd hG => v_load zk (gd hG (hd 25 rfl)) (by first | exact (HB8.ext hR).pv 0 _ rfl | exact (HPx.ext hR) 0 _ rfl | exact (HB5.ext hR).pv 0 _ rfl | exact (HPq.ext hR) 0 _ rfl | exact (HB3.ext hR).pv 0 _ rfl | assumption)) ?_
   refine rt_g2 rfl (fun vals w hd => hd 18 rfl) (fun vals w hR hd hG => v_neq (gd hG (hd 24 rfl)) (gd hG (hd 26 rfl))) ?_
   refine rt_g1 rfl (fun vals w hd => hd 2 rfl) (fun vals w hR hd hG => v_or (gd hG (hd 18 rfl)) (gda hG (hd 27 rfl))) ?_
   refine rt_v (fun vals w hR hd => v_and (hd 2 rfl) (hd 28 rfl)) ?_
   refine rt_nil (fun w111 e111 => ?_)
   rintro _ rfl _ rfl _ rfl _ rfl _ rfl _ rfl _ rfl _ rfl _ rfl _ rfl _ rfl _ rfl _ rfl _ rfl _ rfl _ rfl _ rfl _ rfl _ rfl _ rfl _ rfl _ rfl _ rfl _ rfl _ rfl _ rfl _ rfl _ rfl _ rfl _ rfl
   have := e111.size
   replace E := E.trans e111.keep
   replace HSl := HSl.ext e111
   replace HG0 := HG0.ext e111
   replace HB3 := HB3.ext e111
   replace HGs := HGs.ext e111
   replace EL1 := EL1.trans e111.keep
   replace HPq := HPq.ext e111
   replace HGc := HGc.ext e111
   replace HSsm := HSsm.ext e111
   replace HB5 := HB5.ext e111
   replace HGn := HGn.ext e111
   replace HSnr := HSnr.ext e111
   replace HSnm := HSnm.ext e111
   replace EL2 := EL2.trans e111.keep
   replace HPx := HPx.ext e111
   replace HGx := HGx.ext e111
   replace HB8 := HB8.ext e111
   refine fin_nil (n_then (c_cond rfl rfl (fun h130 => ?_) (fun h130 => ?_)))
   ·
    rcases k6 x (List.mem_of_getElem? hxx) with ⟨y, hy1, hy2⟩ | ⟨g1, g2, g3⟩; (have hb1 : hb = true := (by rw [hbe, List.any_eq_true]; exact ⟨y, hy1, by simp [hy2]⟩)); (rw [hb1] at h130; simp at h130); (simp only at g1 g3; rw [g1, g2, g3] at h130; simp at h130)
   refine c_skip (n_blk (n_then (wp_reg zd (l_v (zmI rfl) (l_v (v_add rfl rfl (by first | exact wr_i64 zo zo | rfl)) ?_)))))
   refine l_v (zaI rfl) (l_nil (n_then (⟨kk + 1, _, rfl, by (repeat (first | exact Off.of_over _ _ _ | refine Off.upd ?_ zq _ | refine Off.overs ?_ zq _)), ⟨by first | rfl | exact congrArg (Value.int _) zo | (simp; done), trivial⟩, ⟨E, EL2, ?_⟩, ?_⟩)))
   ·
    exact by omega
   (dsimp only; omega)
  refine c_exit (x_then (x_then (x_hit (n_then (wp_reg zd (l_v (v_loadA zk rfl (by first | exact HB5.pv | exact HPq | exact HB3.pv | assumption) rfl) ?_))))))
  refine l_to (to_storeA (n := 4) rfl rfl (zvA rfl) zk rfl dj6 HB3 dj5 ?_)
  rintro w112 HX112 k112 z112
  have := k112.size
  replace HB3 := HX112
  clear HX112
  try simp only [zS, Nat.zero_add, Nat.reduceAdd, List.drop_nil] at HB3
  refine l_nil (n_blk (n_then (wp_reg zd (l_v (zmI rfl) (l_v (v_add rfl rfl (by first | exact wr_i64 zo zo | rfl)) ?_)))))
  replace E := E.step k112 dj3
  replace HSl := HSl.keep k112 dj1
  replace HG0 := HG0.keep k112 dj1
  replace HGs := HGs.keep k112 dj1
  replace EL1 := EL1.step k112 dj3
  replace HPq := HPq.keep k112 (by intro h; (try dsimp only at h); (try simp only [add_block] at h); first | omega)
  replace HGc := HGc.keep k112 dj1
  replace HSsm := HSsm.keep k112 dj1
  replace HB5 := HB5.keep k112 dj4
  replace HGn := HGn.keep k112 dj1
  replace HSnr := HSnr.keep k112 dj1
  replace HSnm := HSnm.keep k112 dj1
  refine l_v (zaI rfl) (l_nil (n_then (⟨(i + 1, s', a5, c5, a6, c6), _, rfl, by (repeat (first | exact Off.of_over _ _ _ | refine Off.upd ?_ zq _ | refine Off.overs ?_ zq _)), ⟨by first | rfl | exact congrArg (Value.int _) zo | (simp; done), trivial⟩, ⟨E, EL1, ?_⟩, ?_⟩)))
  ·
   exact ⟨by omega, by omega, HB3, HGn.mono fun q hq h => ⟨by omega, hq⟩⟩
  (dsimp only; omega)
 refine c_exit (x_then (x_then (x_hit (n_then (c_seq (wp_reg zd (l_to (to_f0 zk (CallsR.mono (known20_c) ?_)))))))))
 rintro _ w113 ⟨rfl, e113⟩
 have := e113.size
 refine l_v (zaB rfl) (l_nil (n_then (c_ret (ret1v rfl zq (zvB rfl) ?_))))
 replace E := E.trans e113.keep
 exact ⟨rfl, E⟩
end Go.Proofs.Yteehplloacefmaa
