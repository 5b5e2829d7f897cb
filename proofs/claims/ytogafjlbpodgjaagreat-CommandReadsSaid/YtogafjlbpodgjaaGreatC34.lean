/- A part of the proof: steps and lemmas for the walks through the given program. -/
import Derived.Test.YtogafjlbpodgjaaGreatC33
import Derived.Test.YtogafjlbpodgjaaGreatC28
namespace Go.Proofs.YtogafjlbpodgjaaGreat
open Go.Vc
set_option linter.unusedVariables false
set_option linter.unusedSimpArgs false
set_option maxRecDepth 100000

set_option maxHeartbeats 16000000 in
theorem refCRead_c {w : World} {G : Nat → Prop} {v : Value} {l : List UInt8} (HS1 : Bv w G v l) (hl : l.length ≤ 1000000) : CallsR Tryz.prog 12 #[v] w (fun o w' => (∃ u c e, o = .tuple #[u, .int .i64 e] ∧ AgV tCm w' (fun i => w.heap.size ≤ i) u c ∧ ((e = 0 ∧ rdAll l = some c) ∨ (e = 4 ∧ c = cmZ ∧ rdAll l = none))) ∧ Ext w w') := by
 obtain ⟨a0, c0, rfl⟩ := HS1.shape
 refine enter 111 Tryz.func12 rfl rfl (by simp) ?_
 refine c_seq ?_
 have E := Keep.refl (K := NoK) w
 replace HS1 := HS1.all
 refine wp_reg zd (l_to (to_alloc (z := (.agg #[.int .i64 0, .int .i64 0, .int .i64 0, .int .i64 0, .slice none 0 0, .slice none 0 0, .slice none 0 0, .slice none 0 0, .bool false, .int .i64 0, .int .i64 0, .slice none 0 0, .slice none 0 0, .bool false, .int .i64 0, .int .i64 0, .slice none 0 0, .slice none 0 0, .slice none 0 0, .int .i64 0])) (by unfold kZero; kernel_rfl) ?_))
 rintro b2 w2 zb2 HB2 e2 z2
 have := e2.size
 try simp only [Value.cells] at HB2
 refine l_v (v_assign rfl) (l_nil (n_then (c_seq (wp_reg zd (l_v (zmS rfl) (l_v (v_build (pl := [(0, 1)]) (z := .agg #[.slice none 0 0]) (zl := [.slice none 0 0]) zk (by unfold kZero; kernel_rfl) rfl rfl (cells := [_]) rfl) ?_))))))
 refine l_to (to_box (zvA rfl) ?_)
 rintro b10 w10 zb10 HB10 e10 z10
 have := e10.size
 try simp only [Value.cells] at HB10
 obtain ⟨F, hFe⟩ : ∃ F : Nat → Prop, F = (fun k => k < w.heap.size) := ⟨_, rfl⟩
 replace HS1 := (HS1.ext e2).ext e10
 have HR10 : Rf _ b10 F l := ⟨_, HB10, by rw [hFe]; exact HS1⟩
 have hF : ∀ k, F k → k < b10 := fun k h => by rw [hFe] at h; omega
 refine l_v (v_build (pl := [(0, 1), (1, 1)]) (z := .agg #[.pointer none, .bool false]) (zl := [.pointer none, .bool false]) zk (by unfold kZero; kernel_rfl) rfl rfl (cells := [_, _]) rfl) ?_
 refine l_to (to_box (zvA rfl) ?_)
 rintro bx w12 zb12 HB1 e12 z12
 have := e12.size
 try simp only [Value.cells] at HB1
 have hx : b10 < bx := by omega
 obtain ⟨rb, hrb⟩ : ∃ r, r = b10 := ⟨_, rfl⟩
 replace HR10 := HR10.ext e12
 rw [← hrb] at HB1 HR10 hF hx
 have hl0 : (l, true).1.length ≤ 1000000 := hl
 refine l_v (zaP rfl) (l_nil (n_then (c_seq (wp_reg zd (l_v (zmP rfl) (l_to (to_f2 zk (zvP rfl) (zvI rfl) (CallsR.mono (refnum_c (most := 99) HB1 HR10 hF hx zq) ?_))))))))
 rintro _ w14 ⟨rfl, ⟨HB1, HR14⟩, k14⟩
 have := k14.size
 replace HR14 : Rf w14 rb F (qS 99 (l, true)).1 := HR14
 replace HB1 : Blk w14 bx [.pointer (some ⟨rb, 0, none⟩), .bool (qS 99 (l, true)).2] 81 := HB1
 have hl14 : (qS 99 (l, true)).1.length ≤ _ := qS_le 99 (l, true)
 try dsimp only at hl14
 refine l_v (v_build (pl := [(0, 1), (1, 9), (10, 6), (16, 1), (17, 1), (18, 1), (19, 1)]) (z := .agg #[.int .i64 0, .int .i64 0, .int .i64 0, .int .i64 0, .slice none 0 0, .slice none 0 0, .slice none 0 0, .slice none 0 0, .bool false, .int .i64 0, .int .i64 0, .slice none 0 0, .slice none 0 0, .bool false, .int .i64 0, .int .i64 0, .slice none 0 0, .slice none 0 0, .slice none 0 0, .int .i64 0]) (zl := [.int .i64 0, .int .i64 0, .int .i64 0, .int .i64 0, .slice none 0 0, .slice none 0 0, .slice none 0 0, .slice none 0 0, .bool false, .int .i64 0, .int .i64 0, .slice none 0 0, .slice none 0 0, .bool false, .int .i64 0, .int .i64 0, .slice none 0 0, .slice none 0 0, .slice none 0 0, .int .i64 0]) zk (by unfold kZero; kernel_rfl) rfl rfl (cells := [_, _, _, _, _, _, _, _, _, _, _, _, _, _, _, _, _, _, _, _]) rfl) ?_
 refine l_to (to_alloc (z := (.agg #[.int .i64 0, .int .i64 0, .int .i64 0, .int .i64 0, .slice none 0 0, .slice none 0 0, .slice none 0 0, .slice none 0 0, .bool false, .int .i64 0, .int .i64 0, .slice none 0 0, .slice none 0 0, .bool false, .int .i64 0, .int .i64 0, .slice none 0 0, .slice none 0 0, .slice none 0 0, .int .i64 0])) (by unfold kZero; kernel_rfl) ?_)
 rintro b5 w15 zb5 HB5 e15 z15
 have := e15.size
 try simp only [Value.cells] at HB5
 refine l_to (to_storeA (n := 20) rfl rfl (zvA rfl) zk rfl (by first | (simp [slice_one]; done) | (simp only [List.forall_mem_cons, List.cons_append, List.nil_append]; repeat' (first | exact rfl | apply And.intro | (intro u hu; cases hu; done)))) HB5 dj5 ?_)
 rintro w16 HB5 k16 z16
 have := k16.size
 try simp only [zS, Nat.zero_add, Nat.reduceAdd, List.drop_nil] at HB5
 refine l_nil (n_then ?_)
 replace HB1 := (HB1.ext e15).keep k16 dj4
 have zb1 := HB1.lt
 replace E := (((((E.trans e2.keep).trans e10.keep).trans e12.keep).step k14 dj3).trans e15.keep).step k16 dj3
 replace HB2 := ((((HB2.ext e10).ext e12).keep k14 dj4).ext e15).keep k16 dj4
 replace HS1 := (((HS1.ext e12).keep k14 dj1).ext e15).keep k16 dj1
 replace HR14 := (HR14.ext e15).keep k16 dj7 (by intro i hi he; have hi0 := hi; have hi := hi; have he := he; (try dsimp only [NoK] at hi he); first | exact he.elim | omega | (have := hF i hi0; omega))
 refine c_cut (fun a wc => ∃ e, a = FrD 111 e [] ∧ (∃ cs c lr ok, Holds [(0, .slice a0 l.length c0), (2, .pointer (some ⟨b2, 0, none⟩)), (3, .int .i64 0), (4, .pointer (some ⟨bx, 0, none⟩)), (5, .pointer (some ⟨b5, 0, none⟩))] e ∧ Keep NoK w wc ∧ Bv wc (fun k => k < w.heap.size) (.slice a0 l.length c0) l ∧ Blk wc b2 [.int .i64 0, .int .i64 0, .int .i64 0, .int .i64 0, .slice none 0 0, .slice none 0 0, .slice none 0 0, .slice none 0 0, .bool false, .int .i64 0, .int .i64 0, .slice none 0 0, .slice none 0 0, .bool false, .int .i64 0, .int .i64 0, .slice none 0 0, .slice none 0 0, .slice none 0 0, .int .i64 0] 33 ∧ Blk wc bx [.pointer (some ⟨rb, 0, none⟩), .bool ok] 81 ∧ Rf wc rb F lr ∧ Blk wc b5 cs 33 ∧ tCm.rep wc (fun i => b5 < i) cs c ∧ Bk l c (lr, ok))) ?_ ?_
 ·
  refine c_seq (wp_reg zd (l_v (v_fieldAddr (off := 0) (ft := 22) zk rfl) (l_v (v_load zk rfl (by first | exact HB5.pv 0 _ rfl | exact HB1.pv 0 _ rfl | exact HB2.pv 0 _ rfl | assumption)) ?_)))
  refine l_nil (n_then (c_block (c_seq (wp_reg zd (l_v (v_eql rfl rfl) ?_)))))
  refine l_v (zaB rfl) (l_nil (n_then (c_cond rfl rfl (fun h2 => ?_) (fun h2 => ?_))))
  ·
   have hk : qV l = 2 := dtrue h2
   refine c_seq (wp_reg zd (l_v (zmP rfl) (l_to (to_f2 zk (zvP rfl) (zvI rfl) (CallsR.mono (refnum_c (most := 4) HB1 HR14 hF hx zq) ?_)))))
   rintro _ w21 ⟨rfl, ⟨HB1, HR21⟩, k21⟩
   have := k21.size
   replace HR21 : Rf w21 rb F (qS 4 (qS 99 (l, true))).1 := HR21
   replace HB1 : Blk w21 bx [.pointer (some ⟨rb, 0, none⟩), .bool (qS 4 (qS 99 (l, true))).2] 81 := HB1
   have hl21 : (qS 4 (qS 99 (l, true))).1.length ≤ _ := qS_le 4 (qS 99 (l, true))
   try dsimp only at hl21
   replace HB5 := HB5.keep k21 dj4
   refine l_v (v_fieldAddr (off := 1) (ft := 28) zk rfl) (l_v (v_fieldAddr (off := 0) (ft := 3) zk rfl) (l_to (to_store (i := 1) rfl rfl (zvI rfl) rfl zk HB5 dj5 ?_)))
   rintro w101 HX101 k101 z101
   have := k101.size
   try simp only [add_block] at k101
   try simp only [add_block] at HX101
   replace HB5 := HX101
   clear HX101
   try simp only [zS, Nat.zero_add, Nat.reduceAdd, List.drop_nil] at HB5
   replace HB1 := HB1.keep k101 dj4
   replace HR21 := HR21.keep k101 dj7 (by intro i hi he; have hi0 := hi; have hi := hi; have he := he; (try dsimp only [NoK] at hi he); first | exact he.elim | omega | (have := hF i hi0; omega))
   refine l_nil (n_then (c_seq (wp_reg zd (l_v (zmP rfl) (l_to (to_f2 zk (zvP rfl) (zvI rfl) (CallsR.mono (refnum_c (most := 2147483647) HB1 HR21 hF hx zq) ?_)))))))
   replace HS1 := (HS1.keep k21 dj1).keep k101 dj1
   rintro _ w25 ⟨rfl, ⟨HB1, HR25⟩, k25⟩
   have := k25.size
   replace HR25 : Rf w25 rb F (qS 2147483647 (qS 4 (qS 99 (l, true)))).1 := HR25
   replace HB1 : Blk w25 bx [.pointer (some ⟨rb, 0, none⟩), .bool (qS 2147483647 (qS 4 (qS 99 (l, true)))).2] 81 := HB1
   have hl25 : (qS 2147483647 (qS 4 (qS 99 (l, true)))).1.length ≤ _ := qS_le 2147483647 (qS 4 (qS 99 (l, true)))
   try dsimp only at hl25
   replace HB5 := HB5.keep k25 dj4
   refine l_v (v_fieldAddr (off := 1) (ft := 28) zk rfl) (l_v (v_fieldAddr (off := 1) (ft := 2) zk rfl) (l_to (to_store (i := 2) rfl rfl (zvI rfl) rfl zk HB5 dj5 ?_)))
   rintro w102 HX102 k102 z102
   have := k102.size
   try simp only [add_block] at k102
   try simp only [add_block] at HX102
   replace HB5 := HX102
   clear HX102
   try simp only [zS, Nat.zero_add, Nat.reduceAdd, List.drop_nil] at HB5
   replace HB1 := HB1.keep k102 dj4
   replace HR25 := HR25.keep k102 dj7 (by intro i hi he; have hi0 := hi; have hi := hi; have he := he; (try dsimp only [NoK] at hi he); first | exact he.elim | omega | (have := hF i hi0; omega))
   refine l_nil (n_then (wp_reg zd (l_v (zmP rfl) (l_to (to_f1 zk (zvP rfl) (CallsR.mono (refrask_c HB1 HR25 hF hx zo) ?_))))))
   replace HS1 := (HS1.keep k25 dj1).keep k102 dj1
   rintro _ w29 ⟨HG29, ⟨HB1, HR29⟩, k29⟩
   have := k29.size
   replace HR29 : Rf w29 rb F (qAk (qS 2147483647 (qS 4 (qS 99 (l, true))))).2.1 := HR29
   replace HB1 : Blk w29 bx [.pointer (some ⟨rb, 0, none⟩), .bool (qAk (qS 2147483647 (qS 4 (qS 99 (l, true))))).2.2] 81 := HB1
   have hl29 : (qAk (qS 2147483647 (qS 4 (qS 99 (l, true))))).2.1.length ≤ _ := qAk_le (qS 2147483647 (qS 4 (qS 99 (l, true))))
   try dsimp only at hl29
   obtain ⟨ax1, ay1, ax2, ay2, ax3, ay3, ax4, ay4, hu29, _⟩ := HG29.ak
   subst hu29
   replace HB5 := HB5.keep k29 dj4
   refine l_v (v_fieldAddr (off := 1) (ft := 28) zk rfl) (l_v (v_fieldAddr (off := 2) (ft := 26) zk rfl) (l_to (to_storeA (n := 7) (i := 3) rfl rfl (zvA rfl) zk rfl dj6 HB5 dj5 ?_)))
   rintro w103 HX103 k103 z103
   have := k103.size
   try simp only [add_block] at k103
   try simp only [add_block] at HX103
   replace HB5 := HX103
   clear HX103
   try simp only [zS, Nat.zero_add, Nat.reduceAdd, List.drop_nil] at HB5
   refine l_nil (n_blk (n_then (⟨_, rfl, ?_⟩)))
   replace E := (((((E.step k21 dj3).step k101 dj3).step k25 dj3).step k102 dj3).step k29 dj3).step k103 dj3
   replace HB2 := (((((HB2.keep k21 dj4).keep k101 dj4).keep k25 dj4).keep k102 dj4).keep k29 dj4).keep k103 dj4
   replace HS1 := (HS1.keep k29 dj1).keep k103 dj1
   replace HB1 := HB1.keep k103 dj4
   replace HR29 := HR29.keep k103 dj7 (by intro i hi he; have hi0 := hi; have hi := hi; have he := he; (try dsimp only [NoK] at hi he); first | exact he.elim | omega | (have := hF i hi0; omega))
   refine ⟨_, (2, (qV (qS 99 (l, true)).1, qV (qS 4 (qS 99 (l, true))).1, (qAk (qS 2147483647 (qS 4 (qS 99 (l, true))))).1), mv0, [], [], [], 0), _, _, ⟨rfl, rfl, rfl, rfl, rfl, trivial⟩, E, HS1, HB2, HB1, HR29, HB5, ?_, bk2 hk⟩
   rw [hk]
   replace HG29 := HG29.keep k103 dj1
   exact tCm_mk ⟨by decide, by decide⟩ (AgV.mkRq (HG29.mono fun b _ h => by omega).rep (qV_wf _) (qV_wf _)).rep mv0_ag.rep (SlV.nil _ _ _) (SlV.nil _ _ _) (SlV.nil _ _ _) ⟨by decide, by decide⟩
  refine c_seq (c_seq (wp_reg zd (l_v (v_eql rfl rfl) ?_)))
  refine l_v (zaB rfl) (l_nil (n_then (c_cond rfl rfl (fun h3 => ?_) (fun h3 => ?_))))
  ·
   refine c_skip (n_then (c_cond rfl rfl (fun hx3 => ?_) (fun hx3 => ?_)))
   ·
    have hk : qV l = 3 := dtrue h3
    refine wp_reg zd (l_v (zmP rfl) (l_to (to_f1 zk (zvP rfl) (CallsR.mono (refrmove_c HB1 HR14 hF hx zo) ?_))))
    rintro _ w38 ⟨HG38, ⟨HB1, HR38⟩, k38⟩
    have := k38.size
    replace HR38 : Rf w38 rb F (qMv (qS 99 (l, true))).2.1 := HR38
    replace HB1 : Blk w38 bx [.pointer (some ⟨rb, 0, none⟩), .bool (qMv (qS 99 (l, true))).2.2] 81 := HB1
    have hl38 : (qMv (qS 99 (l, true))).2.1.length ≤ _ := qMv_le (qS 99 (l, true))
    try dsimp only at hl38
    obtain ⟨ax1, ay1, ax2, ay2, hu38, _⟩ := HG38.mv
    subst hu38
    replace HB5 := HB5.keep k38 dj4
    refine l_v (v_fieldAddr (off := 10) (ft := 30) zk rfl) (l_to (to_storeA (n := 6) rfl rfl (zvA rfl) zk rfl (by first | (simp [slice_one]; done) | (simp only [List.forall_mem_cons, List.cons_append, List.nil_append]; repeat' (first | exact rfl | apply And.intro | (intro u hu; cases hu; done)))) HB5 dj5 ?_))
    rintro w39 HB5 k39 z39
    have := k39.size
    try simp only [zS, Nat.zero_add, Nat.reduceAdd, List.drop_nil] at HB5
    refine l_nil (n_blk (n_then (⟨_, rfl, ?_⟩)))
    replace E := (E.step k38 dj3).step k39 dj3
    replace HS1 := (HS1.keep k38 dj1).keep k39 dj1
    replace HB2 := (HB2.keep k38 dj4).keep k39 dj4
    replace HB1 := HB1.keep k39 dj4
    replace HR38 := HR38.keep k39 dj7 (by intro i hi he; have hi0 := hi; have hi := hi; have he := he; (try dsimp only [NoK] at hi he); first | exact he.elim | omega | (have := hF i hi0; omega))
    refine ⟨_, (3, rq0, (qMv (qS 99 (l, true))).1, [], [], [], 0), _, _, ⟨rfl, rfl, rfl, rfl, rfl, trivial⟩, E, HS1, HB2, HB1, HR38, HB5, ?_, bkM hk zq⟩
    rw [hk]
    replace HG38 := HG38.keep k39 dj1
    exact tCm_mk ⟨by decide, by decide⟩ rq0_ag.rep (HG38.mono fun b _ h => by omega).rep (SlV.nil _ _ _) (SlV.nil _ _ _) (SlV.nil _ _ _) ⟨by decide, by decide⟩
   rw [h3] at hx3; cases hx3
  refine c_seq (wp_reg zd (l_v (v_eql rfl rfl) ?_))
  refine l_v (zaB rfl) (l_nil (n_then (c_cond rfl rfl (fun h5 => ?_) (fun h5 => ?_))))
  ·
   refine c_skip (n_then (c_cond rfl rfl (fun hx5 => ?_) (fun hx5 => ?_)))
   ·
    have hk : qV l = 5 := dtrue h5
    refine wp_reg zd (l_v (zmP rfl) (l_to (to_f1 zk (zvP rfl) (CallsR.mono (refrmove_c HB1 HR14 hF hx zo) ?_))))
    rintro _ w38 ⟨HG38, ⟨HB1, HR38⟩, k38⟩
    have := k38.size
    replace HR38 : Rf w38 rb F (qMv (qS 99 (l, true))).2.1 := HR38
    replace HB1 : Blk w38 bx [.pointer (some ⟨rb, 0, none⟩), .bool (qMv (qS 99 (l, true))).2.2] 81 := HB1
    have hl38 : (qMv (qS 99 (l, true))).2.1.length ≤ _ := qMv_le (qS 99 (l, true))
    try dsimp only at hl38
    obtain ⟨ax1, ay1, ax2, ay2, hu38, _⟩ := HG38.mv
    subst hu38
    replace HB5 := HB5.keep k38 dj4
    refine l_v (v_fieldAddr (off := 10) (ft := 30) zk rfl) (l_to (to_storeA (n := 6) rfl rfl (zvA rfl) zk rfl (by first | (simp [slice_one]; done) | (simp only [List.forall_mem_cons, List.cons_append, List.nil_append]; repeat' (first | exact rfl | apply And.intro | (intro u hu; cases hu; done)))) HB5 dj5 ?_))
    rintro w39 HB5 k39 z39
    have := k39.size
    try simp only [zS, Nat.zero_add, Nat.reduceAdd, List.drop_nil] at HB5
    refine l_nil (n_blk (n_then (⟨_, rfl, ?_⟩)))
    replace E := (E.step k38 dj3).step k39 dj3
    replace HS1 := (HS1.keep k38 dj1).keep k39 dj1
    replace HB2 := (HB2.keep k38 dj4).keep k39 dj4
    replace HB1 := HB1.keep k39 dj4
    replace HR38 := HR38.keep k39 dj7 (by intro i hi he; have hi0 := hi; have hi := hi; have he := he; (try dsimp only [NoK] at hi he); first | exact he.elim | omega | (have := hF i hi0; omega))
    refine ⟨_, (5, rq0, (qMv (qS 99 (l, true))).1, [], [], [], 0), _, _, ⟨rfl, rfl, rfl, rfl, rfl, trivial⟩, E, HS1, HB2, HB1, HR38, HB5, ?_, bkM hk zq⟩
    rw [hk]
    replace HG38 := HG38.keep k39 dj1
    exact tCm_mk ⟨by decide, by decide⟩ rq0_ag.rep (HG38.mono fun b _ h => by omega).rep (SlV.nil _ _ _) (SlV.nil _ _ _) (SlV.nil _ _ _) ⟨by decide, by decide⟩
   rw [h5] at hx5; cases hx5
  refine c_seq (wp_reg zd (l_v (v_eql rfl rfl) ?_))
  refine l_v (zaB rfl) (l_nil (n_then (c_cond rfl rfl (fun h9 => ?_) (fun h9 => ?_))))
  ·
   refine c_skip (n_then (c_cond rfl rfl (fun hx9 => ?_) (fun hx9 => ?_)))
   ·
    have hk : qV l = 9 := dtrue h9
    refine wp_reg zd (l_v (zmP rfl) (l_to (to_f1 zk (zvP rfl) (CallsR.mono (refrmove_c HB1 HR14 hF hx zo) ?_))))
    rintro _ w38 ⟨HG38, ⟨HB1, HR38⟩, k38⟩
    have := k38.size
    replace HR38 : Rf w38 rb F (qMv (qS 99 (l, true))).2.1 := HR38
    replace HB1 : Blk w38 bx [.pointer (some ⟨rb, 0, none⟩), .bool (qMv (qS 99 (l, true))).2.2] 81 := HB1
    have hl38 : (qMv (qS 99 (l, true))).2.1.length ≤ _ := qMv_le (qS 99 (l, true))
    try dsimp only at hl38
    obtain ⟨ax1, ay1, ax2, ay2, hu38, _⟩ := HG38.mv
    subst hu38
    replace HB5 := HB5.keep k38 dj4
    refine l_v (v_fieldAddr (off := 10) (ft := 30) zk rfl) (l_to (to_storeA (n := 6) rfl rfl (zvA rfl) zk rfl (by first | (simp [slice_one]; done) | (simp only [List.forall_mem_cons, List.cons_append, List.nil_append]; repeat' (first | exact rfl | apply And.intro | (intro u hu; cases hu; done)))) HB5 dj5 ?_))
    rintro w39 HB5 k39 z39
    have := k39.size
    try simp only [zS, Nat.zero_add, Nat.reduceAdd, List.drop_nil] at HB5
    refine l_nil (n_blk (n_then (⟨_, rfl, ?_⟩)))
    replace E := (E.step k38 dj3).step k39 dj3
    replace HS1 := (HS1.keep k38 dj1).keep k39 dj1
    replace HB2 := (HB2.keep k38 dj4).keep k39 dj4
    replace HB1 := HB1.keep k39 dj4
    replace HR38 := HR38.keep k39 dj7 (by intro i hi he; have hi0 := hi; have hi := hi; have he := he; (try dsimp only [NoK] at hi he); first | exact he.elim | omega | (have := hF i hi0; omega))
    refine ⟨_, (9, rq0, (qMv (qS 99 (l, true))).1, [], [], [], 0), _, _, ⟨rfl, rfl, rfl, rfl, rfl, trivial⟩, E, HS1, HB2, HB1, HR38, HB5, ?_, bkM hk zq⟩
    rw [hk]
    replace HG38 := HG38.keep k39 dj1
    exact tCm_mk ⟨by decide, by decide⟩ rq0_ag.rep (HG38.mono fun b _ h => by omega).rep (SlV.nil _ _ _) (SlV.nil _ _ _) (SlV.nil _ _ _) ⟨by decide, by decide⟩
   rw [h9] at hx9; cases hx9
  refine wp_reg zd (l_v (v_eql rfl rfl) ?_)
  refine l_v (zaB rfl) (l_nil (n_then (c_cond rfl rfl (fun h10 => ?_) (fun h10 => ?_))))
  ·
   have hk : qV l = 10 := dtrue h10
   refine wp_reg zd (l_v (zmP rfl) (l_to (to_f1 zk (zvP rfl) (CallsR.mono (refrmove_c HB1 HR14 hF hx zo) ?_))))
   rintro _ w38 ⟨HG38, ⟨HB1, HR38⟩, k38⟩
   have := k38.size
   replace HR38 : Rf w38 rb F (qMv (qS 99 (l, true))).2.1 := HR38
   replace HB1 : Blk w38 bx [.pointer (some ⟨rb, 0, none⟩), .bool (qMv (qS 99 (l, true))).2.2] 81 := HB1
   have hl38 : (qMv (qS 99 (l, true))).2.1.length ≤ _ := qMv_le (qS 99 (l, true))
   try dsimp only at hl38
   obtain ⟨ax1, ay1, ax2, ay2, hu38, _⟩ := HG38.mv
   subst hu38
   replace HB5 := HB5.keep k38 dj4
   refine l_v (v_fieldAddr (off := 10) (ft := 30) zk rfl) (l_to (to_storeA (n := 6) rfl rfl (zvA rfl) zk rfl (by first | (simp [slice_one]; done) | (simp only [List.forall_mem_cons, List.cons_append, List.nil_append]; repeat' (first | exact rfl | apply And.intro | (intro u hu; cases hu; done)))) HB5 dj5 ?_))
   rintro w39 HB5 k39 z39
   have := k39.size
   try simp only [zS, Nat.zero_add, Nat.reduceAdd, List.drop_nil] at HB5
   refine l_nil (n_blk (n_then (⟨_, rfl, ?_⟩)))
   replace E := (E.step k38 dj3).step k39 dj3
   replace HS1 := (HS1.keep k38 dj1).keep k39 dj1
   replace HB2 := (HB2.keep k38 dj4).keep k39 dj4
   replace HB1 := HB1.keep k39 dj4
   replace HR38 := HR38.keep k39 dj7 (by intro i hi he; have hi0 := hi; have hi := hi; have he := he; (try dsimp only [NoK] at hi he); first | exact he.elim | omega | (have := hF i hi0; omega))
   refine ⟨_, (10, rq0, (qMv (qS 99 (l, true))).1, [], [], [], 0), _, _, ⟨rfl, rfl, rfl, rfl, rfl, trivial⟩, E, HS1, HB2, HB1, HR38, HB5, ?_, bkM hk zq⟩
   rw [hk]
   replace HG38 := HG38.keep k39 dj1
   exact tCm_mk ⟨by decide, by decide⟩ rq0_ag.rep (HG38.mono fun b _ h => by omega).rep (SlV.nil _ _ _) (SlV.nil _ _ _) (SlV.nil _ _ _) ⟨by decide, by decide⟩
  refine c_seq (wp_reg zd (l_v (v_eql rfl rfl) ?_))
  refine l_v (zaB rfl) (l_nil (n_then (c_cond rfl rfl (fun h4 => ?_) (fun h4 => ?_))))
  ·
   have hk : qV l = 4 := dtrue h4
   refine c_seq (wp_reg zd (l_v (zmP rfl) (l_to (to_f1 zk (zvP rfl) (CallsR.mono (refrmove_c HB1 HR14 hF hx zo) ?_)))))
   rintro _ w43 ⟨HG43, ⟨HB1, HR43⟩, k43⟩
   have := k43.size
   replace HR43 : Rf w43 rb F (qMv (qS 99 (l, true))).2.1 := HR43
   replace HB1 : Blk w43 bx [.pointer (some ⟨rb, 0, none⟩), .bool (qMv (qS 99 (l, true))).2.2] 81 := HB1
   have hl43 : (qMv (qS 99 (l, true))).2.1.length ≤ _ := qMv_le (qS 99 (l, true))
   try dsimp only at hl43
   obtain ⟨ax1, ay1, ax2, ay2, hu43, _⟩ := HG43.mv
   subst hu43
   replace HB5 := HB5.keep k43 dj4
   refine l_v (v_fieldAddr (off := 10) (ft := 30) zk rfl) (l_to (to_storeA (n := 6) rfl rfl (zvA rfl) zk rfl (by first | (simp [slice_one]; done) | (simp only [List.forall_mem_cons, List.cons_append, List.nil_append]; repeat' (first | exact rfl | apply And.intro | (intro u hu; cases hu; done)))) HB5 dj5 ?_))
   rintro w44 HB5 k44 z44
   have := k44.size
   try simp only [zS, Nat.zero_add, Nat.reduceAdd, List.drop_nil] at HB5
   refine l_nil (n_then (c_seq (wp_reg zd (l_v (zmP rfl) (l_v (zmS rfl) (l_v (v_len (et := 5) zk rfl) ?_))))))
   replace HB1 := HB1.keep k44 dj4
   replace HR43 := HR43.keep k44 dj7 (by intro i hi he; have hi0 := hi; have hi := hi; have he := he; (try dsimp only [NoK] at hi he); first | exact he.elim | omega | (have := hF i hi0; omega))
   refine l_to (to_f2 zk (zvP rfl) (zvI rfl) (CallsR.mono (refrbytes_c (most := l.length) HB1 HR43 hF hx hl zo) ?_))
   replace HS1 := (HS1.keep k43 dj1).keep k44 dj1
   replace HG43 := HG43.keep k44 dj1
   rintro _ w49 ⟨⟨a49, c49, rfl, HS49⟩, ⟨HB1, HR49⟩, k49⟩
   have := k49.size
   replace HR49 : Rf w49 rb F (qBS l.length (qMv (qS 99 (l, true))).2).1 := HR49
   replace HB1 : Blk w49 bx [.pointer (some ⟨rb, 0, none⟩), .bool (qBS l.length (qMv (qS 99 (l, true))).2).2] 81 := HB1
   have hl49 : (qBS l.length (qMv (qS 99 (l, true))).2).1.length ≤ _ := qBS_le l.length (qMv (qS 99 (l, true))).2
   try dsimp only at hl49
   refine l_to (to_f1 zk (zvS rfl) (CallsR.mono (refiLists_c HS49 (by have := (qBR_le l.length (qMv (qS 99 (l, true))).2.1).2; omega)) ?_))
   replace HS1 := HS1.keep k49 dj1
   replace HG43 := HG43.keep k49 dj1
   rintro _ w50 ⟨⟨a50, c50, es, er, rfl, HS50, he50⟩, e50⟩
   have := e50.size
   have HS50 := HS50.mono (F' := fun i => b5 < i) fun b _ h => by omega
   refine l_v (zmT rfl) (l_v (v_extract (t := .slice _ _ _) rfl rfl) (l_v (v_extract (t := .int _ _) rfl rfl) (l_v (zaS rfl) (l_v (zaI rfl) (l_nil (n_then (c_seq (wp_reg zd (l_v (zmP rfl) ?_)))))))))
   refine l_v (zmP rfl) (l_v (v_nilCheck rfl) ?_)
   replace HB2 := (((HB2.keep k43 dj4).keep k44 dj4).keep k49 dj4).ext e50
   replace HB5 := (HB5.keep k49 dj4).ext e50
   replace HB1 := HB1.ext e50
   refine l_v (v_fieldAddr (off := 1) (ft := 4) zk rfl) (l_v (v_load zk rfl (by first | exact HB1.pv 1 _ rfl | exact HB5.pv 1 _ rfl | exact HB2.pv 1 _ rfl | assumption)) ?_)
   refine l_v (zmB rfl) (l_g1 rfl rfl (fun hG => zmI rfl) (l_g1 rfl rfl (fun hG => v_eql (gd hG rfl) rfl) ?_))
   refine l_v (v_and rfl rfl) ?_
   refine l_v (v_nilCheck rfl) ?_
   refine l_v (v_fieldAddr (off := 1) (ft := 4) zk rfl) (l_to (to_store rfl rfl (zvB rfl) rfl zk HB1 (by simp) ?_))
   rintro w51 HB1 k51 z51
   have := k51.size
   try simp only [List.set_cons_zero, List.set_cons_succ] at HB1
   replace HB5 := HB5.keep k51 dj4
   refine l_nil (n_then (c_seq (wp_reg zd (l_v (zmS rfl) (l_v (v_fieldAddr (off := 16) (ft := 31) zk rfl) (l_to (to_store rfl rfl (zvS rfl) rfl zk HB5 (by simp) ?_)))))))
   rintro w52 HB5 k52 z52
   have := k52.size
   try simp only [zS, Nat.zero_add, Nat.reduceAdd, List.drop_nil] at HB5
   replace HR49 := ((HR49.ext e50).keep k51 dj7 (by intro i hi he; have hi0 := hi; have hi := hi; have he := he; (try dsimp only [NoK] at hi he); first | exact he.elim | omega | (have := hF i hi0; omega))).keep k52 dj7 (by intro i hi he; have hi0 := hi; have hi := hi; have he := he; (try dsimp only [NoK] at hi he); first | exact he.elim | omega | (have := hF i hi0; omega))
   replace HB1 := HB1.keep k52 dj4
   refine l_nil (n_then (wp_reg zd (l_v (zmP rfl) (l_to (to_f2 zk (zvP rfl) (zvI rfl) (CallsR.mono (refrbytes_c (most := 524288) HB1 HR49 hF hx zq zo) ?_))))))
   replace HS1 := ((HS1.ext e50).keep k51 dj1).keep k52 dj1
   replace HG43 := ((HG43.ext e50).keep k51 dj1).keep k52 dj1
   replace HS49 := ((HS49.ext e50).keep k51 dj1).keep k52 dj1
   replace HS50 := (HS50.keep k51 dj1).keep k52 dj1
   rintro _ w67 ⟨⟨a67, c67, rfl, HS67⟩, ⟨HB1, HR67⟩, k67⟩
   have := k67.size
   replace HR67 : Rf w67 rb F (qBS 524288 ((qBS l.length (qMv (qS 99 (l, true))).2).1, (qBS l.length (qMv (qS 99 (l, true))).2).2 && decide (er = 0))).1 := HR67
   replace HB1 : Blk w67 bx [.pointer (some ⟨rb, 0, none⟩), .bool (qBS 524288 ((qBS l.length (qMv (qS 99 (l, true))).2).1, (qBS l.length (qMv (qS 99 (l, true))).2).2 && decide (er = 0))).2] 81 := HB1
   have hl67 : (qBS 524288 ((qBS l.length (qMv (qS 99 (l, true))).2).1, (qBS l.length (qMv (qS 99 (l, true))).2).2 && decide (er = 0))).1.length ≤ _ := qBS_le 524288 ((qBS l.length (qMv (qS 99 (l, true))).2).1, (qBS l.length (qMv (qS 99 (l, true))).2).2 && decide (er = 0))
   try dsimp only at hl67
   replace HB5 := HB5.keep k67 dj4
   refine l_v (v_fieldAddr (off := 17) (ft := 24) zk rfl) (l_to (to_store rfl rfl (zvS rfl) rfl zk HB5 (by simp) ?_))
   rintro w68 HB5 k68 z68
   have := k68.size
   try simp only [zS, Nat.zero_add, Nat.reduceAdd, List.drop_nil] at HB5
   refine l_nil (n_blk (n_then (⟨_, rfl, ?_⟩)))
   replace E := (((((((E.step k43 dj3).step k44 dj3).step k49 dj3).trans e50.keep).step k51 dj3).step k52 dj3).step k67 dj3).step k68 dj3
   replace HB2 := (((HB2.keep k51 dj4).keep k52 dj4).keep k67 dj4).keep k68 dj4
   replace HS1 := (HS1.keep k67 dj1).keep k68 dj1
   replace HB1 := HB1.keep k68 dj4
   replace HR67 := HR67.keep k68 dj7 (by intro i hi he; have hi0 := hi; have hi := hi; have he := he; (try dsimp only [NoK] at hi he); first | exact he.elim | omega | (have := hF i hi0; omega))
   refine ⟨_, (4, rq0, (qMv (qS 99 (l, true))).1, es, qB 524288 (qBS l.length (qMv (qS 99 (l, true))).2).1, [], 0), _, _, ⟨rfl, rfl, rfl, rfl, rfl, trivial⟩, E, HS1, HB2, HB1, HR67, HB5, ?_, bk4 (Nat.le_refl _) hl hk he50⟩
   rw [hk]
   replace HG43 := (HG43.keep k67 dj1).keep k68 dj1
   replace HS50 := (HS50.keep k67 dj1).keep k68 dj1
   replace HS67 := HS67.keep k68 dj1
   exact tCm_mk ⟨by decide, by decide⟩ rq0_ag.rep (HG43.mono fun b _ h => by omega).rep HS50 (HS67.mono fun b _ h => by omega) (SlV.nil _ _ _) ⟨by decide, by decide⟩
  refine c_seq (c_seq (wp_reg zd (l_v (v_eql rfl rfl) ?_)))
  refine l_v (zaB rfl) (l_nil (n_then (c_cond rfl rfl (fun h6 => ?_) (fun h6 => ?_))))
  ·
   refine c_skip (n_then (c_cond rfl rfl (fun hx6 => ?_) (fun hx6 => ?_)))
   ·
    have hk : qV l = 6 := dtrue h6
    refine wp_reg zd (l_v (zmP rfl) (l_to (to_f2 zk (zvP rfl) (zvI rfl) (CallsR.mono (refrbytes_c (most := 24) HB1 HR14 hF hx zq zo) ?_))))
    rintro _ w73 ⟨⟨a73, c73, rfl, HS73⟩, ⟨HB1, HR73⟩, k73⟩
    have := k73.size
    replace HR73 : Rf w73 rb F (qBS 24 (qS 99 (l, true))).1 := HR73
    replace HB1 : Blk w73 bx [.pointer (some ⟨rb, 0, none⟩), .bool (qBS 24 (qS 99 (l, true))).2] 81 := HB1
    have hl73 : (qBS 24 (qS 99 (l, true))).1.length ≤ _ := qBS_le 24 (qS 99 (l, true))
    try dsimp only at hl73
    replace HB5 := HB5.keep k73 dj4
    refine l_v (v_fieldAddr (off := 18) (ft := 24) zk rfl) (l_to (to_store rfl rfl (zvS rfl) rfl zk HB5 (by simp) ?_))
    rintro w74 HB5 k74 z74
    have := k74.size
    try simp only [zS, Nat.zero_add, Nat.reduceAdd, List.drop_nil] at HB5
    refine l_nil (n_blk (n_then (⟨_, rfl, ?_⟩)))
    replace E := (E.step k73 dj3).step k74 dj3
    replace HS1 := (HS1.keep k73 dj1).keep k74 dj1
    replace HB2 := (HB2.keep k73 dj4).keep k74 dj4
    replace HB1 := HB1.keep k74 dj4
    replace HR73 := HR73.keep k74 dj7 (by intro i hi he; have hi0 := hi; have hi := hi; have he := he; (try dsimp only [NoK] at hi he); first | exact he.elim | omega | (have := hF i hi0; omega))
    refine ⟨_, (6, rq0, mv0, [], [], qB 24 (qS 99 (l, true)).1, 0), _, _, ⟨rfl, rfl, rfl, rfl, rfl, trivial⟩, E, HS1, HB2, HB1, HR73, HB5, ?_, bkK hk zq⟩
    rw [hk]
    replace HS73 := HS73.keep k74 dj1
    exact tCm_mk ⟨by decide, by decide⟩ rq0_ag.rep mv0_ag.rep (SlV.nil _ _ _) (SlV.nil _ _ _) (HS73.mono fun b _ h => by omega) ⟨by decide, by decide⟩
   rw [h6] at hx6; cases hx6
  refine wp_reg zd (l_v (v_eql rfl rfl) ?_)
  refine l_v (zaB rfl) (l_nil (n_then (c_cond rfl rfl (fun h7 => ?_) (fun h7 => ?_))))
  ·
   have hk : qV l = 7 := dtrue h7
   refine wp_reg zd (l_v (zmP rfl) (l_to (to_f2 zk (zvP rfl) (zvI rfl) (CallsR.mono (refrbytes_c (most := 24) HB1 HR14 hF hx zq zo) ?_))))
   rintro _ w73 ⟨⟨a73, c73, rfl, HS73⟩, ⟨HB1, HR73⟩, k73⟩
   have := k73.size
   replace HR73 : Rf w73 rb F (qBS 24 (qS 99 (l, true))).1 := HR73
   replace HB1 : Blk w73 bx [.pointer (some ⟨rb, 0, none⟩), .bool (qBS 24 (qS 99 (l, true))).2] 81 := HB1
   have hl73 : (qBS 24 (qS 99 (l, true))).1.length ≤ _ := qBS_le 24 (qS 99 (l, true))
   try dsimp only at hl73
   replace HB5 := HB5.keep k73 dj4
   refine l_v (v_fieldAddr (off := 18) (ft := 24) zk rfl) (l_to (to_store rfl rfl (zvS rfl) rfl zk HB5 (by simp) ?_))
   rintro w74 HB5 k74 z74
   have := k74.size
   try simp only [zS, Nat.zero_add, Nat.reduceAdd, List.drop_nil] at HB5
   refine l_nil (n_blk (n_then (⟨_, rfl, ?_⟩)))
   replace E := (E.step k73 dj3).step k74 dj3
   replace HS1 := (HS1.keep k73 dj1).keep k74 dj1
   replace HB2 := (HB2.keep k73 dj4).keep k74 dj4
   replace HB1 := HB1.keep k74 dj4
   replace HR73 := HR73.keep k74 dj7 (by intro i hi he; have hi0 := hi; have hi := hi; have he := he; (try dsimp only [NoK] at hi he); first | exact he.elim | omega | (have := hF i hi0; omega))
   refine ⟨_, (7, rq0, mv0, [], [], qB 24 (qS 99 (l, true)).1, 0), _, _, ⟨rfl, rfl, rfl, rfl, rfl, trivial⟩, E, HS1, HB2, HB1, HR73, HB5, ?_, bkK hk zq⟩
   rw [hk]
   replace HS73 := HS73.keep k74 dj1
   exact tCm_mk ⟨by decide, by decide⟩ rq0_ag.rep mv0_ag.rep (SlV.nil _ _ _) (SlV.nil _ _ _) (HS73.mono fun b _ h => by omega) ⟨by decide, by decide⟩
  refine c_seq (wp_reg zd (l_v (v_eql rfl rfl) ?_))
  refine l_v (zaB rfl) (l_nil (n_then (c_cond rfl rfl (fun h8 => ?_) (fun h8 => ?_))))
  ·
   have hk : qV l = 8 := dtrue h8
   refine c_seq (wp_reg zd (l_v (zmP rfl) (l_to (to_f2 zk (zvP rfl) (zvI rfl) (CallsR.mono (refrbytes_c (most := 24) HB1 HR14 hF hx zq zo) ?_)))))
   rintro _ w78 ⟨⟨a78, c78, rfl, HS78⟩, ⟨HB1, HR78⟩, k78⟩
   have := k78.size
   replace HR78 : Rf w78 rb F (qBS 24 (qS 99 (l, true))).1 := HR78
   replace HB1 : Blk w78 bx [.pointer (some ⟨rb, 0, none⟩), .bool (qBS 24 (qS 99 (l, true))).2] 81 := HB1
   have hl78 : (qBS 24 (qS 99 (l, true))).1.length ≤ _ := qBS_le 24 (qS 99 (l, true))
   try dsimp only at hl78
   replace HB5 := HB5.keep k78 dj4
   refine l_v (v_fieldAddr (off := 18) (ft := 24) zk rfl) (l_to (to_store rfl rfl (zvS rfl) rfl zk HB5 (by simp) ?_))
   rintro w79 HB5 k79 z79
   have := k79.size
   try simp only [zS, Nat.zero_add, Nat.reduceAdd, List.drop_nil] at HB5
   replace HB1 := HB1.keep k79 dj4
   replace HR78 := HR78.keep k79 dj7 (by intro i hi he; have hi0 := hi; have hi := hi; have he := he; (try dsimp only [NoK] at hi he); first | exact he.elim | omega | (have := hF i hi0; omega))
   refine l_nil (n_then (wp_reg zd (l_v (zmP rfl) (l_to (to_f2 zk (zvP rfl) (zvI rfl) (CallsR.mono (refnum_c (most := 5) HB1 HR78 hF hx zq) ?_))))))
   replace HS1 := (HS1.keep k78 dj1).keep k79 dj1
   replace HS78 := HS78.keep k79 dj1
   rintro _ w81 ⟨rfl, ⟨HB1, HR81⟩, k81⟩
   have := k81.size
   replace HR81 : Rf w81 rb F (qS 5 (qBS 24 (qS 99 (l, true)))).1 := HR81
   replace HB1 : Blk w81 bx [.pointer (some ⟨rb, 0, none⟩), .bool (qS 5 (qBS 24 (qS 99 (l, true)))).2] 81 := HB1
   have hl81 : (qS 5 (qBS 24 (qS 99 (l, true)))).1.length ≤ _ := qS_le 5 (qBS 24 (qS 99 (l, true)))
   try dsimp only at hl81
   replace HB5 := HB5.keep k81 dj4
   refine l_v (v_fieldAddr (off := 19) (ft := 3) zk rfl) (l_to (to_store rfl rfl (zvI rfl) rfl zk HB5 (by simp) ?_))
   rintro w82 HB5 k82 z82
   have := k82.size
   try simp only [zS, Nat.zero_add, Nat.reduceAdd, List.drop_nil] at HB5
   refine l_nil (n_blk (n_then (⟨_, rfl, ?_⟩)))
   replace E := (((E.step k78 dj3).step k79 dj3).step k81 dj3).step k82 dj3
   replace HB2 := (((HB2.keep k78 dj4).keep k79 dj4).keep k81 dj4).keep k82 dj4
   replace HS1 := (HS1.keep k81 dj1).keep k82 dj1
   replace HB1 := HB1.keep k82 dj4
   replace HR81 := HR81.keep k82 dj7 (by intro i hi he; have hi0 := hi; have hi := hi; have he := he; (try dsimp only [NoK] at hi he); first | exact he.elim | omega | (have := hF i hi0; omega))
   refine ⟨_, (8, rq0, mv0, [], [], qB 24 (qS 99 (l, true)).1, qV (qBS 24 (qS 99 (l, true))).1), _, _, ⟨rfl, rfl, rfl, rfl, rfl, trivial⟩, E, HS1, HB2, HB1, HR81, HB5, ?_, bk8 hk⟩
   rw [hk]
   replace HS78 := (HS78.keep k81 dj1).keep k82 dj1
   exact tCm_mk ⟨by decide, by decide⟩ rq0_ag.rep mv0_ag.rep (SlV.nil _ _ _) (SlV.nil _ _ _) (HS78.mono fun b _ h => by omega) (qV_wf _)
  have hkN := bkN (dfalse h2) (dfalse h3) (dfalse h5) (dfalse h9) (dfalse h10) (dfalse h4) (dfalse h6) (dfalse h7) (dfalse h8)
  refine c_skip (n_blk (n_then (⟨_, rfl, ?_⟩)))
  refine ⟨_, (qV l, rq0, mv0, [], [], [], 0), _, _, ⟨rfl, rfl, rfl, rfl, rfl, trivial⟩, E, HS1, HB2, HB1, HR14, HB5, ?_, hkN⟩
  exact tCm_mk (qV_wf _) rq0_ag.rep mv0_ag.rep (SlV.nil _ _ _) (SlV.nil _ _ _) (SlV.nil _ _ _) ⟨by decide, by decide⟩
 rintro _ w104 ⟨e, rfl, cs, c, lr, ok, hh, E, HS1, HB2, HB1, HR1, HB5, hrep, hbk⟩
 obtain ⟨jj, rfl⟩ : ∃ j, e = updL _ j := ⟨_, hh.upd⟩
 obtain ⟨x0, x1, x2, x3, x4, x5, x6, x7, x8, x9, x10, x11, x12, x13, x14, x15, x16, x17, x18, x19, hcs⟩ := AgV.cm20 (⟨cs, rfl, hrep⟩ : AgV tCm _ _ _ c)
 obtain rfl : cs = [x0, x1, x2, x3, x4, x5, x6, x7, x8, x9, x10, x11, x12, x13, x14, x15, x16, x17, x18, x19] := by have := congrArg Array.toList (Value.agg.inj hcs); simpa using this
 have HG5 : AgV tCm _ _ _ c := ⟨_, rfl, hrep⟩
 have zb5' := HB5.lt
 by_cases hok : ok = true
 ·
  subst hok
  by_cases hlr : lr = []
  ·
   subst hlr
   by_cases hmc : mayCm c = true
   ·
    refine c_seq (c_seq (wp_regd (NoK) zk zd zd ?_))
    refine rt_v (fun vals w hR hd => zmP rfl) ?_
    refine rt_v (fun vals w hR hd => v_nilCheck (hd 0 rfl)) ?_
    refine rt_v (fun vals w hR hd => v_fieldAddr (off := 1) (ft := 4) zk (hd 1 rfl)) ?_
    refine rt_v (fun vals w hR hd => v_load zk (hd 2 rfl) (by first | exact (HB5.ext hR).pv 1 _ rfl | exact (HB1.ext hR).pv 1 _ rfl | exact (HB2.ext hR).pv 1 _ rfl | assumption)) ?_
    refine rt_v (fun vals w hR hd => v_not (hd 3 rfl)) ?_
    refine rt_v (fun vals w hR hd => v_move (t := .bool _) (hd 4 rfl)) ?_
    refine rt_hv rfl (fun vals w hd => hd 5 rfl) (fun vals w hR hd => zmP rfl) ?_
    refine rt_hv rfl (fun vals w hd => hd 5 rfl) (fun vals w hR hd => v_nilCheck (hd 6 rfl)) ?_
    refine rt_hv rfl (fun vals w hd => hd 5 rfl) (fun vals w hR hd => v_fieldAddr (off := 0) (ft := 77) zk (hd 7 rfl)) ?_
    refine rt_hv rfl (fun vals w hd => hd 5 rfl) (fun vals w hR hd => v_load zk (hd 8 rfl) (by first | exact (HB5.ext hR).pv 0 _ rfl | exact (HB1.ext hR).pv 0 _ rfl | exact (HB2.ext hR).pv 0 _ rfl | assumption)) ?_
    refine rt_hvf rfl (fun vals w hd => hd 5 rfl) (fun vals w hR hd => to_f1 zk (hd 9 rfl) (refLeft_c (HR1.ext hR))) ?_
    refine rt_hv rfl (fun vals w hd => hd 5 rfl) (fun vals w hR hd => OpVat.as (b := false) (v_gtr (hd 10 rfl) rfl) zq) ?_
    refine rt_v (fun vals w hR hd => v_orT (hd 5 rfl) (hd 11 rfl)) ?_
    refine rt_v (fun vals w hR hd => v_move (t := .bool _) (hd 12 rfl)) ?_
    refine rt_hv rfl (fun vals w hd => hd 13 rfl) (fun vals w hR hd => v_loadA zk rfl (by first | exact (HB5.ext hR).pv | exact (HB1.ext hR).pv | exact (HB2.ext hR).pv | assumption) rfl) ?_
    refine rt_hvf rfl (fun vals w hd => hd 13 rfl) (fun vals w hR hd => to_f1 zk (hd 14 rfl) (refCMay_b (HG5.ext hR) hmc)) ?_
    refine rt_hv rfl (fun vals w hd => hd 13 rfl) (fun vals w hR hd => v_not (hd 15 rfl)) ?_
    refine rt_v (fun vals w hR hd => v_orT (hd 13 rfl) (hd 16 rfl)) ?_
    refine rt_v (fun vals w hR hd => v_move (t := .bool _) (hd 17 rfl)) ?_
    refine rt_hv rfl (fun vals w hd => hd 18 rfl) (fun vals w hR hd => v_loadA zk rfl (by first | exact (HB5.ext hR).pv | exact (HB1.ext hR).pv | exact (HB2.ext hR).pv | assumption) rfl) ?_
    refine rt_hto (fun v W => Bv W AllB v (cmW c)) (fun v w w' h k => h.ext k) rfl (fun vals w hd => hd 18 rfl) (fun vals w hR hd => to_f1 zk (hd 19 rfl) (CallsR.mono (refCBytes_c (HG5.ext hR) hmc) fun v w1 ⟨_, h, e⟩ => ⟨e, h.allB⟩)) ?_
    refine rt_hv rfl (fun vals w hd => hd 18 rfl) (fun vals w hR hd => v_b2s (et := 5) zk zk zk rfl (show Bv _ AllB _ (cmW c) from hd 20 rfl)) ?_
    refine rt_hv rfl (fun vals w hd => hd 18 rfl) (fun vals w hR hd => zmS rfl) ?_
    refine rt_hv rfl (fun vals w hd => hd 18 rfl) (fun vals w hR hd => v_b2s (et := 5) zk zk zk (hd 22 rfl) (by first | exact (HS1.ext hR) | assumption)) ?_
    refine rt_hv rfl (fun vals w hd => hd 18 rfl) (fun vals w hR hd => v_sne (hd 21 rfl) (hd 23 rfl)) ?_
    refine rt_v (fun vals w hR hd => v_orT (hd 18 rfl) (hd 24 rfl)) ?_
    refine rt_nil (fun w105 e105 => ?_)
    rintro _ rfl _ rfl _ rfl _ rfl _ rfl _ rfl _ rfl _ rfl _ rfl _ rfl _ rfl _ rfl _ rfl _ rfl _ rfl _ rfl _ rfl _ rfl _ rfl _ rfl v103 hs103 _ rfl _ rfl _ rfl _ rfl _ rfl
    have := e105.size
    replace E := E.trans e105.keep
    replace HS1 := HS1.ext e105
    replace HB2 := HB2.ext e105
    replace HB1 := HB1.ext e105
    replace HR1 := HR1.ext e105
    replace HB5 := HB5.ext e105
    replace HG5 := HG5.ext e105
    refine fin_nil (n_then (c_cond rfl rfl (fun hz => ?_) (fun hz => ?_)))
    ·
     refine c_seq (wp_reg zd (l_v (v_build (pl := [(0, 1), (1, 9), (10, 6), (16, 1), (17, 1), (18, 1), (19, 1)]) (z := .agg #[.int .i64 0, .int .i64 0, .int .i64 0, .int .i64 0, .slice none 0 0, .slice none 0 0, .slice none 0 0, .slice none 0 0, .bool false, .int .i64 0, .int .i64 0, .slice none 0 0, .slice none 0 0, .bool false, .int .i64 0, .int .i64 0, .slice none 0 0, .slice none 0 0, .slice none 0 0, .int .i64 0]) (zl := [.int .i64 0, .int .i64 0, .int .i64 0, .int .i64 0, .slice none 0 0, .slice none 0 0, .slice none 0 0, .slice none 0 0, .bool false, .int .i64 0, .int .i64 0, .slice none 0 0, .slice none 0 0, .bool false, .int .i64 0, .int .i64 0, .slice none 0 0, .slice none 0 0, .slice none 0 0, .int .i64 0]) zk (by unfold kZero; kernel_rfl) rfl rfl (cells := [_, _, _, _, _, _, _, _, _, _, _, _, _, _, _, _, _, _, _, _]) rfl) ?_))
     refine l_to (to_storeA (n := 20) rfl rfl (zvA rfl) zk rfl (by first | (simp [slice_one]; done) | (simp only [List.forall_mem_cons, List.cons_append, List.nil_append]; repeat' (first | exact rfl | apply And.intro | (intro u hu; cases hu; done)))) HB2 dj5 ?_)
     rintro w93 HB2 k93 z93
     have := k93.size
     try simp only [zS, Nat.zero_add, Nat.reduceAdd, List.drop_nil] at HB2
     refine l_v (v_assign rfl) (l_nil (n_then (c_ret (r_then (ret2cv (n := 20) rfl zq zq rfl zk HB2.pv rfl (zvI rfl) ?_)))))
     replace E := E.step k93 dj3
     exact ⟨⟨_, cmZ, 4, rfl, (cmZ_agF.imp imp_cm), .inr ⟨rfl, rfl, rd_no hbk fun h => by rw [h.2.2.2] at hz; simp at hz⟩⟩, E⟩
    have hw : cmW c = l := by simpa using hz
    refine c_skip (n_then (c_seq (wp_reg zd (l_v (v_loadA zk rfl (by first | exact HB5.pv | exact HB1.pv | exact HB2.pv | assumption) rfl) ?_))))
    refine l_to (to_storeA (n := 20) rfl rfl (zvA rfl) zk (tCm.len hrep) (tCm.one hrep) HB2 dj5 ?_)
    rintro w94 HB2 k94 z94
    have := k94.size
    try simp only [zS, Nat.zero_add, Nat.reduceAdd, List.drop_nil] at HB2
    refine l_v (v_assign rfl) (l_nil (n_then (c_ret (ret2cv (n := 20) rfl zq zq rfl zk HB2.pv rfl (zvI rfl) ?_))))
    replace E := E.step k94 dj3
    replace HG5 := HG5.keep k94 dj1
    exact ⟨⟨_, c, 0, rfl, HG5.mono fun b _ h => by omega, .inl ⟨rfl, by rw [← hw]; exact rdAll_back hmc⟩⟩, E⟩
   refine c_seq (c_seq ?_)
   have hmc : mayCm c = false := by simpa using hmc
   refine wp_regd (NoK) zk zd zd ?_
   refine rt_v (fun vals w hR hd => zmP rfl) ?_
   refine rt_v (fun vals w hR hd => v_nilCheck (hd 0 rfl)) ?_
   refine rt_v (fun vals w hR hd => v_fieldAddr (off := 1) (ft := 4) zk (hd 1 rfl)) ?_
   refine rt_v (fun vals w hR hd => v_load zk (hd 2 rfl) (by first | exact (HB5.ext hR).pv 1 _ rfl | exact (HB1.ext hR).pv 1 _ rfl | exact (HB2.ext hR).pv 1 _ rfl | assumption)) ?_
   refine rt_v (fun vals w hR hd => v_not (hd 3 rfl)) ?_
   refine rt_v (fun vals w hR hd => v_move (t := .bool _) (hd 4 rfl)) ?_
   refine rt_hv rfl (fun vals w hd => hd 5 rfl) (fun vals w hR hd => zmP rfl) ?_
   refine rt_hv rfl (fun vals w hd => hd 5 rfl) (fun vals w hR hd => v_nilCheck (hd 6 rfl)) ?_
   refine rt_hv rfl (fun vals w hd => hd 5 rfl) (fun vals w hR hd => v_fieldAddr (off := 0) (ft := 77) zk (hd 7 rfl)) ?_
   refine rt_hv rfl (fun vals w hd => hd 5 rfl) (fun vals w hR hd => v_load zk (hd 8 rfl) (by first | exact (HB5.ext hR).pv 0 _ rfl | exact (HB1.ext hR).pv 0 _ rfl | exact (HB2.ext hR).pv 0 _ rfl | assumption)) ?_
   refine rt_hvf rfl (fun vals w hd => hd 5 rfl) (fun vals w hR hd => to_f1 zk (hd 9 rfl) (refLeft_c (HR1.ext hR))) ?_
   refine rt_hv rfl (fun vals w hd => hd 5 rfl) (fun vals w hR hd => OpVat.as (b := false) (v_gtr (hd 10 rfl) rfl) zq) ?_
   refine rt_v (fun vals w hR hd => v_orT (hd 5 rfl) (hd 11 rfl)) ?_
   refine rt_v (fun vals w hR hd => v_move (t := .bool _) (hd 12 rfl)) ?_
   refine rt_hv rfl (fun vals w hd => hd 13 rfl) (fun vals w hR hd => v_loadA zk rfl (by first | exact (HB5.ext hR).pv | exact (HB1.ext hR).pv | exact (HB2.ext hR).pv | assumption) rfl) ?_
   refine rt_hvf rfl (fun vals w hd => hd 13 rfl) (fun vals w hR hd => to_f1 zk (hd 14 rfl) (refCMay_b (HG5.ext hR) hmc)) ?_
   refine rt_hv rfl (fun vals w hd => hd 13 rfl) (fun vals w hR hd => v_not (hd 15 rfl)) ?_
   refine rt_v (fun vals w hR hd => v_orT (hd 13 rfl) (hd 16 rfl)) ?_
   refine rt_v (fun vals w hR hd => v_move (t := .bool _) (hd 17 rfl)) ?_
   refine rt_skip (u := .bool true) rfl (fun vals w hd => hd 18 rfl) rfl ?_
   refine rt_skip (u := .bool true) rfl (fun vals w hd => hd 18 rfl) rfl ?_
   refine rt_skip (u := .bool true) rfl (fun vals w hd => hd 18 rfl) rfl ?_
   refine rt_skip (u := .bool true) rfl (fun vals w hd => hd 18 rfl) rfl ?_
   refine rt_skip (u := .bool true) rfl (fun vals w hd => hd 18 rfl) rfl ?_
   refine rt_skip (u := .bool true) rfl (fun vals w hd => hd 18 rfl) rfl ?_
   refine rt_v (fun vals w hR hd => v_orC (hd 18 rfl)) ?_
   refine rt_nil (fun w106 e106 => ?_)
   rintro _ rfl _ rfl _ rfl _ rfl _ rfl _ rfl _ rfl _ rfl _ rfl _ rfl _ rfl _ rfl _ rfl _ rfl _ rfl _ rfl _ rfl _ rfl _ rfl _ rfl _ rfl _ rfl _ rfl _ rfl _ rfl _ rfl
   have := e106.size
   replace E := E.trans e106.keep
   replace HS1 := HS1.ext e106
   replace HB2 := HB2.ext e106
   replace HB1 := HB1.ext e106
   replace HR1 := HR1.ext e106
   replace HB5 := HB5.ext e106
   replace HG5 := HG5.ext e106
   refine fin_nil (n_then (c_cond rfl rfl (fun hz => ?_) (fun hz => ?_)))
   ·
    refine c_seq (wp_reg zd (l_v (v_build (pl := [(0, 1), (1, 9), (10, 6), (16, 1), (17, 1), (18, 1), (19, 1)]) (z := .agg #[.int .i64 0, .int .i64 0, .int .i64 0, .int .i64 0, .slice none 0 0, .slice none 0 0, .slice none 0 0, .slice none 0 0, .bool false, .int .i64 0, .int .i64 0, .slice none 0 0, .slice none 0 0, .bool false, .int .i64 0, .int .i64 0, .slice none 0 0, .slice none 0 0, .slice none 0 0, .int .i64 0]) (zl := [.int .i64 0, .int .i64 0, .int .i64 0, .int .i64 0, .slice none 0 0, .slice none 0 0, .slice none 0 0, .slice none 0 0, .bool false, .int .i64 0, .int .i64 0, .slice none 0 0, .slice none 0 0, .bool false, .int .i64 0, .int .i64 0, .slice none 0 0, .slice none 0 0, .slice none 0 0, .int .i64 0]) zk (by unfold kZero; kernel_rfl) rfl rfl (cells := [_, _, _, _, _, _, _, _, _, _, _, _, _, _, _, _, _, _, _, _]) rfl) ?_))
    refine l_to (to_storeA (n := 20) rfl rfl (zvA rfl) zk rfl (by first | (simp [slice_one]; done) | (simp only [List.forall_mem_cons, List.cons_append, List.nil_append]; repeat' (first | exact rfl | apply And.intro | (intro u hu; cases hu; done)))) HB2 dj5 ?_)
    rintro w93 HB2 k93 z93
    have := k93.size
    try simp only [zS, Nat.zero_add, Nat.reduceAdd, List.drop_nil] at HB2
    refine l_v (v_assign rfl) (l_nil (n_then (c_ret (r_then (ret2cv (n := 20) rfl zq zq rfl zk HB2.pv rfl (zvI rfl) ?_)))))
    replace E := E.step k93 dj3
    exact ⟨⟨_, cmZ, 4, rfl, (cmZ_agF.imp imp_cm), .inr ⟨rfl, rfl, rd_no hbk fun h => by rw [hmc] at h; simp at h⟩⟩, E⟩
   cases hz
  refine c_seq (c_seq (wp_regd (NoK) zk zd zd ?_))
  refine rt_v (fun vals w hR hd => zmP rfl) ?_
  refine rt_v (fun vals w hR hd => v_nilCheck (hd 0 rfl)) ?_
  refine rt_v (fun vals w hR hd => v_fieldAddr (off := 1) (ft := 4) zk (hd 1 rfl)) ?_
  refine rt_v (fun vals w hR hd => v_load zk (hd 2 rfl) (by first | exact (HB5.ext hR).pv 1 _ rfl | exact (HB1.ext hR).pv 1 _ rfl | exact (HB2.ext hR).pv 1 _ rfl | assumption)) ?_
  refine rt_v (fun vals w hR hd => v_not (hd 3 rfl)) ?_
  refine rt_v (fun vals w hR hd => v_move (t := .bool _) (hd 4 rfl)) ?_
  refine rt_hv rfl (fun vals w hd => hd 5 rfl) (fun vals w hR hd => zmP rfl) ?_
  refine rt_hv rfl (fun vals w hd => hd 5 rfl) (fun vals w hR hd => v_nilCheck (hd 6 rfl)) ?_
  refine rt_hv rfl (fun vals w hd => hd 5 rfl) (fun vals w hR hd => v_fieldAddr (off := 0) (ft := 77) zk (hd 7 rfl)) ?_
  refine rt_hv rfl (fun vals w hd => hd 5 rfl) (fun vals w hR hd => v_load zk (hd 8 rfl) (by first | exact (HB5.ext hR).pv 0 _ rfl | exact (HB1.ext hR).pv 0 _ rfl | exact (HB2.ext hR).pv 0 _ rfl | assumption)) ?_
  refine rt_hvf rfl (fun vals w hd => hd 5 rfl) (fun vals w hR hd => to_f1 zk (hd 9 rfl) (refLeft_c (HR1.ext hR))) ?_
  refine rt_hv rfl (fun vals w hd => hd 5 rfl) (fun vals w hR hd => OpVat.as (b := true) (v_gtr (hd 10 rfl) rfl) (by have : 0 < lr.length := List.length_pos_iff.2 hlr; simp; omega)) ?_
  refine rt_v (fun vals w hR hd => v_orT (hd 5 rfl) (hd 11 rfl)) ?_
  refine rt_v (fun vals w hR hd => v_move (t := .bool _) (hd 12 rfl)) ?_
  refine rt_skip (u := .bool true) rfl (fun vals w hd => hd 13 rfl) rfl ?_
  refine rt_skip (u := .bool true) rfl (fun vals w hd => hd 13 rfl) rfl ?_
  refine rt_skip (u := .bool true) rfl (fun vals w hd => hd 13 rfl) rfl ?_
  refine rt_v (fun vals w hR hd => v_orC (hd 13 rfl)) ?_
  refine rt_v (fun vals w hR hd => v_move (t := .bool _) (hd 17 rfl)) ?_
  refine rt_skip (u := .bool true) rfl (fun vals w hd => hd 18 rfl) rfl ?_
  refine rt_skip (u := .bool true) rfl (fun vals w hd => hd 18 rfl) rfl ?_
  refine rt_skip (u := .bool true) rfl (fun vals w hd => hd 18 rfl) rfl ?_
  refine rt_skip (u := .bool true) rfl (fun vals w hd => hd 18 rfl) rfl ?_
  refine rt_skip (u := .bool true) rfl (fun vals w hd => hd 18 rfl) rfl ?_
  refine rt_skip (u := .bool true) rfl (fun vals w hd => hd 18 rfl) rfl ?_
  refine rt_v (fun vals w hR hd => v_orC (hd 18 rfl)) ?_
  refine rt_nil (fun w107 e107 => ?_)
  rintro _ rfl _ rfl _ rfl _ rfl _ rfl _ rfl _ rfl _ rfl _ rfl _ rfl _ rfl _ rfl _ rfl _ rfl _ rfl _ rfl _ rfl _ rfl _ rfl _ rfl _ rfl _ rfl _ rfl _ rfl _ rfl _ rfl
  have := e107.size
  replace E := E.trans e107.keep
  replace HS1 := HS1.ext e107
  replace HB2 := HB2.ext e107
  replace HB1 := HB1.ext e107
  replace HR1 := HR1.ext e107
  replace HB5 := HB5.ext e107
  replace HG5 := HG5.ext e107
  refine fin_nil (n_then (c_cond rfl rfl (fun hz => ?_) (fun hz => ?_)))
  ·
   refine c_seq (wp_reg zd (l_v (v_build (pl := [(0, 1), (1, 9), (10, 6), (16, 1), (17, 1), (18, 1), (19, 1)]) (z := .agg #[.int .i64 0, .int .i64 0, .int .i64 0, .int .i64 0, .slice none 0 0, .slice none 0 0, .slice none 0 0, .slice none 0 0, .bool false, .int .i64 0, .int .i64 0, .slice none 0 0, .slice none 0 0, .bool false, .int .i64 0, .int .i64 0, .slice none 0 0, .slice none 0 0, .slice none 0 0, .int .i64 0]) (zl := [.int .i64 0, .int .i64 0, .int .i64 0, .int .i64 0, .slice none 0 0, .slice none 0 0, .slice none 0 0, .slice none 0 0, .bool false, .int .i64 0, .int .i64 0, .slice none 0 0, .slice none 0 0, .bool false, .int .i64 0, .int .i64 0, .slice none 0 0, .slice none 0 0, .slice none 0 0, .int .i64 0]) zk (by unfold kZero; kernel_rfl) rfl rfl (cells := [_, _, _, _, _, _, _, _, _, _, _, _, _, _, _, _, _, _, _, _]) rfl) ?_))
   refine l_to (to_storeA (n := 20) rfl rfl (zvA rfl) zk rfl (by first | (simp [slice_one]; done) | (simp only [List.forall_mem_cons, List.cons_append, List.nil_append]; repeat' (first | exact rfl | apply And.intro | (intro u hu; cases hu; done)))) HB2 dj5 ?_)
   rintro w93 HB2 k93 z93
   have := k93.size
   try simp only [zS, Nat.zero_add, Nat.reduceAdd, List.drop_nil] at HB2
   refine l_v (v_assign rfl) (l_nil (n_then (c_ret (r_then (ret2cv (n := 20) rfl zq zq rfl zk HB2.pv rfl (zvI rfl) ?_)))))
   replace E := E.step k93 dj3
   exact ⟨⟨_, cmZ, 4, rfl, (cmZ_agF.imp imp_cm), .inr ⟨rfl, rfl, rd_no hbk fun h => hlr h.2.1⟩⟩, E⟩
  cases hz
 refine c_seq (c_seq ?_)
 obtain rfl : ok = false := by simpa using hok
 refine wp_regd (NoK) zk zd zd ?_
 refine rt_v (fun vals w hR hd => zmP rfl) ?_
 refine rt_v (fun vals w hR hd => v_nilCheck (hd 0 rfl)) ?_
 refine rt_v (fun vals w hR hd => v_fieldAddr (off := 1) (ft := 4) zk (hd 1 rfl)) ?_
 refine rt_v (fun vals w hR hd => v_load zk (hd 2 rfl) (by first | exact (HB5.ext hR).pv 1 _ rfl | exact (HB1.ext hR).pv 1 _ rfl | exact (HB2.ext hR).pv 1 _ rfl | assumption)) ?_
 refine rt_v (fun vals w hR hd => v_not (hd 3 rfl)) ?_
 refine rt_v (fun vals w hR hd => v_move (t := .bool _) (hd 4 rfl)) ?_
 refine rt_skip (u := .bool true) rfl (fun vals w hd => hd 5 rfl) rfl ?_
 refine rt_skip (u := .bool true) rfl (fun vals w hd => hd 5 rfl) rfl ?_
 refine rt_skip (u := .bool true) rfl (fun vals w hd => hd 5 rfl) rfl ?_
 refine rt_skip (u := .bool true) rfl (fun vals w hd => hd 5 rfl) rfl ?_
 refine rt_skip (u := .bool true) rfl (fun vals w hd => hd 5 rfl) rfl ?_
 refine rt_skip (u := .bool true) rfl (fun vals w hd => hd 5 rfl) rfl ?_
 refine rt_v (fun vals w hR hd => v_orC (hd 5 rfl)) ?_
 refine rt_v (fun vals w hR hd => v_move (t := .bool _) (hd 12 rfl)) ?_
 refine rt_skip (u := .bool true) rfl (fun vals w hd => hd 13 rfl) rfl ?_
 refine rt_skip (u := .bool true) rfl (fun vals w hd => hd 13 rfl) rfl ?_
 refine rt_skip (u := .bool true) rfl (fun vals w hd => hd 13 rfl) rfl ?_
 refine rt_v (fun vals w hR hd => v_orC (hd 13 rfl)) ?_
 refine rt_v (fun vals w hR hd => v_move (t := .bool _) (hd 17 rfl)) ?_
 refine rt_skip (u := .bool true) rfl (fun vals w hd => hd 18 rfl) rfl ?_
 refine rt_skip (u := .bool true) rfl (fun vals w hd => hd 18 rfl) rfl ?_
 refine rt_skip (u := .bool true) rfl (fun vals w hd => hd 18 rfl) rfl ?_
 refine rt_skip (u := .bool true) rfl (fun vals w hd => hd 18 rfl) rfl ?_
 refine rt_skip (u := .bool true) rfl (fun vals w hd => hd 18 rfl) rfl ?_
 refine rt_skip (u := .bool true) rfl (fun vals w hd => hd 18 rfl) rfl ?_
 refine rt_v (fun vals w hR hd => v_orC (hd 18 rfl)) ?_
 refine rt_nil (fun w108 e108 => ?_)
 rintro _ rfl _ rfl _ rfl _ rfl _ rfl _ rfl _ rfl _ rfl _ rfl _ rfl _ rfl _ rfl _ rfl _ rfl _ rfl _ rfl _ rfl _ rfl _ rfl _ rfl _ rfl _ rfl _ rfl _ rfl _ rfl _ rfl
 have := e108.size
 replace E := E.trans e108.keep
 replace HS1 := HS1.ext e108
 replace HB2 := HB2.ext e108
 replace HB1 := HB1.ext e108
 replace HR1 := HR1.ext e108
 replace HB5 := HB5.ext e108
 replace HG5 := HG5.ext e108
 refine fin_nil (n_then (c_cond rfl rfl (fun hz => ?_) (fun hz => ?_)))
 ·
  refine c_seq (wp_reg zd (l_v (v_build (pl := [(0, 1), (1, 9), (10, 6), (16, 1), (17, 1), (18, 1), (19, 1)]) (z := .agg #[.int .i64 0, .int .i64 0, .int .i64 0, .int .i64 0, .slice none 0 0, .slice none 0 0, .slice none 0 0, .slice none 0 0, .bool false, .int .i64 0, .int .i64 0, .slice none 0 0, .slice none 0 0, .bool false, .int .i64 0, .int .i64 0, .slice none 0 0, .slice none 0 0, .slice none 0 0, .int .i64 0]) (zl := [.int .i64 0, .int .i64 0, .int .i64 0, .int .i64 0, .slice none 0 0, .slice none 0 0, .slice none 0 0, .slice none 0 0, .bool false, .int .i64 0, .int .i64 0, .slice none 0 0, .slice none 0 0, .bool false, .int .i64 0, .int .i64 0, .slice none 0 0, .slice none 0 0, .slice none 0 0, .int .i64 0]) zk (by unfold kZero; kernel_rfl) rfl rfl (cells := [_, _, _, _, _, _, _, _, _, _, _, _, _, _, _, _, _, _, _, _]) rfl) ?_))
  refine l_to (to_storeA (n := 20) rfl rfl (zvA rfl) zk rfl (by first | (simp [slice_one]; done) | (simp only [List.forall_mem_cons, List.cons_append, List.nil_append]; repeat' (first | exact rfl | apply And.intro | (intro u hu; cases hu; done)))) HB2 dj5 ?_)
  rintro w93 HB2 k93 z93
  have := k93.size
  try simp only [zS, Nat.zero_add, Nat.reduceAdd, List.drop_nil] at HB2
  refine l_v (v_assign rfl) (l_nil (n_then (c_ret (r_then (ret2cv (n := 20) rfl zq zq rfl zk HB2.pv rfl (zvI rfl) ?_)))))
  replace E := E.step k93 dj3
  exact ⟨⟨_, cmZ, 4, rfl, (cmZ_agF.imp imp_cm), .inr ⟨rfl, rfl, rd_no hbk fun h => by cases h.1⟩⟩, E⟩
 cases hz
end Go.Proofs.YtogafjlbpodgjaaGreat
