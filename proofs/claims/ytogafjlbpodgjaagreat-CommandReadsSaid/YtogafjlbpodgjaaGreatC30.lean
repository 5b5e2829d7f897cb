/- A part of the proof: steps and lemmas for the walks through the given program. -/
import Derived.Test.YtogafjlbpodgjaaGreatC29
namespace Go.Proofs.YtogafjlbpodgjaaGreat
open Go.Vc
set_option linter.unusedVariables false
set_option linter.unusedSimpArgs false
set_option maxRecDepth 100000

set_option maxHeartbeats 4000000 in
theorem refrmove_c {w : World} {F : Nat → Prop} {bx rb : Nat} {l : List UInt8} {ok : Bool} (HB1 : Blk w bx [.pointer (some ⟨rb, 0, none⟩), .bool ok] 81) (HR0 : Rf w rb F l) (hF : ∀ k, F k → k < rb) (hx : rb < bx) (hl : l.length ≤ 1000000) : CallsR Tryz.prog 44 #[.pointer (some ⟨bx, 0, none⟩)] w (fun o w' => AgV tMv w' (fun b => w.heap.size ≤ b) o (qMv (l, ok)).1 ∧ (Blk w' bx [.pointer (some ⟨rb, 0, none⟩), .bool (qMv (l, ok)).2.2] 81 ∧ Rf w' rb F (qMv (l, ok)).2.1) ∧ Keep (fun k => k = bx ∨ k = rb) w w') := by
 have zb1 := HB1.lt
 refine enter 23 Tryz.func44 rfl rfl (by simp) ?_
 refine c_seq ?_
 have E := Keep.refl (K := fun k => k = bx ∨ k = rb) w
 refine wp_reg zd (l_to (to_alloc (z := (.agg #[.int .i64 0, .slice none 0 0, .slice none 0 0, .bool false, .int .i64 0, .int .i64 0])) (by unfold kZero; kernel_rfl) ?_))
 rintro b2 w2 zb2 HB2 e2 z2
 have := e2.size
 try simp only [Value.cells] at HB2
 replace HB1 := HB1.ext e2
 replace HR0 := HR0.ext e2
 refine l_nil (n_then (c_seq (wp_reg zd (l_v (zmP rfl) (l_to (to_f2 zk (zvP rfl) (zvI rfl) (CallsR.mono (refnum_c (most := 2147483647) HB1 HR0 hF hx zq) ?_)))))))
 rintro _ w5 ⟨rfl, ⟨HB1, HR5⟩, k5⟩
 have := k5.size
 replace HR5 : Rf w5 rb F (qS 2147483647 (l, ok)).1 := HR5
 replace HB1 : Blk w5 bx [.pointer (some ⟨rb, 0, none⟩), .bool (qS 2147483647 (l, ok)).2] 81 := HB1
 have hl5 : (qS 2147483647 (l, ok)).1.length ≤ _ := qS_le 2147483647 (l, ok)
 try dsimp only at hl5
 refine l_v (v_build (pl := [(0, 1), (1, 1), (2, 1), (3, 1), (4, 1), (5, 1)]) (z := .agg #[.int .i64 0, .slice none 0 0, .slice none 0 0, .bool false, .int .i64 0, .int .i64 0]) (zl := [.int .i64 0, .slice none 0 0, .slice none 0 0, .bool false, .int .i64 0, .int .i64 0]) zk (by unfold kZero; kernel_rfl) rfl rfl (cells := [_, _, _, _, _, _]) rfl) ?_
 refine l_to (to_alloc (z := (.agg #[.int .i64 0, .slice none 0 0, .slice none 0 0, .bool false, .int .i64 0, .int .i64 0])) (by unfold kZero; kernel_rfl) ?_)
 rintro b3 w6 zb3 HB3 e6 z6
 have := e6.size
 try simp only [Value.cells] at HB3
 refine l_to (to_storeA (n := 6) rfl rfl (zvA rfl) zk rfl (by first | (simp [slice_one]; done) | (simp only [List.forall_mem_cons, List.cons_append, List.nil_append]; repeat' (first | exact rfl | apply And.intro | (intro u hu; cases hu; done)))) HB3 dj5 ?_)
 rintro w7 HB3 k7 z7
 have := k7.size
 try simp only [zS, Nat.zero_add, Nat.reduceAdd, List.drop_nil] at HB3
 replace HB1 := (HB1.ext e6).keep k7 dj4
 replace HR5 := (HR5.ext e6).keep k7 dj7 (by intro i hi he; have hi0 := hi; have hi := hi; have he := he; (try dsimp only [NoK] at hi he); first | exact he.elim | omega | (have := hF i hi0; omega))
 refine l_nil (n_then (c_seq (wp_reg zd (l_v (zmP rfl) (l_to (to_f2 zk (zvP rfl) (zvI rfl) (CallsR.mono (refrbytes_c (most := 24) HB1 HR5 hF hx zq zo) ?_)))))))
 rintro _ w8 ⟨⟨a8, c8, rfl, HS8⟩, ⟨HB1, HR8⟩, k8⟩
 have := k8.size
 replace HR8 : Rf w8 rb F (qBS 24 (qS 2147483647 (l, ok))).1 := HR8
 replace HB1 : Blk w8 bx [.pointer (some ⟨rb, 0, none⟩), .bool (qBS 24 (qS 2147483647 (l, ok))).2] 81 := HB1
 have hl8 : (qBS 24 (qS 2147483647 (l, ok))).1.length ≤ _ := qBS_le 24 (qS 2147483647 (l, ok))
 try dsimp only at hl8
 replace HB3 := HB3.keep k8 dj4
 refine l_v (v_fieldAddr (off := 1) (ft := 24) zk rfl) (l_to (to_store rfl rfl (zvS rfl) rfl zk HB3 (by simp) ?_))
 rintro w9 HB3 k9 z9
 have := k9.size
 try simp only [zS, Nat.zero_add, Nat.reduceAdd, List.drop_nil] at HB3
 replace HB1 := HB1.keep k9 dj4
 replace HR8 := HR8.keep k9 dj7 (by intro i hi he; have hi0 := hi; have hi := hi; have he := he; (try dsimp only [NoK] at hi he); first | exact he.elim | omega | (have := hF i hi0; omega))
 refine l_nil (n_then (c_seq (wp_reg zd (l_v (zmP rfl) (l_to (to_f1 zk (zvP rfl) (CallsR.mono (refrflag_c HB1 HR8 hF hx) ?_)))))))
 replace HS8 := HS8.keep k9 dj1
 rintro _ w11 ⟨rfl, ⟨HB1, HR11⟩, k11⟩
 have := k11.size
 replace HR11 : Rf w11 rb F (qFS (qBS 24 (qS 2147483647 (l, ok)))).1 := HR11
 replace HB1 : Blk w11 bx [.pointer (some ⟨rb, 0, none⟩), .bool (qFS (qBS 24 (qS 2147483647 (l, ok)))).2] 81 := HB1
 have hl11 : (qFS (qBS 24 (qS 2147483647 (l, ok)))).1.length ≤ _ := qFS_le (qBS 24 (qS 2147483647 (l, ok)))
 try dsimp only at hl11
 replace HB3 := HB3.keep k11 dj4
 refine l_v (v_fieldAddr (off := 3) (ft := 4) zk rfl) (l_to (to_store rfl rfl (zvB rfl) rfl zk HB3 (by simp) ?_))
 rintro w12 HB3 k12 z12
 have := k12.size
 try simp only [zS, Nat.zero_add, Nat.reduceAdd, List.drop_nil] at HB3
 replace HB1 := HB1.keep k12 dj4
 replace HR11 := HR11.keep k12 dj7 (by intro i hi he; have hi0 := hi; have hi := hi; have he := he; (try dsimp only [NoK] at hi he); first | exact he.elim | omega | (have := hF i hi0; omega))
 refine l_nil (n_then (c_seq (wp_reg zd (l_v (zmP rfl) (l_to (to_f2 zk (zvP rfl) (zvI rfl) (CallsR.mono (refrbytes_c (most := 24) HB1 HR11 hF hx zq zo) ?_)))))))
 replace HS8 := (HS8.keep k11 dj1).keep k12 dj1
 rintro _ w14 ⟨⟨a14, c14, rfl, HS14⟩, ⟨HB1, HR14⟩, k14⟩
 have := k14.size
 replace HR14 : Rf w14 rb F (qBS 24 (qFS (qBS 24 (qS 2147483647 (l, ok))))).1 := HR14
 replace HB1 : Blk w14 bx [.pointer (some ⟨rb, 0, none⟩), .bool (qBS 24 (qFS (qBS 24 (qS 2147483647 (l, ok))))).2] 81 := HB1
 have hl14 : (qBS 24 (qFS (qBS 24 (qS 2147483647 (l, ok))))).1.length ≤ _ := qBS_le 24 (qFS (qBS 24 (qS 2147483647 (l, ok))))
 try dsimp only at hl14
 replace HB3 := HB3.keep k14 dj4
 refine l_v (v_fieldAddr (off := 2) (ft := 24) zk rfl) (l_to (to_store rfl rfl (zvS rfl) rfl zk HB3 (by simp) ?_))
 rintro w15 HB3 k15 z15
 have := k15.size
 try simp only [zS, Nat.zero_add, Nat.reduceAdd, List.drop_nil] at HB3
 replace HB1 := HB1.keep k15 dj4
 replace HR14 := HR14.keep k15 dj7 (by intro i hi he; have hi0 := hi; have hi := hi; have he := he; (try dsimp only [NoK] at hi he); first | exact he.elim | omega | (have := hF i hi0; omega))
 refine l_nil (n_then (c_seq (wp_reg zd (l_v (zmP rfl) (l_to (to_f2 zk (zvP rfl) (zvI rfl) (CallsR.mono (refnum_c (most := 5) HB1 HR14 hF hx zq) ?_)))))))
 replace HS8 := (HS8.keep k14 dj1).keep k15 dj1
 replace HS14 := HS14.keep k15 dj1
 rintro _ w17 ⟨rfl, ⟨HB1, HR17⟩, k17⟩
 have := k17.size
 replace HR17 : Rf w17 rb F (qS 5 (qBS 24 (qFS (qBS 24 (qS 2147483647 (l, ok)))))).1 := HR17
 replace HB1 : Blk w17 bx [.pointer (some ⟨rb, 0, none⟩), .bool (qS 5 (qBS 24 (qFS (qBS 24 (qS 2147483647 (l, ok)))))).2] 81 := HB1
 have hl17 : (qS 5 (qBS 24 (qFS (qBS 24 (qS 2147483647 (l, ok)))))).1.length ≤ _ := qS_le 5 (qBS 24 (qFS (qBS 24 (qS 2147483647 (l, ok)))))
 try dsimp only at hl17
 replace HB3 := HB3.keep k17 dj4
 refine l_v (v_fieldAddr (off := 4) (ft := 3) zk rfl) (l_to (to_store rfl rfl (zvI rfl) rfl zk HB3 (by simp) ?_))
 rintro w18 HB3 k18 z18
 have := k18.size
 try simp only [zS, Nat.zero_add, Nat.reduceAdd, List.drop_nil] at HB3
 replace HB1 := HB1.keep k18 dj4
 replace HR17 := HR17.keep k18 dj7 (by intro i hi he; have hi0 := hi; have hi := hi; have he := he; (try dsimp only [NoK] at hi he); first | exact he.elim | omega | (have := hF i hi0; omega))
 refine l_nil (n_then (c_seq (wp_reg zd (l_v (zmP rfl) (l_to (to_f2 zk (zvP rfl) (zvI rfl) (CallsR.mono (refnum_c (most := 5) HB1 HR17 hF hx zq) ?_)))))))
 replace HS8 := (HS8.keep k17 dj1).keep k18 dj1
 replace HS14 := (HS14.keep k17 dj1).keep k18 dj1
 rintro _ w20 ⟨rfl, ⟨HB1, HR20⟩, k20⟩
 have := k20.size
 replace HR20 : Rf w20 rb F (qS 5 (qS 5 (qBS 24 (qFS (qBS 24 (qS 2147483647 (l, ok))))))).1 := HR20
 replace HB1 : Blk w20 bx [.pointer (some ⟨rb, 0, none⟩), .bool (qS 5 (qS 5 (qBS 24 (qFS (qBS 24 (qS 2147483647 (l, ok))))))).2] 81 := HB1
 have hl20 : (qS 5 (qS 5 (qBS 24 (qFS (qBS 24 (qS 2147483647 (l, ok))))))).1.length ≤ _ := qS_le 5 (qS 5 (qBS 24 (qFS (qBS 24 (qS 2147483647 (l, ok))))))
 try dsimp only at hl20
 replace HB3 := HB3.keep k20 dj4
 refine l_v (v_fieldAddr (off := 5) (ft := 3) zk rfl) (l_to (to_store rfl rfl (zvI rfl) rfl zk HB3 (by simp) ?_))
 rintro w21 HB3 k21 z21
 have := k21.size
 try simp only [zS, Nat.zero_add, Nat.reduceAdd, List.drop_nil] at HB3
 replace HB2 := ((((((((((((HB2.keep k5 dj4).ext e6).keep k7 dj4).keep k8 dj4).keep k9 dj4).keep k11 dj4).keep k12 dj4).keep k14 dj4).keep k15 dj4).keep k17 dj4).keep k18 dj4).keep k20 dj4).keep k21 dj4
 replace HB1 := HB1.keep k21 dj4
 refine l_nil (n_then (c_seq (wp_reg zd (l_v (v_loadA zk rfl (by first | exact HB3.pv | exact HB1.pv | exact HB2.pv | assumption) rfl) ?_))))
 refine l_to (to_storeA (n := 6) rfl rfl (zvA rfl) zk rfl (by first | (simp [slice_one]; done) | (simp only [List.forall_mem_cons, List.cons_append, List.nil_append]; repeat' (first | exact rfl | apply And.intro | (intro u hu; cases hu; done)))) HB2 dj5 ?_)
 rintro w22 HB2 k22 z22
 have := k22.size
 try simp only [zS, Nat.zero_add, Nat.reduceAdd, List.drop_nil] at HB2
 refine l_nil (n_then (c_ret (ret1c (n := 6) rfl zq rfl zk HB2.pv rfl ?_)))
 replace E := ((((((((((((((E.trans e2.keep).step k5 dj3).trans e6.keep).step k7 dj3).step k8 dj3).step k9 dj3).step k11 dj3).step k12 dj3).step k14 dj3).step k15 dj3).step k17 dj3).step k18 dj3).step k20 dj3).step k21 dj3).step k22 dj3
 replace HS8 := ((HS8.keep k20 dj1).keep k21 dj1).keep k22 dj1
 replace HS14 := ((HS14.keep k20 dj1).keep k21 dj1).keep k22 dj1
 replace HR20 := (HR20.keep k21 dj7 (by intro i hi he; have hi0 := hi; have hi := hi; have he := he; (try dsimp only [NoK] at hi he); first | exact he.elim | omega | (have := hF i hi0; omega))).keep k22 dj7 (by intro i hi he; have hi0 := hi; have hi := hi; have he := he; (try dsimp only [NoK] at hi he); first | exact he.elim | omega | (have := hF i hi0; omega))
 replace HB1 := HB1.keep k22 dj4
 refine ⟨⟨_, rfl, tMv_mk (HS8.mono fun b _ h => by omega) (HS14.mono fun b _ h => by omega) (qV_wf _) (qV_wf _) (qV_wf _)⟩, ⟨HB1, HR20⟩, E⟩
set_option maxHeartbeats 8000000 in
theorem refrask_c {w : World} {F : Nat → Prop} {bx rb : Nat} {l : List UInt8} {ok : Bool} (HB1 : Blk w bx [.pointer (some ⟨rb, 0, none⟩), .bool ok] 81) (HR0 : Rf w rb F l) (hF : ∀ k, F k → k < rb) (hx : rb < bx) (hl : l.length ≤ 1000000) : CallsR Tryz.prog 43 #[.pointer (some ⟨bx, 0, none⟩)] w (fun o w' => AgV tAk w' (fun b => w.heap.size ≤ b) o (qAk (l, ok)).1 ∧ (Blk w' bx [.pointer (some ⟨rb, 0, none⟩), .bool (qAk (l, ok)).2.2] 81 ∧ Rf w' rb F (qAk (l, ok)).2.1) ∧ Keep (fun k => k = bx ∨ k = rb) w w') := by
 have zb1 := HB1.lt
 refine enter 36 Tryz.func43 rfl rfl (by simp) ?_
 refine c_seq ?_
 have E := Keep.refl (K := fun k => k = bx ∨ k = rb) w
 refine wp_reg zd (l_to (to_alloc (z := (.agg #[.int .i64 0, .slice none 0 0, .slice none 0 0, .slice none 0 0, .slice none 0 0, .bool false, .int .i64 0])) (by unfold kZero; kernel_rfl) ?_))
 rintro b2 w2 zb2 HB2 e2 z2
 have := e2.size
 try simp only [Value.cells] at HB2
 replace HB1 := HB1.ext e2
 replace HR0 := HR0.ext e2
 refine l_nil (n_then (c_seq (wp_reg zd (l_v (zmP rfl) (l_to (to_f2 zk (zvP rfl) (zvI rfl) (CallsR.mono (refnum_c (most := 9) HB1 HR0 hF hx zq) ?_)))))))
 rintro _ w5 ⟨rfl, ⟨HB1, HR5⟩, k5⟩
 have := k5.size
 replace HR5 : Rf w5 rb F (qS 9 (l, ok)).1 := HR5
 replace HB1 : Blk w5 bx [.pointer (some ⟨rb, 0, none⟩), .bool (qS 9 (l, ok)).2] 81 := HB1
 have hl5 : (qS 9 (l, ok)).1.length ≤ _ := qS_le 9 (l, ok)
 try dsimp only at hl5
 refine l_v (zmP rfl) (l_to (to_f2 zk (zvP rfl) (zvI rfl) (CallsR.mono (refrbytes_c (most := 24) HB1 HR5 hF hx zq zo) ?_)))
 rintro _ w7 ⟨⟨a7, c7, rfl, HS7⟩, ⟨HB1, HR7⟩, k7⟩
 have := k7.size
 replace HR7 : Rf w7 rb F (qBS 24 (qS 9 (l, ok))).1 := HR7
 replace HB1 : Blk w7 bx [.pointer (some ⟨rb, 0, none⟩), .bool (qBS 24 (qS 9 (l, ok))).2] 81 := HB1
 have hl7 : (qBS 24 (qS 9 (l, ok))).1.length ≤ _ := qBS_le 24 (qS 9 (l, ok))
 try dsimp only at hl7
 obtain ⟨n7, hn7⟩ : ∃ n, n = w7.heap.size := ⟨_, rfl⟩
 replace E := (E.trans e2.keep).step k5 dj3
 replace HB2 := HB2.keep k5 dj4
 replace HS7 := HS7.mono (F' := fun b => w5.heap.size ≤ b ∧ b < n7) fun b hb h => ⟨h, by omega⟩
 refine l_v (v_build (pl := [(0, 1), (1, 1), (2, 1), (3, 1), (4, 1), (5, 1), (6, 1)]) (z := .agg #[.int .i64 0, .slice none 0 0, .slice none 0 0, .slice none 0 0, .slice none 0 0, .bool false, .int .i64 0]) (zl := [.int .i64 0, .slice none 0 0, .slice none 0 0, .slice none 0 0, .slice none 0 0, .bool false, .int .i64 0]) zk (by unfold kZero; kernel_rfl) rfl rfl (cells := [_, _, _, _, _, _, _]) rfl) ?_
 refine l_to (to_alloc (z := (.agg #[.int .i64 0, .slice none 0 0, .slice none 0 0, .slice none 0 0, .slice none 0 0, .bool false, .int .i64 0])) (by unfold kZero; kernel_rfl) ?_)
 rintro b3 w8 zb3 HB3 e8 z8
 have := e8.size
 try simp only [Value.cells] at HB3
 refine l_to (to_storeA (n := 7) rfl rfl (zvA rfl) zk rfl (by first | (simp [slice_one]; done) | (simp only [List.forall_mem_cons, List.cons_append, List.nil_append]; repeat' (first | exact rfl | apply And.intro | (intro u hu; cases hu; done)))) HB3 dj5 ?_)
 rintro w9 HB3 k9 z9
 have := k9.size
 try simp only [zS, Nat.zero_add, Nat.reduceAdd, List.drop_nil] at HB3
 replace HB2 := ((HB2.keep k7 dj4).ext e8).keep k9 dj4
 replace HB1 := (HB1.ext e8).keep k9 dj4
 refine l_nil (n_then (c_seq (c_seq (wp_reg zd (l_v (v_fieldAddr (off := 0) (ft := 23) zk rfl) (l_v (v_load zk rfl (by first | exact HB3.pv 0 _ rfl | exact HB1.pv 0 _ rfl | exact HB2.pv 0 _ rfl | assumption)) ?_))))))
 refine l_nil (n_then (c_block (c_seq (wp_reg zd (l_v (v_eql rfl rfl) ?_)))))
 replace E := ((E.step k7 dj3).trans e8.keep).step k9 dj3
 replace HS7 := (HS7.ext e8).keep k9 dj1
 replace HR7 := (HR7.ext e8).keep k9 dj7 (by intro i hi he; have hi0 := hi; have hi := hi; have he := he; (try dsimp only [NoK] at hi he); first | exact he.elim | omega | (have := hF i hi0; omega))
 refine l_v (zaB rfl) (l_nil (n_then (c_cond rfl rfl (fun h2 => ?_) (fun h2 => ?_))))
 ·
  have hk : qV l = 2 := dtrue h2
  refine wp_reg zd (l_v (zmP rfl) (l_to (to_f2 zk (zvP rfl) (zvI rfl) (CallsR.mono (refrbytes_c (most := 40) HB1 HR7 hF hx zq zo) ?_))))
  rintro _ w14 ⟨⟨a14, c14, rfl, HS14⟩, ⟨HB1, HR14⟩, k14⟩
  have := k14.size
  replace HR14 : Rf w14 rb F (qBS 40 (qBS 24 (qS 9 (l, ok)))).1 := HR14
  replace HB1 : Blk w14 bx [.pointer (some ⟨rb, 0, none⟩), .bool (qBS 40 (qBS 24 (qS 9 (l, ok)))).2] 81 := HB1
  have hl14 : (qBS 40 (qBS 24 (qS 9 (l, ok)))).1.length ≤ _ := qBS_le 40 (qBS 24 (qS 9 (l, ok)))
  try dsimp only at hl14
  replace HB3 := HB3.keep k14 dj4
  refine l_v (v_fieldAddr (off := 3) (ft := 24) zk rfl) (l_to (to_store rfl rfl (zvS rfl) rfl zk HB3 (by simp) ?_))
  rintro w15 HB3 k15 z15
  have := k15.size
  try simp only [zS, Nat.zero_add, Nat.reduceAdd, List.drop_nil] at HB3
  replace HB2 := (HB2.keep k14 dj4).keep k15 dj4
  replace HB1 := HB1.keep k15 dj4
  refine l_nil (n_blk (n_then (c_seq (wp_reg zd (l_v (v_loadA zk rfl (by first | exact HB3.pv | exact HB1.pv | exact HB2.pv | assumption) rfl) ?_)))))
  refine l_to (to_storeA (n := 7) rfl rfl (zvA rfl) zk rfl (by first | (simp [slice_one]; done) | (simp only [List.forall_mem_cons, List.cons_append, List.nil_append]; repeat' (first | exact rfl | apply And.intro | (intro u hu; cases hu; done)))) HB2 dj5 ?_)
  rintro w95 HB2 k95 z95
  have := k95.size
  try simp only [zS, Nat.zero_add, Nat.reduceAdd, List.drop_nil] at HB2
  refine l_nil (n_then (c_ret (ret1c (n := 7) rfl zq rfl zk HB2.pv rfl ?_)))
  have hq : qAk (l, ok) = ((qV l, qB 24 (qS 9 (l, ok)).1, [], qB 40 (qBS 24 (qS 9 (l, ok))).1, [], false, 0), qBS 40 (qBS 24 (qS 9 (l, ok)))) := by rw [qAk]; dsimp only; exact if_pos hk
  rw [hq]
  replace E := ((E.step k14 dj3).step k15 dj3).step k95 dj3
  replace HS7 := ((HS7.keep k14 dj1).keep k15 dj1).keep k95 dj1
  replace HS14 := (HS14.keep k15 dj1).keep k95 dj1
  replace HR14 := (HR14.keep k15 dj7 (by intro i hi he; have hi0 := hi; have hi := hi; have he := he; (try dsimp only [NoK] at hi he); first | exact he.elim | omega | (have := hF i hi0; omega))).keep k95 dj7 (by intro i hi he; have hi0 := hi; have hi := hi; have he := he; (try dsimp only [NoK] at hi he); first | exact he.elim | omega | (have := hF i hi0; omega))
  replace HB1 := HB1.keep k95 dj4
  exact ⟨⟨_, rfl, tAk_mk (HS7.mono fun b _ h => by have := h.1; omega) (SlV.nil _ _ _) (HS14.mono fun b _ h => by omega) (SlV.nil _ _ _) (qV_wf _) ⟨by decide, by decide⟩⟩, ⟨HB1, HR14⟩, E⟩
 refine c_seq (wp_reg zd (l_v (v_eql rfl rfl) ?_))
 refine l_v (zaB rfl) (l_nil (n_then (c_cond rfl rfl (fun h4 => ?_) (fun h4 => ?_))))
 ·
  have hk2 : ¬ qV l = 2 := dfalse h2
  have hk : qV l = 4 := dtrue h4
  refine c_seq (wp_reg zd (l_v (zmP rfl) (l_to (to_f2 zk (zvP rfl) (zvI rfl) (CallsR.mono (refrbytes_c (most := 40) HB1 HR7 hF hx zq zo) ?_)))))
  rintro _ w19 ⟨⟨a19, c19, rfl, HS19⟩, ⟨HB1, HR19⟩, k19⟩
  have := k19.size
  replace HR19 : Rf w19 rb F (qBS 40 (qBS 24 (qS 9 (l, ok)))).1 := HR19
  replace HB1 : Blk w19 bx [.pointer (some ⟨rb, 0, none⟩), .bool (qBS 40 (qBS 24 (qS 9 (l, ok)))).2] 81 := HB1
  have hl19 : (qBS 40 (qBS 24 (qS 9 (l, ok)))).1.length ≤ _ := qBS_le 40 (qBS 24 (qS 9 (l, ok)))
  try dsimp only at hl19
  replace HB3 := HB3.keep k19 dj4
  refine l_v (v_fieldAddr (off := 3) (ft := 24) zk rfl) (l_to (to_store rfl rfl (zvS rfl) rfl zk HB3 (by simp) ?_))
  rintro w20 HB3 k20 z20
  have := k20.size
  try simp only [zS, Nat.zero_add, Nat.reduceAdd, List.drop_nil] at HB3
  replace HB1 := HB1.keep k20 dj4
  replace HR19 := HR19.keep k20 dj7 (by intro i hi he; have hi0 := hi; have hi := hi; have he := he; (try dsimp only [NoK] at hi he); first | exact he.elim | omega | (have := hF i hi0; omega))
  refine l_nil (n_then (c_seq (wp_reg zd (l_v (zmP rfl) (l_to (to_f2 zk (zvP rfl) (zvI rfl) (CallsR.mono (refrbytes_c (most := 40) HB1 HR19 hF hx zq zo) ?_)))))))
  replace HS7 := (HS7.keep k19 dj1).keep k20 dj1
  replace HS19 := HS19.keep k20 dj1
  rintro _ w22 ⟨⟨a22, c22, rfl, HS22⟩, ⟨HB1, HR22⟩, k22⟩
  have := k22.size
  replace HR22 : Rf w22 rb F (qBS 40 (qBS 40 (qBS 24 (qS 9 (l, ok))))).1 := HR22
  replace HB1 : Blk w22 bx [.pointer (some ⟨rb, 0, none⟩), .bool (qBS 40 (qBS 40 (qBS 24 (qS 9 (l, ok))))).2] 81 := HB1
  have hl22 : (qBS 40 (qBS 40 (qBS 24 (qS 9 (l, ok))))).1.length ≤ _ := qBS_le 40 (qBS 40 (qBS 24 (qS 9 (l, ok))))
  try dsimp only at hl22
  replace HB3 := HB3.keep k22 dj4
  refine l_v (v_fieldAddr (off := 4) (ft := 24) zk rfl) (l_to (to_store rfl rfl (zvS rfl) rfl zk HB3 (by simp) ?_))
  rintro w23 HB3 k23 z23
  have := k23.size
  try simp only [zS, Nat.zero_add, Nat.reduceAdd, List.drop_nil] at HB3
  replace HB1 := HB1.keep k23 dj4
  replace HR22 := HR22.keep k23 dj7 (by intro i hi he; have hi0 := hi; have hi := hi; have he := he; (try dsimp only [NoK] at hi he); first | exact he.elim | omega | (have := hF i hi0; omega))
  refine l_nil (n_then (wp_reg zd (l_v (zmP rfl) (l_to (to_f1 zk (zvP rfl) (CallsR.mono (refrflag_c HB1 HR22 hF hx) ?_))))))
  replace HS7 := (HS7.keep k22 dj1).keep k23 dj1
  replace HS19 := (HS19.keep k22 dj1).keep k23 dj1
  replace HS22 := HS22.keep k23 dj1
  rintro _ w25 ⟨rfl, ⟨HB1, HR25⟩, k25⟩
  have := k25.size
  replace HR25 : Rf w25 rb F (qFS (qBS 40 (qBS 40 (qBS 24 (qS 9 (l, ok)))))).1 := HR25
  replace HB1 : Blk w25 bx [.pointer (some ⟨rb, 0, none⟩), .bool (qFS (qBS 40 (qBS 40 (qBS 24 (qS 9 (l, ok)))))).2] 81 := HB1
  have hl25 : (qFS (qBS 40 (qBS 40 (qBS 24 (qS 9 (l, ok)))))).1.length ≤ _ := qFS_le (qBS 40 (qBS 40 (qBS 24 (qS 9 (l, ok)))))
  try dsimp only at hl25
  replace HB3 := HB3.keep k25 dj4
  refine l_v (v_fieldAddr (off := 5) (ft := 4) zk rfl) (l_to (to_store rfl rfl (zvB rfl) rfl zk HB3 (by simp) ?_))
  rintro w26 HB3 k26 z26
  have := k26.size
  try simp only [zS, Nat.zero_add, Nat.reduceAdd, List.drop_nil] at HB3
  replace HB2 := (((((HB2.keep k19 dj4).keep k20 dj4).keep k22 dj4).keep k23 dj4).keep k25 dj4).keep k26 dj4
  replace HB1 := HB1.keep k26 dj4
  refine l_nil (n_blk (n_then (c_seq (wp_reg zd (l_v (v_loadA zk rfl (by first | exact HB3.pv | exact HB1.pv | exact HB2.pv | assumption) rfl) ?_)))))
  refine l_to (to_storeA (n := 7) rfl rfl (zvA rfl) zk rfl (by first | (simp [slice_one]; done) | (simp only [List.forall_mem_cons, List.cons_append, List.nil_append]; repeat' (first | exact rfl | apply And.intro | (intro u hu; cases hu; done)))) HB2 dj5 ?_)
  rintro w95 HB2 k95 z95
  have := k95.size
  try simp only [zS, Nat.zero_add, Nat.reduceAdd, List.drop_nil] at HB2
  refine l_nil (n_then (c_ret (ret1c (n := 7) rfl zq rfl zk HB2.pv rfl ?_)))
  have hq : qAk (l, ok) = ((qV l, qB 24 (qS 9 (l, ok)).1, [], qB 40 (qBS 24 (qS 9 (l, ok))).1, qB 40 (qBS 40 (qBS 24 (qS 9 (l, ok)))).1, qFV (qBS 40 (qBS 40 (qBS 24 (qS 9 (l, ok))))).1, 0), qFS (qBS 40 (qBS 40 (qBS 24 (qS 9 (l, ok)))))) := by rw [qAk]; dsimp only; exact (if_neg hk2).trans (if_pos hk)
  rw [hq]
  replace E := ((((((E.step k19 dj3).step k20 dj3).step k22 dj3).step k23 dj3).step k25 dj3).step k26 dj3).step k95 dj3
  replace HS7 := ((HS7.keep k25 dj1).keep k26 dj1).keep k95 dj1
  replace HS19 := ((HS19.keep k25 dj1).keep k26 dj1).keep k95 dj1
  replace HS22 := ((HS22.keep k25 dj1).keep k26 dj1).keep k95 dj1
  replace HR25 := (HR25.keep k26 dj7 (by intro i hi he; have hi0 := hi; have hi := hi; have he := he; (try dsimp only [NoK] at hi he); first | exact he.elim | omega | (have := hF i hi0; omega))).keep k95 dj7 (by intro i hi he; have hi0 := hi; have hi := hi; have he := he; (try dsimp only [NoK] at hi he); first | exact he.elim | omega | (have := hF i hi0; omega))
  replace HB1 := HB1.keep k95 dj4
  exact ⟨⟨_, rfl, tAk_mk (HS7.mono fun b _ h => by have := h.1; omega) (SlV.nil _ _ _) (HS19.mono fun b _ h => by omega) (HS22.mono fun b _ h => by omega) (qV_wf _) ⟨by decide, by decide⟩⟩, ⟨HB1, HR25⟩, E⟩
 refine c_seq (wp_reg zd (l_v (v_eql rfl rfl) ?_))
 refine l_v (zaB rfl) (l_nil (n_then (c_cond rfl rfl (fun h5 => ?_) (fun h5 => ?_))))
 ·
  have hk2 : ¬ qV l = 2 := dfalse h2
  have hk4 : ¬ qV l = 4 := dfalse h4
  have hk : qV l = 5 := dtrue h5
  refine c_seq (wp_reg zd (l_v (zmP rfl) (l_to (to_f2 zk (zvP rfl) (zvI rfl) (CallsR.mono (refrbytes_c (most := 24) HB1 HR7 hF hx zq zo) ?_)))))
  rintro _ w30 ⟨⟨a30, c30, rfl, HS30⟩, ⟨HB1, HR30⟩, k30⟩
  have := k30.size
  replace HR30 : Rf w30 rb F (qBS 24 (qBS 24 (qS 9 (l, ok)))).1 := HR30
  replace HB1 : Blk w30 bx [.pointer (some ⟨rb, 0, none⟩), .bool (qBS 24 (qBS 24 (qS 9 (l, ok)))).2] 81 := HB1
  have hl30 : (qBS 24 (qBS 24 (qS 9 (l, ok)))).1.length ≤ _ := qBS_le 24 (qBS 24 (qS 9 (l, ok)))
  try dsimp only at hl30
  replace HB3 := HB3.keep k30 dj4
  refine l_v (v_fieldAddr (off := 2) (ft := 24) zk rfl) (l_to (to_store rfl rfl (zvS rfl) rfl zk HB3 (by simp) ?_))
  rintro w31 HB3 k31 z31
  have := k31.size
  try simp only [zS, Nat.zero_add, Nat.reduceAdd, List.drop_nil] at HB3
  replace HB1 := HB1.keep k31 dj4
  replace HR30 := HR30.keep k31 dj7 (by intro i hi he; have hi0 := hi; have hi := hi; have he := he; (try dsimp only [NoK] at hi he); first | exact he.elim | omega | (have := hF i hi0; omega))
  refine l_nil (n_then (wp_reg zd (l_v (zmP rfl) (l_to (to_f2 zk (zvP rfl) (zvI rfl) (CallsR.mono (refnum_c (most := 32) HB1 HR30 hF hx zq) ?_))))))
  replace HS7 := (HS7.keep k30 dj1).keep k31 dj1
  replace HS30 := HS30.keep k31 dj1
  rintro _ w33 ⟨rfl, ⟨HB1, HR33⟩, k33⟩
  have := k33.size
  replace HR33 : Rf w33 rb F (qS 32 (qBS 24 (qBS 24 (qS 9 (l, ok))))).1 := HR33
  replace HB1 : Blk w33 bx [.pointer (some ⟨rb, 0, none⟩), .bool (qS 32 (qBS 24 (qBS 24 (qS 9 (l, ok))))).2] 81 := HB1
  have hl33 : (qS 32 (qBS 24 (qBS 24 (qS 9 (l, ok))))).1.length ≤ _ := qS_le 32 (qBS 24 (qBS 24 (qS 9 (l, ok))))
  try dsimp only at hl33
  replace HB3 := HB3.keep k33 dj4
  refine l_v (v_fieldAddr (off := 6) (ft := 3) zk rfl) (l_to (to_store rfl rfl (zvI rfl) rfl zk HB3 (by simp) ?_))
  rintro w34 HB3 k34 z34
  have := k34.size
  try simp only [zS, Nat.zero_add, Nat.reduceAdd, List.drop_nil] at HB3
  replace HB2 := (((HB2.keep k30 dj4).keep k31 dj4).keep k33 dj4).keep k34 dj4
  replace HB1 := HB1.keep k34 dj4
  refine l_nil (n_blk (n_then (c_seq (wp_reg zd (l_v (v_loadA zk rfl (by first | exact HB3.pv | exact HB1.pv | exact HB2.pv | assumption) rfl) ?_)))))
  refine l_to (to_storeA (n := 7) rfl rfl (zvA rfl) zk rfl (by first | (simp [slice_one]; done) | (simp only [List.forall_mem_cons, List.cons_append, List.nil_append]; repeat' (first | exact rfl | apply And.intro | (intro u hu; cases hu; done)))) HB2 dj5 ?_)
  rintro w95 HB2 k95 z95
  have := k95.size
  try simp only [zS, Nat.zero_add, Nat.reduceAdd, List.drop_nil] at HB2
  refine l_nil (n_then (c_ret (ret1c (n := 7) rfl zq rfl zk HB2.pv rfl ?_)))
  have hq : qAk (l, ok) = ((qV l, qB 24 (qS 9 (l, ok)).1, qB 24 (qBS 24 (qS 9 (l, ok))).1, [], [], false, qV (qBS 24 (qBS 24 (qS 9 (l, ok)))).1), qS 32 (qBS 24 (qBS 24 (qS 9 (l, ok))))) := by rw [qAk]; dsimp only; exact (if_neg hk2).trans ((if_neg hk4).trans (if_pos hk))
  rw [hq]
  replace E := ((((E.step k30 dj3).step k31 dj3).step k33 dj3).step k34 dj3).step k95 dj3
  replace HS7 := ((HS7.keep k33 dj1).keep k34 dj1).keep k95 dj1
  replace HS30 := ((HS30.keep k33 dj1).keep k34 dj1).keep k95 dj1
  replace HR33 := (HR33.keep k34 dj7 (by intro i hi he; have hi0 := hi; have hi := hi; have he := he; (try dsimp only [NoK] at hi he); first | exact he.elim | omega | (have := hF i hi0; omega))).keep k95 dj7 (by intro i hi he; have hi0 := hi; have hi := hi; have he := he; (try dsimp only [NoK] at hi he); first | exact he.elim | omega | (have := hF i hi0; omega))
  replace HB1 := HB1.keep k95 dj4
  exact ⟨⟨_, rfl, tAk_mk (HS7.mono fun b _ h => by have := h.1; omega) (HS30.mono fun b _ h => by omega) (SlV.nil _ _ _) (SlV.nil _ _ _) (qV_wf _) (qV_wf _)⟩, ⟨HB1, HR33⟩, E⟩
 have hk2 : ¬ qV l = 2 := dfalse h2
 have hk4 : ¬ qV l = 4 := dfalse h4
 have hk5 : ¬ qV l = 5 := dfalse h5
 refine c_skip (n_blk (n_then (c_seq (wp_reg zd (l_v (v_loadA zk rfl (by first | exact HB3.pv | exact HB1.pv | exact HB2.pv | assumption) rfl) ?_)))))
 refine l_to (to_storeA (n := 7) rfl rfl (zvA rfl) zk rfl (by first | (simp [slice_one]; done) | (simp only [List.forall_mem_cons, List.cons_append, List.nil_append]; repeat' (first | exact rfl | apply And.intro | (intro u hu; cases hu; done)))) HB2 dj5 ?_)
 rintro w95 HB2 k95 z95
 have := k95.size
 try simp only [zS, Nat.zero_add, Nat.reduceAdd, List.drop_nil] at HB2
 refine l_nil (n_then (c_ret (ret1c (n := 7) rfl zq rfl zk HB2.pv rfl ?_)))
 have hq : qAk (l, ok) = ((qV l, qB 24 (qS 9 (l, ok)).1, [], [], [], false, 0), (qBS 24 (qS 9 (l, ok)))) := by rw [qAk]; dsimp only; exact (if_neg hk2).trans ((if_neg hk4).trans (if_neg hk5))
 rw [hq]
 replace E := E.step k95 dj3
 replace HS7 := HS7.keep k95 dj1
 replace HB1 := HB1.keep k95 dj4
 replace HR7 := HR7.keep k95 dj7 (by intro i hi he; have hi0 := hi; have hi := hi; have he := he; (try dsimp only [NoK] at hi he); first | exact he.elim | omega | (have := hF i hi0; omega))
 exact ⟨⟨_, rfl, tAk_mk (HS7.mono fun b _ h => by have := h.1; omega) (SlV.nil _ _ _) (SlV.nil _ _ _) (SlV.nil _ _ _) (qV_wf _) ⟨by decide, by decide⟩⟩, ⟨HB1, HR7⟩, E⟩
end Go.Proofs.YtogafjlbpodgjaaGreat
