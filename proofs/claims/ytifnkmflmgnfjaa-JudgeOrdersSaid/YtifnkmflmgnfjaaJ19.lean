/- A part of the proof: steps and lemmas for the walks through the given program. -/
import Derived.Test.YtifnkmflmgnfjaaJh
namespace Go.Proofs.Ytifnkmflmgnfjaa
open Go.Vc
set_option linter.unusedVariables false
set_option linter.unusedSimpArgs false
set_option maxRecDepth 100000

set_option maxHeartbeats 4000000 in
theorem try_c {r : List JdV} {br bd bv bo bt bm n1 : Nat} {ar : Option Addr} {cr : Nat} {Tv Tt : TypeId} (hr32 : r.length ≤ 32) (hak : ∀ x ∈ r, mayAk x.1.2.2 = true) (hord : br < bm ∧ bm < bv ∧ bv < bd ∧ bd < bo ∧ bo < bt ∧ bt < n1) :
    ∀ (n : Nat) {w : World} {d : List Bool} {ord : List Nat} {m : MapV} {ml : List (List UInt8 × Value)} {vm : Value} {ao : Option Addr} {co : Nat}, unD d = n → d.length = r.length → mayMp m = true → m.length + n ≤ 32 → ord.length + n ≤ 32 → n1 ≤ w.heap.size → VainOk r ml →
      Blk w br [.slice ar r.length cr] 37 → SlV tJd w (fun b => b ≠ bd ∧ b ≠ bo ∧ b ≠ bm ∧ (Value.slice ao ord.length co).ownBlock ≠ some b) (.slice ar r.length cr) r → Blk w bd [.int .u64 (bitN d : Nat)] 127 → Blk w bv [.map (some bm)] Tv → MpB kStr w bm ml →
      Blk w bo [.slice ao ord.length co] 53 → OwV (tInt .i64) 3 w n1 NoK (.slice ao ord.length co) (intsN ord) → Blk w bt [.func (.func 70) #[] #[.pointer (some ⟨br, 0, none⟩), .pointer (some ⟨bd, 0, none⟩), .pointer (some ⟨bv, 0, none⟩), .pointer (some ⟨bo, 0, none⟩), .pointer (some ⟨bt, 0, none⟩)]] Tt →
      SlV tPr w (fun b => b ≠ bd ∧ b ≠ bo ∧ b ≠ bm ∧ (Value.slice ao ord.length co).ownBlock ≠ some b) vm m →
      CallsR Try.prog 70 (#[vm] ++ #[.pointer (some ⟨br, 0, none⟩), .pointer (some ⟨bd, 0, none⟩), .pointer (some ⟨bv, 0, none⟩), .pointer (some ⟨bo, 0, none⟩), .pointer (some ⟨bt, 0, none⟩)]) w
        (fun o w' => TryP r bd bo bm n1 d ord m (.slice ao ord.length co) w.heap.size o w' ∧ Keep (fun b => b = bd ∨ b = bo ∨ b = bm ∨ (Value.slice ao ord.length co).ownBlock = some b) w w') := by
 intro n
 induction n using Nat.strongRecOn with
 | ind n ih =>
 intro w d ord m ml vm ao co hn hdl hmm hml hol hn1 hva HBr HSr HBd HBv HMm HBo HOo HBt HSm
 obtain ⟨am, cm, rfl⟩ := HSm.shape
 obtain ⟨v0, hv0⟩ : ∃ v, v = Value.slice ao ord.length co := ⟨_, rfl⟩
 obtain ⟨n0, hn0⟩ : ∃ k, k = w.heap.size := ⟨_, rfl⟩
 have zlr := HBr.lt
 have zlv := HBv.lt
 have zlt := HBt.lt
 have zld := HBd.lt
 obtain ⟨bx, hbx, hbs⟩ := hva.get hr32 hdl hmm
 have zor : ∀ b, v0.ownBlock = some b → n1 ≤ b ∧ b < n0 := by rw [hv0, hn0]; exact fun b h => HOo.own_lt h
 rw [← hv0] at HSr HSm ⊢
 replace HSr := HSr.mono (F' := fun b => (b ≠ bd ∧ b ≠ bo ∧ b ≠ bm ∧ v0.ownBlock ≠ some b) ∧ b < n0) fun b hb h => ⟨h, by omega⟩
 replace HSm := HSm.mono (F' := fun b => (b ≠ bd ∧ b ≠ bo ∧ b ≠ bm ∧ v0.ownBlock ≠ some b) ∧ b < n0) fun b hb h => ⟨h, by omega⟩
 show CallsR _ _ (#[_, _, _, _, _, _]) _ _
 refine enter 91 Try.func70 rfl rfl (by simp) ?_
 refine c_seq ?_
 have E := Keep.refl (K := fun b => b = bd ∨ b = bo ∨ b = bm ∨ v0.ownBlock = some b) w
 have zo_HOo := fun (b : Nat) h => HOo.own_lt (b := b) h
 refine wp_reg zd (l_v (v_assign rfl) (l_v (v_assign rfl) (l_nil (n_then (c_scope (c_seq (c_seq (wp_reg zd (l_v (v_load zk rfl (by first | exact HBt.cell rfl | exact HBo.cell rfl | exact HBv.cell rfl | exact HBd.cell rfl | exact HBr.cell rfl | assumption)) ?_)))))))))
 refine l_v (v_load zk rfl (by first | exact HBt.cell rfl | exact HBo.cell rfl | exact HBv.cell rfl | exact HBd.cell rfl | exact HBr.cell rfl | assumption)) ?_
 refine l_to (to_f2 zk (zvS rfl) (zvI rfl) (CallsR.mono (whole_c HSr hdl hr32) ?_))
 rintro _ w101 ⟨rfl, e101⟩
 have := e101.size
 replace E := E.trans e101.keep
 replace HBr := HBr.ext e101
 replace HSr := HSr.ext e101
 replace HBd := HBd.ext e101
 replace HBv := HBv.ext e101
 replace HMm := HMm.ext e101
 replace HBo := HBo.ext e101
 replace HOo := HOo.ext e101
 replace HBt := HBt.ext e101
 replace HSm := HSm.ext e101
 refine l_nil (n_then (c_cond rfl rfl (fun hw => ?_) (fun hw => ?_)))
 ·
  refine c_seq (wp_reg zd (l_v (zmS rfl) (l_v (zaS rfl) (l_v (v_assign rfl) (l_nil (n_then (c_ret (r_then (r_scp ?_)))))))))
  refine ret2v rfl zq zq (zvS rfl) (zvB rfl) ?_
  refine ⟨⟨am, m.length, cm, true, rfl, fun _ => ⟨[], m, ao, co, ?_, HSm.allB, ?_, ?_⟩, fun h => by cases h⟩, E⟩
  ·
   rw [seekU_eq hdl, if_pos hw]
  ·
   rw [List.append_nil]; exact HBo
  rw [List.append_nil]; exact HOo.view.mono fun b _ h => h.elim (fun h => h) (fun h => h.elim)
 refine c_skip (n_then (c_seq (wp_reg zd (l_v (v_load zk rfl (by first | exact HBt.cell rfl | exact HBo.cell rfl | exact HBv.cell rfl | exact HBd.cell rfl | exact HBr.cell rfl | assumption)) ?_))))
 refine l_v (zmS rfl) (l_to (to_f2 zk (zvI rfl) (zvS rfl) (CallsR.mono (state_c HSm (mayMp_ok hmm) zo) ?_)))
 rintro _ w102 ⟨rfl, e102⟩
 have := e102.size
 replace HBr := HBr.ext e102
 replace HBd := HBd.ext e102
 replace HBv := HBv.ext e102
 replace HBo := HBo.ext e102
 replace HBt := HBt.ext e102
 refine l_v (v_assign (t := .string _) rfl) (l_nil (n_then (c_seq (c_seq (wp_reg zd (l_v (v_load zk rfl (by first | exact HBt.cell rfl | exact HBo.cell rfl | exact HBv.cell rfl | exact HBd.cell rfl | exact HBr.cell rfl | assumption)) ?_))))))
 replace HMm := HMm.ext e102
 refine l_v (v_move (t := .string _) rfl) (l_v (v_lookupE (el := 130) (k := (keyS d m)) (z := .agg #[.bool false]) kStr ⟨9, by kernel_rfl, by kernel_rfl⟩ (by unfold kZero; kernel_rfl) rfl (zvG rfl) rfl HMm hbx) ?_)
 refine l_v (v_field (off := 0) (ft := 4) zk zk rfl rfl) ?_
 replace E := E.trans e102.keep
 replace HSr := HSr.ext e102
 replace HOo := HOo.ext e102
 replace HSm := HSm.ext e102
 refine l_nil (n_then (c_cond rfl rfl (fun hv => ?_) (fun hv => ?_)))
 ·
  refine c_seq (wp_reg zd (l_v (v_assign rfl) (l_v (v_assign rfl) (l_nil (n_then (c_ret (r_then (r_scp (ret2v rfl zq zq (zvS rfl) (zvB rfl) ?_)))))))))
  exact ⟨⟨none, 0, 0, false, rfl, fun h => (by cases h), fun _ => ⟨hbs hv, ao, co, ml, hva, HBd, HBo, HOo, HMm, fun b h => .inl (by rw [hv0]; exact h)⟩⟩, E⟩
 obtain ⟨nW, hnW⟩ : ∃ k, k = w102.heap.size := ⟨_, rfl⟩
 refine c_skip (n_then (c_seq (c_label (n_then (c_seq (c_seq (wp_reg zd (l_v (v_load zk rfl (by first | exact HBt.cell rfl | exact HBo.cell rfl | exact HBv.cell rfl | exact HBd.cell rfl | exact HBr.cell rfl | assumption)) ?_))))))))
 refine l_v (v_len (et := 86) zk rfl) ?_
 refine l_v (v_move rfl) (l_nil (n_then (c_block (c_loop (τ := Nat × Option Addr × Nat × List (List UInt8 × Value)) ([7, 8, 10, 11, 12, 13, 14, 15, 29, 30, 31, 32, 33, 34, 35, 36] ++ [37, 38, 39, 40, 41, 42, 43, 44, 45, 46, 47, 48, 49, 50, 51, 52] ++ [53, 54, 55, 56, 57, 58, 59, 60, 61, 62, 63, 64, 65, 66, 67, 68] ++ [69, 70, 71, 72, 73, 74, 75, 76, 77, 78, 79, 80, 81, 82, 83, 84] ++ [85, 86, 87]) (fun (i, a1, c1, ml1) => [(29, .int .i64 i)]) (fun (i, a1, c1, ml1) W => Keep (fun b => b = bd ∨ b = bo ∨ b = bm ∨ v0.ownBlock = some b) w W ∧ Keep (fun b => b = bd ∨ b = bo ∨ b = bm ∨ v0.ownBlock = some b ∨ n0 ≤ b) w102 W ∧ i ≤ r.length ∧ (∀ t, t < i → stepU r d m t = none) ∧ VainOk r ml1 ∧ (∀ b, (Value.slice a1 ord.length c1).ownBlock = some b → v0.ownBlock = some b ∨ n0 ≤ b) ∧ Blk W bd [.int .u64 (bitN d : Nat)] 127 ∧ Blk W bo [.slice a1 ord.length c1] 53 ∧ OwV (tInt .i64) 3 W n1 NoK (.slice a1 ord.length c1) (intsN ord) ∧ MpB kStr W bm ml1) (fun (i, a1, c1, ml1) => r.length - i) (0, ao, co, ml) (by exact ⟨rfl, trivial⟩) (by exact ⟨E, Keep.refl _, Nat.zero_le _, fun t ht => by omega, hva, fun b h => .inl (by rw [hv0]; exact h), HBd, HBo, HOo, HMm⟩) ?_))))
 rintro ⟨i, a1, c1, ml1⟩ w103 j ⟨E, EL1, h1, h2, hva1, hown, HBd, HBo, HOo, HMm⟩
 have := EL1.size
 have zo_HOo := fun (b : Nat) h => HOo.own_lt (b := b) h
 refine c_seq (wp_reg zd (l_v (v_lss rfl rfl) ?_))
 replace HBr := HBr.keep EL1 (by intro h; have he0 := h; (try dsimp only at h); (try simp only [Value.ownBlock, Option.some.injEq] at h); first | omega | (have he := he0; first | (obtain ⟨⟨g1, g2, g3, g4⟩, g5⟩ := hi; rcases he0 with h9 | h9 | h9 | h9 | h9; exact g1 h9; exact g2 h9; exact g3 h9; exact g4 h9; omega) | (rcases he with h9 | h9 | h9 | h9 | h9; omega; omega; omega; (have := zor _ h9; omega); omega)))
 replace HSr := HSr.keep EL1 (by intro i _ hi he; have he0 := he; (try dsimp only [NoK, AllB] at hi he); (try simp only [Value.ownBlock, Option.some.injEq] at he); first | exact hi.elim | exact he.elim | omega | (rcases hi with hi | hi <;> omega) | (rcases he with he | he <;> omega) | (first | (obtain ⟨⟨g1, g2, g3, g4⟩, g5⟩ := hi; rcases he0 with h9 | h9 | h9 | h9 | h9; exact g1 h9; exact g2 h9; exact g3 h9; exact g4 h9; omega) | (rcases he with h9 | h9 | h9 | h9 | h9; omega; omega; omega; (have := zor _ h9; omega); omega)))
 replace HBv := HBv.keep EL1 (by intro h; have he0 := h; (try dsimp only at h); (try simp only [Value.ownBlock, Option.some.injEq] at h); first | omega | (have he := he0; first | (obtain ⟨⟨g1, g2, g3, g4⟩, g5⟩ := hi; rcases he0 with h9 | h9 | h9 | h9 | h9; exact g1 h9; exact g2 h9; exact g3 h9; exact g4 h9; omega) | (rcases he with h9 | h9 | h9 | h9 | h9; omega; omega; omega; (have := zor _ h9; omega); omega)))
 replace HBt := HBt.keep EL1 (by intro h; have he0 := h; (try dsimp only at h); (try simp only [Value.ownBlock, Option.some.injEq] at h); first | omega | (have he := he0; first | (obtain ⟨⟨g1, g2, g3, g4⟩, g5⟩ := hi; rcases he0 with h9 | h9 | h9 | h9 | h9; exact g1 h9; exact g2 h9; exact g3 h9; exact g4 h9; omega) | (rcases he with h9 | h9 | h9 | h9 | h9; omega; omega; omega; (have := zor _ h9; omega); omega)))
 replace HSm := HSm.keep EL1 (by intro i _ hi he; have he0 := he; (try dsimp only [NoK, AllB] at hi he); (try simp only [Value.ownBlock, Option.some.injEq] at he); first | exact hi.elim | exact he.elim | omega | (rcases hi with hi | hi <;> omega) | (rcases he with he | he <;> omega) | (first | (obtain ⟨⟨g1, g2, g3, g4⟩, g5⟩ := hi; rcases he0 with h9 | h9 | h9 | h9 | h9; exact g1 h9; exact g2 h9; exact g3 h9; exact g4 h9; omega) | (rcases he with h9 | h9 | h9 | h9 | h9; omega; omega; omega; (have := zor _ h9; omega); omega)))
 refine l_nil (n_then (c_seq (c_cond rfl rfl (fun hlt => ?_) (fun hlt => ?_))))
 ·
  have hlt := dtrue hlt
  have hil : i < r.length := by omega
  obtain ⟨x, hx, _⟩ := getE (l := r) (i := i) hil
  have hax := hak x (List.mem_of_getElem? hx)
  obtain ⟨q, cs, hqq, hF, _, HPq, hr⟩ := HSr.el hx
  subst hqq
  obtain ⟨g1, y1, g2, y2, g3, y3, g4, y4, g5, y5, g6, y6, rfl, HGa, HGx, _⟩ := tJd_cells hr
  refine c_skip (n_then (c_seq (c_block (c_seq (wp_reg zd (l_v (zmI rfl) (l_v (v_indexAddr (et := 86) (sz := 14) (k := i) zk zk rfl rfl (by first | rfl | omega) zo) ?_)))))))
  refine l_v (v_loadA zk rfl (by first | exact HPq | exact HBo.pv | exact HBd.pv | exact HBt.pv | exact HBv.pv | exact HBr.pv | assumption) rfl) ?_
  refine l_to (to_alloc (z := (.agg #[.int .i64 0, .int .i64 0, .int .i64 0, .slice none 0 0, .slice none 0 0, .slice none 0 0, .slice none 0 0, .bool false, .int .i64 0, .int .i64 0, .int .i64 0, .int .i64 0, .slice none 0 0, .slice none 0 0])) (by unfold kZero; kernel_rfl) ?_)
  rintro b11 w11 zb11 HB11 e11 z11
  have := e11.size
  try simp only [Value.cells] at HB11
  refine l_v (zaI rfl) (l_to (to_storeA (n := 14) rfl rfl (zvA rfl) zk rfl dj6 HB11 dj5 ?_))
  rintro w104 HX104 k104 z104
  have := k104.size
  replace HB11 := HX104
  clear HX104
  try simp only [zS, Nat.zero_add, Nat.reduceAdd, List.drop_nil] at HB11
  replace HBr := (HBr.ext e11).keep k104 (by intro h; have he0 := h; (try dsimp only at h); (try simp only [Value.ownBlock, Option.some.injEq] at h); first | omega | (have he := he0; have := hi.2; omega))
  replace HBv := (HBv.ext e11).keep k104 (by intro h; have he0 := h; (try dsimp only at h); (try simp only [Value.ownBlock, Option.some.injEq] at h); first | omega | (have he := he0; have := hi.2; omega))
  replace HBt := (HBt.ext e11).keep k104 (by intro h; have he0 := h; (try dsimp only at h); (try simp only [Value.ownBlock, Option.some.injEq] at h); first | omega | (have he := he0; have := hi.2; omega))
  replace HBd := (HBd.ext e11).keep k104 (by intro h; have he0 := h; (try dsimp only at h); (try simp only [Value.ownBlock, Option.some.injEq] at h); first | omega | (have he := he0; have := hi.2; omega))
  replace HBo := (HBo.ext e11).keep k104 (by intro h; have he0 := h; (try dsimp only at h); (try simp only [Value.ownBlock, Option.some.injEq] at h); first | omega | (have he := he0; have := hi.2; omega))
  refine l_nil (n_then (c_seq (c_seq (wp_reg zd (l_v (v_load zk rfl (by first | exact HB11.cell rfl | exact HBo.cell rfl | exact HBd.cell rfl | exact HBt.cell rfl | exact HBv.cell rfl | exact HBr.cell rfl | assumption)) ?_)))))
  refine l_v (v_load zk rfl (by first | exact HB11.cell rfl | exact HBo.cell rfl | exact HBd.cell rfl | exact HBt.cell rfl | exact HBv.cell rfl | exact HBr.cell rfl | assumption)) ?_
  replace HSr := (HSr.ext e11).keep k104 (by intro i _ hi he; have he0 := he; (try dsimp only [NoK, AllB] at hi he); (try simp only [Value.ownBlock, Option.some.injEq] at he); first | exact hi.elim | exact he.elim | omega | (rcases hi with hi | hi <;> omega) | (rcases he with he | he <;> omega) | (have := hi.2; omega))
  refine l_v (zmI rfl) (l_to (to_f3 zk (zvS rfl) (zvI rfl) (zvI rfl) (CallsR.mono (may_c HSr hdl hr32 hil) ?_)))
  replace HSm := (HSm.ext e11).keep k104 (by intro i _ hi he; have he0 := he; (try dsimp only [NoK, AllB] at hi he); (try simp only [Value.ownBlock, Option.some.injEq] at he); first | exact hi.elim | exact he.elim | omega | (rcases hi with hi | hi <;> omega) | (rcases he with he | he <;> omega) | (have := hi.2; omega))
  replace HOo := (HOo.ext e11).keep k104 (by intro i ho he; have he0 := he; have ho0 := ho; (try dsimp only [NoK] at he); (try simp only [Value.ownBlock, Option.some.injEq, reduceCtorEq] at ho); (try simp only [Value.ownBlock, Option.some.injEq, reduceCtorEq] at he); first | exact he.elim | exact ho.elim | omega | (have := zo_HOo _ ho0; omega) | (have := hi.2; omega)) (by intro i _ hi _ he; have he0 := he; have hi := hi; have he := he; (try dsimp only [NoK, AllB] at hi he); (try simp only [Value.ownBlock, Option.some.injEq, reduceCtorEq] at he); all_goals first | exact hi.elim | exact hi.1.elim | exact he.elim | omega | (rcases hi with hi | hi <;> omega) | (rcases he with he | he <;> omega) | (have := hi.2; omega))
  replace HGa := (HGa.ext e11).keep k104 (by intro i _ hi he; have he0 := he; (try dsimp only [NoK, AllB] at hi he); (try simp only [Value.ownBlock, Option.some.injEq] at he); first | exact hi.elim | exact he.elim | omega | (rcases hi with hi | hi <;> omega) | (rcases he with he | he <;> omega) | (have := hi.2; omega))
  replace HGx := (HGx.ext e11).keep k104 (by intro i _ hi he; have he0 := he; (try dsimp only [NoK, AllB] at hi he); (try simp only [Value.ownBlock, Option.some.injEq] at he); first | exact hi.elim | exact he.elim | omega | (rcases hi with hi | hi <;> omega) | (rcases he with he | he <;> omega) | (have := hi.2; omega))
  rintro _ w105 ⟨rfl, e105⟩
  have := e105.size
  refine l_v (v_not rfl) ?_
  refine l_v (zmB rfl) (l_g1 rfl rfl (fun hG => v_fieldAddr (off := 10) (ft := 3) zk rfl) ?_)
  replace HBr := HBr.ext e105
  replace HBv := HBv.ext e105
  replace HBt := HBt.ext e105
  replace HBd := HBd.ext e105
  replace HBo := HBo.ext e105
  replace HB11 := HB11.ext e105
  refine l_g1 rfl rfl (fun hG => v_load zk (gd hG rfl) (by first | exact HB11.pv 10 _ rfl | exact HBo.pv 10 _ rfl | exact HBd.pv 10 _ rfl | exact HBt.pv 10 _ rfl | exact HBv.pv 10 _ rfl | exact HBr.pv 10 _ rfl | assumption)) ?_
  refine l_g1 rfl rfl (fun hG => v_geq (gd hG rfl) rfl) ?_
  refine l_g1 rfl rfl (fun hG => v_move (t := .bool _) (gd hG rfl)) ?_
  refine l_g2 rfl rfl (fun hG => zmS rfl) ?_
  refine l_g2 rfl rfl (fun hG => v_fieldAddr (off := 0) (ft := 77) zk rfl) ?_
  refine l_g2 rfl rfl (fun hG => v_fieldAddr (off := 2) (ft := 28) zk (gd hG rfl)) ?_
  refine l_g2 rfl rfl (fun hG => v_loadA zk (gd hG rfl) (by first | exact (show Pv _ _ [_, _, _, _, _, _, _] from pv_sub 2 7 HB11.pv) | exact (show Pv _ _ [_, _, _, _, _, _, _] from pv_sub 2 7 HBo.pv) | exact (show Pv _ _ [_, _, _, _, _, _, _] from pv_sub 2 7 HBd.pv) | exact (show Pv _ _ [_, _, _, _, _, _, _] from pv_sub 2 7 HBt.pv) | exact (show Pv _ _ [_, _, _, _, _, _, _] from pv_sub 2 7 HBv.pv) | exact (show Pv _ _ [_, _, _, _, _, _, _] from pv_sub 2 7 HBr.pv) | exact pv_at 2 HB11.pv | exact pv_at 2 HBo.pv | exact pv_at 2 HBd.pv | exact pv_at 2 HBt.pv | exact pv_at 2 HBv.pv | exact pv_at 2 HBr.pv | assumption) rfl) ?_
  refine l_g2 rfl rfl (fun hG => v_fieldAddr (off := 11) (ft := 31) zk rfl) ?_
  refine l_g2 rfl rfl (fun hG => v_loadA zk (gd hG rfl) (by first | exact (show Pv _ _ [_, _, _] from pv_sub 11 3 HB11.pv) | exact (show Pv _ _ [_, _, _] from pv_sub 11 3 HBo.pv) | exact (show Pv _ _ [_, _, _] from pv_sub 11 3 HBd.pv) | exact (show Pv _ _ [_, _, _] from pv_sub 11 3 HBt.pv) | exact (show Pv _ _ [_, _, _] from pv_sub 11 3 HBv.pv) | exact (show Pv _ _ [_, _, _] from pv_sub 11 3 HBr.pv) | exact pv_at 11 HB11.pv | exact pv_at 11 HBo.pv | exact pv_at 11 HBd.pv | exact pv_at 11 HBt.pv | exact pv_at 11 HBv.pv | exact pv_at 11 HBr.pv | assumption) rfl) ?_
  replace HSm := HSm.ext e105
  replace HGa := HGa.ext e105
  replace HGx := HGx.ext e105
  refine l_g2f rfl rfl (fun hG => to_f3 zk (gd hG rfl) (gd hG rfl) (gd hG rfl) (Fits_c HSm HGa HGx zo)) ?_
  rintro w106 e106
  have := e106.size
  refine l_g2 rfl rfl (fun hG => v_not (gd hG rfl)) ?_
  refine l_g1 rfl rfl (fun hG => v_and (gd hG rfl) (gda hG rfl)) ?_
  refine l_v (v_or rfl rfl) ?_
  replace E := (((E.trans e11.keep).step k104 (by intro i hi he; have he0 := he; (try dsimp only [NoK] at hi he ⊢); (try simp only [Value.ownBlock, Option.some.injEq] at he); first | exact he.elim | omega | exact he | (have := hi.2; omega))).trans e105.keep).trans e106.keep
  replace HMm := (((HMm.ext e11).keep k104 (by intro h; have he0 := h; (try dsimp only at h); (try simp only [Value.ownBlock, Option.some.injEq] at h); first | omega | (have he := he0; have := hi.2; omega))).ext e105).ext e106
  replace EL1 := (((EL1.trans e11.keep).step k104 (by intro i hi he; have he0 := he; (try dsimp only [NoK] at hi he ⊢); (try simp only [Value.ownBlock, Option.some.injEq] at he); first | exact he.elim | omega | exact he | (have := hi.2; omega))).trans e105.keep).trans e106.keep
  replace HPq := HPq.ext e11
  replace HSr := (HSr.ext e105).ext e106
  replace HOo := (HOo.ext e105).ext e106
  replace HBr := HBr.ext e106
  replace HBv := HBv.ext e106
  replace HBt := HBt.ext e106
  replace HSm := HSm.ext e106
  replace HBd := HBd.ext e106
  replace HBo := HBo.ext e106
  replace HGa := HGa.ext e106
  replace HGx := HGx.ext e106
  replace HB11 := HB11.ext e106
  refine l_nil (n_then (c_cond rfl rfl (fun hc => ?_) (fun hc => ?_)))
  ·
   refine c_exit (x_then (x_hit (n_then (wp_reg zd (l_v (v_add rfl rfl (by first | exact wr_i64 zo zo | rfl)) ?_)))))
   refine l_v (zmI rfl) (l_nil (n_then (⟨(i + 1, a1, c1, ml1), _, rfl, by (repeat' (first | exact Off.of_over _ _ _ | refine Off.upd ?_ zq _ | refine Off.overs ?_ zq _)), ⟨by first | rfl | exact congrArg (Value.int _) zo | (simp; done), trivial⟩, ⟨E, EL1, ?_⟩, ?_⟩)))
   ·
    refine ⟨by omega, fun t ht => ?_, hva1, hown, HBd, HBo, HOo, HMm⟩
    rcases Nat.lt_or_ge t i with h9 | h9
    ·
     exact h2 t h9
    obtain rfl : t = i := by omega
    rw [ge_not, cant, ← can_eq hx] at hc
    exact step_no hx (by simpa using hc)
   (dsimp only; omega)
  have hcan : canJ r d m i = true := by rw [ge_not, cant, ← can_eq hx] at hc; simpa using hc
  have hund : d.getD i false = false := by rw [can_eq hx] at hcan; simp only [Bool.and_eq_true] at hcan; exact mayJ_un hcan.1
  have hun := unD_set (d := d) (i := i) zo hund
  obtain ⟨n9, hn9⟩ : ∃ k, k = w106.heap.size := ⟨_, rfl⟩
  have hoa := zo_HOo
  have hil9 : (intsN ord).length = ord.length := by simp [intsN]
  refine c_skip (n_then (c_seq (wp_reg zd (l_v (zmS rfl) (l_v (v_fieldAddr (off := 0) (ft := 77) zk rfl) (l_v (v_fieldAddr (off := 2) (ft := 28) zk rfl) (l_v (v_loadA zk rfl (by first | exact (show Pv _ _ [_, _, _, _, _, _, _] from pv_sub 2 7 HB11.pv) | exact (show Pv _ _ [_, _, _, _, _, _, _] from pv_sub 2 7 HBo.pv) | exact (show Pv _ _ [_, _, _, _, _, _, _] from pv_sub 2 7 HBd.pv) | exact (show Pv _ _ [_, _, _, _, _, _, _] from pv_sub 2 7 HBt.pv) | exact (show Pv _ _ [_, _, _, _, _, _, _] from pv_sub 2 7 HBv.pv) | exact (show Pv _ _ [_, _, _, _, _, _, _] from pv_sub 2 7 HBr.pv) | exact pv_at 2 HB11.pv | exact pv_at 2 HBo.pv | exact pv_at 2 HBd.pv | exact pv_at 2 HBt.pv | exact pv_at 2 HBv.pv | exact pv_at 2 HBr.pv | assumption) rfl) ?_)))))))
  refine l_to (to_f2 zk (zvS rfl) (zvA rfl) (CallsR.mono (do_c HSm HGa hmm zo hax) ?_))
  rintro _ w13 ⟨u, y, rfl, HSu, HGy, e13⟩
  have := e13.size
  obtain ⟨u1, u2, rfl⟩ := HSu.shape
  obtain ⟨d1, d2, d3, d4, rfl, _⟩ := HGy.an
  replace HSu := HSu.mono (F' := fun b => b ≠ bd ∧ b ≠ bo ∧ b ≠ bm ∧ (Value.slice a1 ord.length c1).ownBlock ≠ some b ∧ b < w13.heap.size) fun b hb h => by
   rcases h with h | h
   ·
    exact ⟨h.1.1, h.1.2.1, h.1.2.2.1, fun ho => (hown b ho).elim (fun h9 => h.1.2.2.2 h9) (fun h9 => by have := h.2; omega), hb⟩
   exact ⟨by omega, by omega, by omega, fun ho => by have := hoa b ho; omega, hb⟩
  refine l_v (zmT rfl) (l_v (v_extract (t := .slice _ _ _) rfl rfl) (l_v (v_extract (t := .agg _) rfl rfl) (l_to (to_alloc (z := (.agg #[.int .i64 0, .slice none 0 0, .slice none 0 0])) (by unfold kZero; kernel_rfl) ?_))))
  rintro b12 w12 zb12 HB12 e12 z12
  have := e12.size
  try simp only [Value.cells] at HB12
  refine l_v (zaS rfl) (l_to (to_storeA (n := 3) rfl rfl (zvA rfl) zk rfl dj6 HB12 dj5 ?_))
  rintro w107 HX107 k107 z107
  have := k107.size
  replace HB12 := HX107
  clear HX107
  try simp only [zS, Nat.zero_add, Nat.reduceAdd, List.drop_nil] at HB12
  refine l_nil (n_then (c_seq (wp_any zk ?_)))
  have e108 : Ext w107 { w107 with drawn := w107.drawn + 1 } := Keep.drawn _ _
  replace E := ((E.trans e13.keep).trans e12.keep).step k107 (by intro i hi he; have he0 := he; (try dsimp only [NoK] at hi he ⊢); (try simp only [Value.ownBlock, Option.some.injEq] at he); first | exact he.elim | omega | exact he | (first | exact hi.1.1 he0 | exact hi.1.2.1 he0 | (rcases hown _ he0 with h9 | h9; exact hi.1.2.2.2 h9; (have := hi.2; omega)) | exact hi.1 he0 | exact hi.2.1 he0 | exact hi.2.2.2.1 he0 | (have := zo_HOo _ he; omega) | exact .inl he0 | exact .inr (.inl he0) | (rcases hown _ he0 with h9 | h9; exact .inr (.inr (.inr h9)); omega) | (rcases hown _ he0 with h9 | h9; exact .inr (.inr (.inr (.inl h9))); exact .inr (.inr (.inr (.inr h9))))))
  replace HBr := ((HBr.ext e13).ext e12).keep k107 (by intro h; have he0 := h; (try dsimp only at h); (try simp only [Value.ownBlock, Option.some.injEq] at h); first | omega | (have he := he0; first | exact hi.1.1 he0 | exact hi.1.2.1 he0 | (rcases hown _ he0 with h9 | h9; exact hi.1.2.2.2 h9; (have := hi.2; omega)) | exact hi.1 he0 | exact hi.2.1 he0 | exact hi.2.2.2.1 he0 | (have := zo_HOo _ he; omega) | exact .inl he0 | exact .inr (.inl he0) | (rcases hown _ he0 with h9 | h9; exact .inr (.inr (.inr h9)); omega) | (rcases hown _ he0 with h9 | h9; exact .inr (.inr (.inr (.inl h9))); exact .inr (.inr (.inr (.inr h9))))))
  replace HSr := ((HSr.ext e13).ext e12).keep k107 (by intro i _ hi he; have he0 := he; (try dsimp only [NoK, AllB] at hi he); (try simp only [Value.ownBlock, Option.some.injEq] at he); first | exact hi.elim | exact he.elim | omega | (rcases hi with hi | hi <;> omega) | (rcases he with he | he <;> omega) | (first | exact hi.1.1 he0 | exact hi.1.2.1 he0 | (rcases hown _ he0 with h9 | h9; exact hi.1.2.2.2 h9; (have := hi.2; omega)) | exact hi.1 he0 | exact hi.2.1 he0 | exact hi.2.2.2.1 he0 | (have := zo_HOo _ he; omega) | exact .inl he0 | exact .inr (.inl he0) | (rcases hown _ he0 with h9 | h9; exact .inr (.inr (.inr h9)); omega) | (rcases hown _ he0 with h9 | h9; exact .inr (.inr (.inr (.inl h9))); exact .inr (.inr (.inr (.inr h9))))))
  replace HBv := ((HBv.ext e13).ext e12).keep k107 (by intro h; have he0 := h; (try dsimp only at h); (try simp only [Value.ownBlock, Option.some.injEq] at h); first | omega | (have he := he0; first | exact hi.1.1 he0 | exact hi.1.2.1 he0 | (rcases hown _ he0 with h9 | h9; exact hi.1.2.2.2 h9; (have := hi.2; omega)) | exact hi.1 he0 | exact hi.2.1 he0 | exact hi.2.2.2.1 he0 | (have := zo_HOo _ he; omega) | exact .inl he0 | exact .inr (.inl he0) | (rcases hown _ he0 with h9 | h9; exact .inr (.inr (.inr h9)); omega) | (rcases hown _ he0 with h9 | h9; exact .inr (.inr (.inr (.inl h9))); exact .inr (.inr (.inr (.inr h9))))))
  replace HBt := ((HBt.ext e13).ext e12).keep k107 (by intro h; have he0 := h; (try dsimp only at h); (try simp only [Value.ownBlock, Option.some.injEq] at h); first | omega | (have he := he0; first | exact hi.1.1 he0 | exact hi.1.2.1 he0 | (rcases hown _ he0 with h9 | h9; exact hi.1.2.2.2 h9; (have := hi.2; omega)) | exact hi.1 he0 | exact hi.2.1 he0 | exact hi.2.2.2.1 he0 | (have := zo_HOo _ he; omega) | exact .inl he0 | exact .inr (.inl he0) | (rcases hown _ he0 with h9 | h9; exact .inr (.inr (.inr h9)); omega) | (rcases hown _ he0 with h9 | h9; exact .inr (.inr (.inr (.inl h9))); exact .inr (.inr (.inr (.inr h9))))))
  replace HSm := ((HSm.ext e13).ext e12).keep k107 (by intro i _ hi he; have he0 := he; (try dsimp only [NoK, AllB] at hi he); (try simp only [Value.ownBlock, Option.some.injEq] at he); first | exact hi.elim | exact he.elim | omega | (rcases hi with hi | hi <;> omega) | (rcases he with he | he <;> omega) | (first | exact hi.1.1 he0 | exact hi.1.2.1 he0 | (rcases hown _ he0 with h9 | h9; exact hi.1.2.2.2 h9; (have := hi.2; omega)) | exact hi.1 he0 | exact hi.2.1 he0 | exact hi.2.2.2.1 he0 | (have := zo_HOo _ he; omega) | exact .inl he0 | exact .inr (.inl he0) | (rcases hown _ he0 with h9 | h9; exact .inr (.inr (.inr h9)); omega) | (rcases hown _ he0 with h9 | h9; exact .inr (.inr (.inr (.inl h9))); exact .inr (.inr (.inr (.inr h9))))))
  replace HBd := ((HBd.ext e13).ext e12).keep k107 (by intro h; have he0 := h; (try dsimp only at h); (try simp only [Value.ownBlock, Option.some.injEq] at h); first | omega | (have he := he0; first | exact hi.1.1 he0 | exact hi.1.2.1 he0 | (rcases hown _ he0 with h9 | h9; exact hi.1.2.2.2 h9; (have := hi.2; omega)) | exact hi.1 he0 | exact hi.2.1 he0 | exact hi.2.2.2.1 he0 | (have := zo_HOo _ he; omega) | exact .inl he0 | exact .inr (.inl he0) | (rcases hown _ he0 with h9 | h9; exact .inr (.inr (.inr h9)); omega) | (rcases hown _ he0 with h9 | h9; exact .inr (.inr (.inr (.inl h9))); exact .inr (.inr (.inr (.inr h9))))))
  replace HBo := ((HBo.ext e13).ext e12).keep k107 (by intro h; have he0 := h; (try dsimp only at h); (try simp only [Value.ownBlock, Option.some.injEq] at h); first | omega | (have he := he0; first | exact hi.1.1 he0 | exact hi.1.2.1 he0 | (rcases hown _ he0 with h9 | h9; exact hi.1.2.2.2 h9; (have := hi.2; omega)) | exact hi.1 he0 | exact hi.2.1 he0 | exact hi.2.2.2.1 he0 | (have := zo_HOo _ he; omega) | exact .inl he0 | exact .inr (.inl he0) | (rcases hown _ he0 with h9 | h9; exact .inr (.inr (.inr h9)); omega) | (rcases hown _ he0 with h9 | h9; exact .inr (.inr (.inr (.inl h9))); exact .inr (.inr (.inr (.inr h9))))))
  replace HOo := ((HOo.ext e13).ext e12).keep k107 (by intro i ho he; have he0 := he; have ho0 := ho; (try dsimp only [NoK] at he); (try simp only [Value.ownBlock, Option.some.injEq, reduceCtorEq] at ho); (try simp only [Value.ownBlock, Option.some.injEq, reduceCtorEq] at he); first | exact he.elim | exact ho.elim | omega | (have := zo_HOo _ ho0; omega) | (first | exact hi.1.1 he0 | exact hi.1.2.1 he0 | (rcases hown _ he0 with h9 | h9; exact hi.1.2.2.2 h9; (have := hi.2; omega)) | exact hi.1 he0 | exact hi.2.1 he0 | exact hi.2.2.2.1 he0 | (have := zo_HOo _ he; omega) | exact .inl he0 | exact .inr (.inl he0) | (rcases hown _ he0 with h9 | h9; exact .inr (.inr (.inr h9)); omega) | (rcases hown _ he0 with h9 | h9; exact .inr (.inr (.inr (.inl h9))); exact .inr (.inr (.inr (.inr h9)))))) (by intro i _ hi _ he; have he0 := he; have hi := hi; have he := he; (try dsimp only [NoK, AllB] at hi he); (try simp only [Value.ownBlock, Option.some.injEq, reduceCtorEq] at he); all_goals first | exact hi.elim | exact hi.1.elim | exact he.elim | omega | (rcases hi with hi | hi <;> omega) | (rcases he with he | he <;> omega) | (first | exact hi.1.1 he0 | exact hi.1.2.1 he0 | (rcases hown _ he0 with h9 | h9; exact hi.1.2.2.2 h9; (have := hi.2; omega)) | exact hi.1 he0 | exact hi.2.1 he0 | exact hi.2.2.2.1 he0 | (have := zo_HOo _ he; omega) | exact .inl he0 | exact .inr (.inl he0) | (rcases hown _ he0 with h9 | h9; exact .inr (.inr (.inr h9)); omega) | (rcases hown _ he0 with h9 | h9; exact .inr (.inr (.inr (.inl h9))); exact .inr (.inr (.inr (.inr h9))))))
  replace HMm := ((HMm.ext e13).ext e12).keep k107 (by intro h; have he0 := h; (try dsimp only at h); (try simp only [Value.ownBlock, Option.some.injEq] at h); first | omega | (have he := he0; first | exact hi.1.1 he0 | exact hi.1.2.1 he0 | (rcases hown _ he0 with h9 | h9; exact hi.1.2.2.2 h9; (have := hi.2; omega)) | exact hi.1 he0 | exact hi.2.1 he0 | exact hi.2.2.2.1 he0 | (have := zo_HOo _ he; omega) | exact .inl he0 | exact .inr (.inl he0) | (rcases hown _ he0 with h9 | h9; exact .inr (.inr (.inr h9)); omega) | (rcases hown _ he0 with h9 | h9; exact .inr (.inr (.inr (.inl h9))); exact .inr (.inr (.inr (.inr h9))))))
  replace EL1 := ((EL1.trans e13.keep).trans e12.keep).step k107 (by intro i hi he; have he0 := he; (try dsimp only [NoK] at hi he ⊢); (try simp only [Value.ownBlock, Option.some.injEq] at he); first | exact he.elim | omega | exact he | (first | exact hi.1.1 he0 | exact hi.1.2.1 he0 | (rcases hown _ he0 with h9 | h9; exact hi.1.2.2.2 h9; (have := hi.2; omega)) | exact hi.1 he0 | exact hi.2.1 he0 | exact hi.2.2.2.1 he0 | (have := zo_HOo _ he; omega) | exact .inl he0 | exact .inr (.inl he0) | (rcases hown _ he0 with h9 | h9; exact .inr (.inr (.inr h9)); omega) | (rcases hown _ he0 with h9 | h9; exact .inr (.inr (.inr (.inl h9))); exact .inr (.inr (.inr (.inr h9))))))
  replace HSu := (HSu.ext e12).keep k107 (by intro i _ hi he; have he0 := he; (try dsimp only [NoK, AllB] at hi he); (try simp only [Value.ownBlock, Option.some.injEq] at he); first | exact hi.elim | exact he.elim | omega | (rcases hi with hi | hi <;> omega) | (rcases he with he | he <;> omega) | (first | exact hi.1.1 he0 | exact hi.1.2.1 he0 | (rcases hown _ he0 with h9 | h9; exact hi.1.2.2.2 h9; (have := hi.2; omega)) | exact hi.1 he0 | exact hi.2.1 he0 | exact hi.2.2.2.1 he0 | (have := zo_HOo _ he; omega) | exact .inl he0 | exact .inr (.inl he0) | (rcases hown _ he0 with h9 | h9; exact .inr (.inr (.inr h9)); omega) | (rcases hown _ he0 with h9 | h9; exact .inr (.inr (.inr (.inl h9))); exact .inr (.inr (.inr (.inr h9))))))
  generalize hw108 : ({ w107 with drawn := w107.drawn + 1 } : World) = w108 at e108 ⊢
  clear hw108
  have := e108.size
  refine r_cut 4 rfl zd zd zd ?_
  refine wp_regdW (NoK) zd zd ?_
  replace HBr := HBr.ext e108
  replace HBv := HBv.ext e108
  replace HBt := HBt.ext e108
  replace HBd := HBd.ext e108
  replace HBo := HBo.ext e108
  refine rt_v (fun vals w hR hd => v_load zk rfl (by first | exact (HBo.ext hR).cell rfl | exact (HBd.ext hR).cell rfl | exact (HBt.ext hR).cell rfl | exact (HBv.ext hR).cell rfl | exact (HBr.ext hR).cell rfl | assumption)) ?_
  refine rt_v (fun vals w hR hd => zmI rfl) ?_
  refine rt_v (fun vals w hR hd => v_shl (t := ((2 ^ i : Nat) : Int)) rfl (hd 1 rfl) (by first | decide | omega) (shl64 i zo)) ?_
  refine rt_v (fun vals w hR hd => v_bor (t := ((bitN (d.set i true) : Nat) : Int)) (hd 0 rfl) (hd 2 rfl) (or_bit zo zo)) ?_
  refine rt_nil (fun w109 e109 => ?_)
  rintro _ rfl _ rfl _ rfl _ rfl
  have := e109.size
  refine fin_nil (n_then (r_one zd rfl ?_))
  replace HBd := HBd.ext e109
  refine l_to (to_store rfl rfl (zvI rfl) rfl zk HBd dj5 ?_)
  rintro w110 HX110 k110 z110
  have := k110.size
  replace HBd := HX110
  clear HX110
  try simp only [zS, Nat.zero_add, Nat.reduceAdd, List.drop_nil] at HBd
  replace HBr := (HBr.ext e109).keep k110 (by intro h; have he0 := h; (try dsimp only at h); (try simp only [Value.ownBlock, Option.some.injEq] at h); first | omega | (have he := he0; first | exact hi.1.1 he0 | exact hi.1.2.1 he0 | (rcases hown _ he0 with h9 | h9; exact hi.1.2.2.2 h9; (have := hi.2; omega)) | exact hi.1 he0 | exact hi.2.1 he0 | exact hi.2.2.2.1 he0 | (have := zo_HOo _ he; omega) | exact .inl he0 | exact .inr (.inl he0) | (rcases hown _ he0 with h9 | h9; exact .inr (.inr (.inr h9)); omega) | (rcases hown _ he0 with h9 | h9; exact .inr (.inr (.inr (.inl h9))); exact .inr (.inr (.inr (.inr h9))))))
  replace HBv := (HBv.ext e109).keep k110 (by intro h; have he0 := h; (try dsimp only at h); (try simp only [Value.ownBlock, Option.some.injEq] at h); first | omega | (have he := he0; first | exact hi.1.1 he0 | exact hi.1.2.1 he0 | (rcases hown _ he0 with h9 | h9; exact hi.1.2.2.2 h9; (have := hi.2; omega)) | exact hi.1 he0 | exact hi.2.1 he0 | exact hi.2.2.2.1 he0 | (have := zo_HOo _ he; omega) | exact .inl he0 | exact .inr (.inl he0) | (rcases hown _ he0 with h9 | h9; exact .inr (.inr (.inr h9)); omega) | (rcases hown _ he0 with h9 | h9; exact .inr (.inr (.inr (.inl h9))); exact .inr (.inr (.inr (.inr h9))))))
  replace HBt := (HBt.ext e109).keep k110 (by intro h; have he0 := h; (try dsimp only at h); (try simp only [Value.ownBlock, Option.some.injEq] at h); first | omega | (have he := he0; first | exact hi.1.1 he0 | exact hi.1.2.1 he0 | (rcases hown _ he0 with h9 | h9; exact hi.1.2.2.2 h9; (have := hi.2; omega)) | exact hi.1 he0 | exact hi.2.1 he0 | exact hi.2.2.2.1 he0 | (have := zo_HOo _ he; omega) | exact .inl he0 | exact .inr (.inl he0) | (rcases hown _ he0 with h9 | h9; exact .inr (.inr (.inr h9)); omega) | (rcases hown _ he0 with h9 | h9; exact .inr (.inr (.inr (.inl h9))); exact .inr (.inr (.inr (.inr h9))))))
  replace HBo := (HBo.ext e109).keep k110 (by intro h; have he0 := h; (try dsimp only at h); (try simp only [Value.ownBlock, Option.some.injEq] at h); first | omega | (have he := he0; first | exact hi.1.1 he0 | exact hi.1.2.1 he0 | (rcases hown _ he0 with h9 | h9; exact hi.1.2.2.2 h9; (have := hi.2; omega)) | exact hi.1 he0 | exact hi.2.1 he0 | exact hi.2.2.2.1 he0 | (have := zo_HOo _ he; omega) | exact .inl he0 | exact .inr (.inl he0) | (rcases hown _ he0 with h9 | h9; exact .inr (.inr (.inr h9)); omega) | (rcases hown _ he0 with h9 | h9; exact .inr (.inr (.inr (.inl h9))); exact .inr (.inr (.inr (.inr h9))))))
  refine l_nil (n_then (c_seq (wp_reg zd (l_v (v_load zk rfl (by first | exact HBo.cell rfl | exact HBd.cell rfl | exact HBt.cell rfl | exact HBv.cell rfl | exact HBr.cell rfl | assumption)) ?_))))
  refine l_v (zmI rfl) (l_to (to_slice1 (t := tInt .i64) (et := 3) (bytes := 8) zk zq (zvI rfl) ((show (tInt .i64).rep _ NoK [.int .i64 (i : Int)] (i : Int) from ⟨rfl, wf_of_i64 ⟨by omega, by omega⟩⟩)) ?_))
  rintro b14 w14 zb14 HO14 e14 z14
  have := e14.size
  have zo_HO14 := fun (b : Nat) h => HO14.own_lt (b := b) h
  replace HOo := (((HOo.ext e108).ext e109).keep k110 (by intro i ho he; have he0 := he; have ho0 := ho; (try dsimp only [NoK] at he); (try simp only [Value.ownBlock, Option.some.injEq, reduceCtorEq] at ho); (try simp only [Value.ownBlock, Option.some.injEq, reduceCtorEq] at he); first | exact he.elim | exact ho.elim | omega | (have := zo_HOo _ ho0; omega) | (first | exact hi.1.1 he0 | exact hi.1.2.1 he0 | (rcases hown _ he0 with h9 | h9; exact hi.1.2.2.2 h9; (have := hi.2; omega)) | exact hi.1 he0 | exact hi.2.1 he0 | exact hi.2.2.2.1 he0 | (have := zo_HOo _ he; omega) | exact .inl he0 | exact .inr (.inl he0) | (rcases hown _ he0 with h9 | h9; exact .inr (.inr (.inr h9)); omega) | (rcases hown _ he0 with h9 | h9; exact .inr (.inr (.inr (.inl h9))); exact .inr (.inr (.inr (.inr h9)))))) (by intro i _ hi _ he; have he0 := he; have hi := hi; have he := he; (try dsimp only [NoK, AllB] at hi he); (try simp only [Value.ownBlock, Option.some.injEq, reduceCtorEq] at he); all_goals first | exact hi.elim | exact hi.1.elim | exact he.elim | omega | (rcases hi with hi | hi <;> omega) | (rcases he with he | he <;> omega) | (first | exact hi.1.1 he0 | exact hi.1.2.1 he0 | (rcases hown _ he0 with h9 | h9; exact hi.1.2.2.2 h9; (have := hi.2; omega)) | exact hi.1 he0 | exact hi.2.1 he0 | exact hi.2.2.2.1 he0 | (have := zo_HOo _ he; omega) | exact .inl he0 | exact .inr (.inl he0) | (rcases hown _ he0 with h9 | h9; exact .inr (.inr (.inr h9)); omega) | (rcases hown _ he0 with h9 | h9; exact .inr (.inr (.inr (.inl h9))); exact .inr (.inr (.inr (.inr h9))))))).ext e14
  refine l_to (to_append (et := 3) (bytes := 8) zk (zvS rfl) HOo (zvS rfl) HO14.view ((fun cs z h => h)) (by first | omega | (simp; done) | (simp; omega)) (by simp only [maxLen]; first | omega | (simp; done) | (simp; omega)) zo ?_)
  rintro a15 n15 c15 w15 HO15 hn15 k15 h15 i15
  have := k15.size
  replace E := (((E.trans e108.keep).trans e109.keep).step k110 (by intro i hi he; have he0 := he; (try dsimp only [NoK] at hi he ⊢); (try simp only [Value.ownBlock, Option.some.injEq] at he); first | exact he.elim | omega | exact he | (first | exact hi.1.1 he0 | exact hi.1.2.1 he0 | (rcases hown _ he0 with h9 | h9; exact hi.1.2.2.2 h9; (have := hi.2; omega)) | exact hi.1 he0 | exact hi.2.1 he0 | exact hi.2.2.2.1 he0 | (have := zo_HOo _ he; omega) | exact .inl he0 | exact .inr (.inl he0) | (rcases hown _ he0 with h9 | h9; exact .inr (.inr (.inr h9)); omega) | (rcases hown _ he0 with h9 | h9; exact .inr (.inr (.inr (.inl h9))); exact .inr (.inr (.inr (.inr h9))))))).trans e14.keep
  replace HSr := (((HSr.ext e108).ext e109).keep k110 (by intro i _ hi he; have he0 := he; (try dsimp only [NoK, AllB] at hi he); (try simp only [Value.ownBlock, Option.some.injEq] at he); first | exact hi.elim | exact he.elim | omega | (rcases hi with hi | hi <;> omega) | (rcases he with he | he <;> omega) | (first | exact hi.1.1 he0 | exact hi.1.2.1 he0 | (rcases hown _ he0 with h9 | h9; exact hi.1.2.2.2 h9; (have := hi.2; omega)) | exact hi.1 he0 | exact hi.2.1 he0 | exact hi.2.2.2.1 he0 | (have := zo_HOo _ he; omega) | exact .inl he0 | exact .inr (.inl he0) | (rcases hown _ he0 with h9 | h9; exact .inr (.inr (.inr h9)); omega) | (rcases hown _ he0 with h9 | h9; exact .inr (.inr (.inr (.inl h9))); exact .inr (.inr (.inr (.inr h9))))))).ext e14
  replace HSm := (((HSm.ext e108).ext e109).keep k110 (by intro i _ hi he; have he0 := he; (try dsimp only [NoK, AllB] at hi he); (try simp only [Value.ownBlock, Option.some.injEq] at he); first | exact hi.elim | exact he.elim | omega | (rcases hi with hi | hi <;> omega) | (rcases he with he | he <;> omega) | (first | exact hi.1.1 he0 | exact hi.1.2.1 he0 | (rcases hown _ he0 with h9 | h9; exact hi.1.2.2.2 h9; (have := hi.2; omega)) | exact hi.1 he0 | exact hi.2.1 he0 | exact hi.2.2.2.1 he0 | (have := zo_HOo _ he; omega) | exact .inl he0 | exact .inr (.inl he0) | (rcases hown _ he0 with h9 | h9; exact .inr (.inr (.inr h9)); omega) | (rcases hown _ he0 with h9 | h9; exact .inr (.inr (.inr (.inl h9))); exact .inr (.inr (.inr (.inr h9))))))).ext e14
  replace HMm := (((HMm.ext e108).ext e109).keep k110 (by intro h; have he0 := h; (try dsimp only at h); (try simp only [Value.ownBlock, Option.some.injEq] at h); first | omega | (have he := he0; first | exact hi.1.1 he0 | exact hi.1.2.1 he0 | (rcases hown _ he0 with h9 | h9; exact hi.1.2.2.2 h9; (have := hi.2; omega)) | exact hi.1 he0 | exact hi.2.1 he0 | exact hi.2.2.2.1 he0 | (have := zo_HOo _ he; omega) | exact .inl he0 | exact .inr (.inl he0) | (rcases hown _ he0 with h9 | h9; exact .inr (.inr (.inr h9)); omega) | (rcases hown _ he0 with h9 | h9; exact .inr (.inr (.inr (.inl h9))); exact .inr (.inr (.inr (.inr h9))))))).ext e14
  replace EL1 := (((EL1.trans e108.keep).trans e109.keep).step k110 (by intro i hi he; have he0 := he; (try dsimp only [NoK] at hi he ⊢); (try simp only [Value.ownBlock, Option.some.injEq] at he); first | exact he.elim | omega | exact he | (first | exact hi.1.1 he0 | exact hi.1.2.1 he0 | (rcases hown _ he0 with h9 | h9; exact hi.1.2.2.2 h9; (have := hi.2; omega)) | exact hi.1 he0 | exact hi.2.1 he0 | exact hi.2.2.2.1 he0 | (have := zo_HOo _ he; omega) | exact .inl he0 | exact .inr (.inl he0) | (rcases hown _ he0 with h9 | h9; exact .inr (.inr (.inr h9)); omega) | (rcases hown _ he0 with h9 | h9; exact .inr (.inr (.inr (.inl h9))); exact .inr (.inr (.inr (.inr h9))))))).trans e14.keep
  replace HSu := (((HSu.ext e108).ext e109).keep k110 (by intro i _ hi he; have he0 := he; (try dsimp only [NoK, AllB] at hi he); (try simp only [Value.ownBlock, Option.some.injEq] at he); first | exact hi.elim | exact he.elim | omega | (rcases hi with hi | hi <;> omega) | (rcases he with he | he <;> omega) | (first | exact hi.1.1 he0 | exact hi.1.2.1 he0 | (rcases hown _ he0 with h9 | h9; exact hi.1.2.2.2 h9; (have := hi.2; omega)) | exact hi.1 he0 | exact hi.2.1 he0 | exact hi.2.2.2.1 he0 | (have := zo_HOo _ he; omega) | exact .inl he0 | exact .inr (.inl he0) | (rcases hown _ he0 with h9 | h9; exact .inr (.inr (.inr h9)); omega) | (rcases hown _ he0 with h9 | h9; exact .inr (.inr (.inr (.inl h9))); exact .inr (.inr (.inr (.inr h9))))))).ext e14
  obtain rfl : n15 = (ord ++ [i]).length := by rw [hn15]; simp [intsN]
  rw [show intsN ord ++ [(i : Int)] = intsN (ord ++ [i]) by simp [intsN]] at HO15
  replace HGa := (HGa.ext e13).ext e12
  replace HGx := (HGx.ext e13).ext e12
  replace HB11 := (HB11.ext e13).ext e12
  replace HGy := HGy.ext e12
  replace HBr := HBr.ext e14
  replace HBv := HBv.ext e14
  replace HBt := HBt.ext e14
  replace HBd := HBd.ext e14
  replace HBo := HBo.ext e14
  have hz15 : ∀ b, (Value.slice a15 (ord ++ [i]).length c15).ownBlock = some b → v0.ownBlock = some b ∨ n0 ≤ b := fun b h => by
   rcases h15 b h with h9 | h9
   ·
    exact hown b h9
   exact .inr zo
  have zo_HO15 := fun (b : Nat) h => HO15.own_lt (b := b) h
  replace HSr := HSr.keep k15 (by intro i _ hi he; have he0 := he; (try dsimp only [NoK, AllB] at hi he); (try simp only [Value.ownBlock, Option.some.injEq] at he); first | exact hi.elim | exact he.elim | omega | (rcases hi with hi | hi <;> omega) | (rcases he with he | he <;> omega) | (have := (HOo).own_lt he0; omega) | (have := zo_HOo _ he0; omega) | (have := (HOo).own_lt he0; rcases hi with hi | hi <;> omega) | (first | exact hi.1.1 he0 | exact hi.1.2.1 he0 | (rcases hown _ he0 with h9 | h9; exact hi.1.2.2.2 h9; (have := hi.2; omega)) | exact hi.1 he0 | exact hi.2.1 he0 | exact hi.2.2.2.1 he0 | (have := zo_HOo _ he; omega) | exact .inl he0 | exact .inr (.inl he0) | (rcases hown _ he0 with h9 | h9; exact .inr (.inr (.inr h9)); omega) | (rcases hown _ he0 with h9 | h9; exact .inr (.inr (.inr (.inl h9))); exact .inr (.inr (.inr (.inr h9))))))
  have HSr9 := HSr.mono (F' := fun b => b ≠ bd ∧ b ≠ bo ∧ b ≠ bm ∧ (Value.slice a15 (ord ++ [i]).length c15).ownBlock ≠ some b) fun b hb h => ⟨h.1.1, h.1.2.1, h.1.2.2.1, fun ho => (hz15 b ho).elim (fun h9 => h.1.2.2.2 h9) (fun h9 => by have := h.2; omega)⟩
  replace HSu := HSu.keep k15 (by intro i _ hi he; have he0 := he; (try dsimp only [NoK, AllB] at hi he); (try simp only [Value.ownBlock, Option.some.injEq] at he); first | exact hi.elim | exact he.elim | omega | (rcases hi with hi | hi <;> omega) | (rcases he with he | he <;> omega) | (have := (HOo).own_lt he0; omega) | (have := zo_HOo _ he0; omega) | (have := (HOo).own_lt he0; rcases hi with hi | hi <;> omega) | (first | exact hi.1.1 he0 | exact hi.1.2.1 he0 | (rcases hown _ he0 with h9 | h9; exact hi.1.2.2.2 h9; (have := hi.2; omega)) | exact hi.1 he0 | exact hi.2.1 he0 | exact hi.2.2.2.1 he0 | (have := zo_HOo _ he; omega) | exact .inl he0 | exact .inr (.inl he0) | (rcases hown _ he0 with h9 | h9; exact .inr (.inr (.inr h9)); omega) | (rcases hown _ he0 with h9 | h9; exact .inr (.inr (.inr (.inl h9))); exact .inr (.inr (.inr (.inr h9))))))
  have HSu9 := HSu.mono (F' := fun b => b ≠ bd ∧ b ≠ bo ∧ b ≠ bm ∧ (Value.slice a15 (ord ++ [i]).length c15).ownBlock ≠ some b) fun b hb h => ⟨h.1, h.2.1, h.2.2.1, fun ho => (h15 b ho).elim (fun h9 => h.2.2.2.1 h9) (fun h9 => by have := h.2.2.2.2; omega)⟩
  replace HBo := HBo.keep k15 (by intro h; have he0 := h; (try dsimp only at h); (try simp only [Value.ownBlock, Option.some.injEq] at h); first | omega | (have := (HOo).own_lt he0; omega) | (have := zo_HOo _ he0; omega) | (have he := he0; first | exact hi.1.1 he0 | exact hi.1.2.1 he0 | (rcases hown _ he0 with h9 | h9; exact hi.1.2.2.2 h9; (have := hi.2; omega)) | exact hi.1 he0 | exact hi.2.1 he0 | exact hi.2.2.2.1 he0 | (have := zo_HOo _ he; omega) | exact .inl he0 | exact .inr (.inl he0) | (rcases hown _ he0 with h9 | h9; exact .inr (.inr (.inr h9)); omega) | (rcases hown _ he0 with h9 | h9; exact .inr (.inr (.inr (.inl h9))); exact .inr (.inr (.inr (.inr h9))))))
  refine l_to (to_store rfl rfl (zvS rfl) rfl zk HBo dj5 ?_)
  rintro w111 HX111 k111 z111
  have := k111.size
  replace HBo := HX111
  clear HX111
  try simp only [zS, Nat.zero_add, Nat.reduceAdd, List.drop_nil] at HBo
  refine l_nil (n_then (c_seq (c_seq ?_)))
  replace HBr := (HBr.keep k15 (by intro h; have he0 := h; (try dsimp only at h); (try simp only [Value.ownBlock, Option.some.injEq] at h); first | omega | (have := (HOo).own_lt he0; omega) | (have := zo_HOo _ he0; omega) | (have he := he0; first | exact hi.1.1 he0 | exact hi.1.2.1 he0 | (rcases hown _ he0 with h9 | h9; exact hi.1.2.2.2 h9; (have := hi.2; omega)) | exact hi.1 he0 | exact hi.2.1 he0 | exact hi.2.2.2.1 he0 | (have := zo_HOo _ he; omega) | exact .inl he0 | exact .inr (.inl he0) | (rcases hown _ he0 with h9 | h9; exact .inr (.inr (.inr h9)); omega) | (rcases hown _ he0 with h9 | h9; exact .inr (.inr (.inr (.inl h9))); exact .inr (.inr (.inr (.inr h9))))))).keep k111 (by intro h; have he0 := h; (try dsimp only at h); (try simp only [Value.ownBlock, Option.some.injEq] at h); first | omega | (have he := he0; first | exact hi.1 he0 | exact hi.2.1 he0 | exact hi.2.2.1 he0 | exact hi.1.1 he0 | exact hi.1.2.1 he0 | exact .inl he0 | exact .inr (.inl he0)))
  replace HBv := (HBv.keep k15 (by intro h; have he0 := h; (try dsimp only at h); (try simp only [Value.ownBlock, Option.some.injEq] at h); first | omega | (have := (HOo).own_lt he0; omega) | (have := zo_HOo _ he0; omega) | (have he := he0; first | exact hi.1.1 he0 | exact hi.1.2.1 he0 | (rcases hown _ he0 with h9 | h9; exact hi.1.2.2.2 h9; (have := hi.2; omega)) | exact hi.1 he0 | exact hi.2.1 he0 | exact hi.2.2.2.1 he0 | (have := zo_HOo _ he; omega) | exact .inl he0 | exact .inr (.inl he0) | (rcases hown _ he0 with h9 | h9; exact .inr (.inr (.inr h9)); omega) | (rcases hown _ he0 with h9 | h9; exact .inr (.inr (.inr (.inl h9))); exact .inr (.inr (.inr (.inr h9))))))).keep k111 (by intro h; have he0 := h; (try dsimp only at h); (try simp only [Value.ownBlock, Option.some.injEq] at h); first | omega | (have he := he0; first | exact hi.1 he0 | exact hi.2.1 he0 | exact hi.2.2.1 he0 | exact hi.1.1 he0 | exact hi.1.2.1 he0 | exact .inl he0 | exact .inr (.inl he0)))
  replace HBt := (HBt.keep k15 (by intro h; have he0 := h; (try dsimp only at h); (try simp only [Value.ownBlock, Option.some.injEq] at h); first | omega | (have := (HOo).own_lt he0; omega) | (have := zo_HOo _ he0; omega) | (have he := he0; first | exact hi.1.1 he0 | exact hi.1.2.1 he0 | (rcases hown _ he0 with h9 | h9; exact hi.1.2.2.2 h9; (have := hi.2; omega)) | exact hi.1 he0 | exact hi.2.1 he0 | exact hi.2.2.2.1 he0 | (have := zo_HOo _ he; omega) | exact .inl he0 | exact .inr (.inl he0) | (rcases hown _ he0 with h9 | h9; exact .inr (.inr (.inr h9)); omega) | (rcases hown _ he0 with h9 | h9; exact .inr (.inr (.inr (.inl h9))); exact .inr (.inr (.inr (.inr h9))))))).keep k111 (by intro h; have he0 := h; (try dsimp only at h); (try simp only [Value.ownBlock, Option.some.injEq] at h); first | omega | (have he := he0; first | exact hi.1 he0 | exact hi.2.1 he0 | exact hi.2.2.1 he0 | exact hi.1.1 he0 | exact hi.1.2.1 he0 | exact .inl he0 | exact .inr (.inl he0)))
  replace HBd := (HBd.keep k15 (by intro h; have he0 := h; (try dsimp only at h); (try simp only [Value.ownBlock, Option.some.injEq] at h); first | omega | (have := (HOo).own_lt he0; omega) | (have := zo_HOo _ he0; omega) | (have he := he0; first | exact hi.1.1 he0 | exact hi.1.2.1 he0 | (rcases hown _ he0 with h9 | h9; exact hi.1.2.2.2 h9; (have := hi.2; omega)) | exact hi.1 he0 | exact hi.2.1 he0 | exact hi.2.2.2.1 he0 | (have := zo_HOo _ he; omega) | exact .inl he0 | exact .inr (.inl he0) | (rcases hown _ he0 with h9 | h9; exact .inr (.inr (.inr h9)); omega) | (rcases hown _ he0 with h9 | h9; exact .inr (.inr (.inr (.inl h9))); exact .inr (.inr (.inr (.inr h9))))))).keep k111 (by intro h; have he0 := h; (try dsimp only at h); (try simp only [Value.ownBlock, Option.some.injEq] at h); first | omega | (have he := he0; first | exact hi.1 he0 | exact hi.2.1 he0 | exact hi.2.2.1 he0 | exact hi.1.1 he0 | exact hi.1.2.1 he0 | exact .inl he0 | exact .inr (.inl he0)))
  replace HMm := (HMm.keep k15 (by intro h; have he0 := h; (try dsimp only at h); (try simp only [Value.ownBlock, Option.some.injEq] at h); first | omega | (have := (HOo).own_lt he0; omega) | (have := zo_HOo _ he0; omega) | (have he := he0; first | exact hi.1.1 he0 | exact hi.1.2.1 he0 | (rcases hown _ he0 with h9 | h9; exact hi.1.2.2.2 h9; (have := hi.2; omega)) | exact hi.1 he0 | exact hi.2.1 he0 | exact hi.2.2.2.1 he0 | (have := zo_HOo _ he; omega) | exact .inl he0 | exact .inr (.inl he0) | (rcases hown _ he0 with h9 | h9; exact .inr (.inr (.inr h9)); omega) | (rcases hown _ he0 with h9 | h9; exact .inr (.inr (.inr (.inl h9))); exact .inr (.inr (.inr (.inr h9))))))).keep k111 (by intro h; have he0 := h; (try dsimp only at h); (try simp only [Value.ownBlock, Option.some.injEq] at h); first | omega | (have he := he0; first | exact hi.1 he0 | exact hi.2.1 he0 | exact hi.2.2.1 he0 | exact hi.1.1 he0 | exact hi.1.2.1 he0 | exact .inl he0 | exact .inr (.inl he0)))
  replace HO15 := HO15.keep k111 (by intro i ho he; have he0 := he; have ho0 := ho; (try dsimp only [NoK] at he); (try simp only [Value.ownBlock, Option.some.injEq, reduceCtorEq] at ho); (try simp only [Value.ownBlock, Option.some.injEq, reduceCtorEq] at he); first | exact he.elim | exact ho.elim | omega | (have := zo_HO15 _ ho0; omega) | (first | exact hi.1 he0 | exact hi.2.1 he0 | exact hi.2.2.1 he0 | exact hi.1.1 he0 | exact hi.1.2.1 he0 | exact .inl he0 | exact .inr (.inl he0))) (by intro i _ hi _ he; have he0 := he; have hi := hi; have he := he; (try dsimp only [NoK, AllB] at hi he); (try simp only [Value.ownBlock, Option.some.injEq, reduceCtorEq] at he); all_goals first | exact hi.elim | exact hi.1.elim | exact he.elim | omega | (rcases hi with hi | hi <;> omega) | (rcases he with he | he <;> omega) | (first | exact hi.1 he0 | exact hi.2.1 he0 | exact hi.2.2.1 he0 | exact hi.1.1 he0 | exact hi.1.2.1 he0 | exact .inl he0 | exact .inr (.inl he0)))
  replace HSr9 := HSr9.keep k111 (by intro i _ hi he; have he0 := he; (try dsimp only [NoK, AllB] at hi he); (try simp only [Value.ownBlock, Option.some.injEq] at he); first | exact hi.elim | exact he.elim | omega | (rcases hi with hi | hi <;> omega) | (rcases he with he | he <;> omega) | (first | exact hi.1 he0 | exact hi.2.1 he0 | exact hi.2.2.1 he0 | exact hi.1.1 he0 | exact hi.1.2.1 he0 | exact .inl he0 | exact .inr (.inl he0)))
  replace HSu9 := HSu9.keep k111 (by intro i _ hi he; have he0 := he; (try dsimp only [NoK, AllB] at hi he); (try simp only [Value.ownBlock, Option.some.injEq] at he); first | exact hi.elim | exact he.elim | omega | (rcases hi with hi | hi <;> omega) | (rcases he with he | he <;> omega) | (first | exact hi.1 he0 | exact hi.2.1 he0 | exact hi.2.2.1 he0 | exact hi.1.1 he0 | exact hi.1.2.1 he0 | exact .inl he0 | exact .inr (.inl he0)))
  have h9 := ih (unD (d.set i true)) zo rfl (by rw [List.length_set]; exact hdl) (doM_may hmm hax) (by have := doM_len (m := m) hax; omega) (by simp; omega) zo hva1 HBr HSr9 HBd HBv HMm HBo HO15 HBt HSu9
  refine wp_reg zd (l_v (v_load zk rfl (by first | exact HBt.cell rfl | exact HBv.cell rfl | exact HBr.cell rfl | assumption)) ?_)
  refine l_v (zmS rfl) (l_to (to_call1 zk rfl (zvS rfl) (CallsR.mono (h9) ?_)))
  replace E := (E.step k15 (by intro i hi he; have he0 := he; (try dsimp only [NoK] at hi he ⊢); (try simp only [Value.ownBlock, Option.some.injEq] at he); first | exact he.elim | omega | exact he | (have := (HOo).own_lt he0; omega) | (have := zo_HOo _ he0; omega) | (have := (HOo).own_lt he0; rcases hi with hi | hi <;> omega) | (first | exact hi.1.1 he0 | exact hi.1.2.1 he0 | (rcases hown _ he0 with h9 | h9; exact hi.1.2.2.2 h9; (have := hi.2; omega)) | exact hi.1 he0 | exact hi.2.1 he0 | exact hi.2.2.2.1 he0 | (have := zo_HOo _ he; omega) | exact .inl he0 | exact .inr (.inl he0) | (rcases hown _ he0 with h9 | h9; exact .inr (.inr (.inr h9)); omega) | (rcases hown _ he0 with h9 | h9; exact .inr (.inr (.inr (.inl h9))); exact .inr (.inr (.inr (.inr h9))))))).step k111 (by intro i hi he; have he0 := he; (try dsimp only [NoK] at hi he ⊢); (try simp only [Value.ownBlock, Option.some.injEq] at he); first | exact he.elim | omega | exact he | (first | exact hi.1 he0 | exact hi.2.1 he0 | exact hi.2.2.1 he0 | exact hi.1.1 he0 | exact hi.1.2.1 he0 | exact .inl he0 | exact .inr (.inl he0)))
  replace HSm := (HSm.keep k15 (by intro i _ hi he; have he0 := he; (try dsimp only [NoK, AllB] at hi he); (try simp only [Value.ownBlock, Option.some.injEq] at he); first | exact hi.elim | exact he.elim | omega | (rcases hi with hi | hi <;> omega) | (rcases he with he | he <;> omega) | (have := (HOo).own_lt he0; omega) | (have := zo_HOo _ he0; omega) | (have := (HOo).own_lt he0; rcases hi with hi | hi <;> omega) | (first | exact hi.1.1 he0 | exact hi.1.2.1 he0 | (rcases hown _ he0 with h9 | h9; exact hi.1.2.2.2 h9; (have := hi.2; omega)) | exact hi.1 he0 | exact hi.2.1 he0 | exact hi.2.2.2.1 he0 | (have := zo_HOo _ he; omega) | exact .inl he0 | exact .inr (.inl he0) | (rcases hown _ he0 with h9 | h9; exact .inr (.inr (.inr h9)); omega) | (rcases hown _ he0 with h9 | h9; exact .inr (.inr (.inr (.inl h9))); exact .inr (.inr (.inr (.inr h9))))))).keep k111 (by intro i _ hi he; have he0 := he; (try dsimp only [NoK, AllB] at hi he); (try simp only [Value.ownBlock, Option.some.injEq] at he); first | exact hi.elim | exact he.elim | omega | (rcases hi with hi | hi <;> omega) | (rcases he with he | he <;> omega) | (first | exact hi.1 he0 | exact hi.2.1 he0 | exact hi.2.2.1 he0 | exact hi.1.1 he0 | exact hi.1.2.1 he0 | exact .inl he0 | exact .inr (.inl he0)))
  replace EL1 := (EL1.step k15 (by intro i hi he; have he0 := he; (try dsimp only [NoK] at hi he ⊢); (try simp only [Value.ownBlock, Option.some.injEq] at he); first | exact he.elim | omega | exact he | (have := (HOo).own_lt he0; omega) | (have := zo_HOo _ he0; omega) | (have := (HOo).own_lt he0; rcases hi with hi | hi <;> omega) | (first | exact hi.1.1 he0 | exact hi.1.2.1 he0 | (rcases hown _ he0 with h9 | h9; exact hi.1.2.2.2 h9; (have := hi.2; omega)) | exact hi.1 he0 | exact hi.2.1 he0 | exact hi.2.2.2.1 he0 | (have := zo_HOo _ he; omega) | exact .inl he0 | exact .inr (.inl he0) | (rcases hown _ he0 with h9 | h9; exact .inr (.inr (.inr h9)); omega) | (rcases hown _ he0 with h9 | h9; exact .inr (.inr (.inr (.inl h9))); exact .inr (.inr (.inr (.inr h9))))))).step k111 (by intro i hi he; have he0 := he; (try dsimp only [NoK] at hi he ⊢); (try simp only [Value.ownBlock, Option.some.injEq] at he); first | exact he.elim | omega | exact he | (first | exact hi.1 he0 | exact hi.2.1 he0 | exact hi.2.2.1 he0 | exact hi.1.1 he0 | exact hi.1.2.1 he0 | exact .inl he0 | exact .inr (.inl he0)))
  replace HO14 := HO14.keep k15 (by intro i ho he; have he0 := he; have ho0 := ho; (try dsimp only [NoK] at he); (try simp only [Value.ownBlock, Option.some.injEq, reduceCtorEq] at ho); (try simp only [Value.ownBlock, Option.some.injEq, reduceCtorEq] at he); first | exact he.elim | exact ho.elim | omega | (have := zo_HO14 _ ho0; omega) | (have := (HOo).own_lt he0; omega) | (have := zo_HOo _ he0; omega) | (first | exact hi.1.1 he0 | exact hi.1.2.1 he0 | (rcases hown _ he0 with h9 | h9; exact hi.1.2.2.2 h9; (have := hi.2; omega)) | exact hi.1 he0 | exact hi.2.1 he0 | exact hi.2.2.2.1 he0 | (have := zo_HOo _ he; omega) | exact .inl he0 | exact .inr (.inl he0) | (rcases hown _ he0 with h9 | h9; exact .inr (.inr (.inr h9)); omega) | (rcases hown _ he0 with h9 | h9; exact .inr (.inr (.inr (.inl h9))); exact .inr (.inr (.inr (.inr h9))))) | (have := zo_HO14 _ ho0; have := (HOo).own_lt he0; omega)) (by intro i _ hi _ he; have he0 := he; have hi := hi; have he := he; (try dsimp only [NoK, AllB] at hi he); (try simp only [Value.ownBlock, Option.some.injEq, reduceCtorEq] at he); all_goals first | exact hi.elim | exact hi.1.elim | exact he.elim | omega | (rcases hi with hi | hi <;> omega) | (rcases he with he | he <;> omega) | (have := (HOo).own_lt he0; omega) | (have := zo_HOo _ he0; omega) | (have := (HOo).own_lt he0; rcases hi with hi | hi <;> omega) | (first | exact hi.1.1 he0 | exact hi.1.2.1 he0 | (rcases hown _ he0 with h9 | h9; exact hi.1.2.2.2 h9; (have := hi.2; omega)) | exact hi.1 he0 | exact hi.2.1 he0 | exact hi.2.2.2.1 he0 | (have := zo_HOo _ he; omega) | exact .inl he0 | exact .inr (.inl he0) | (rcases hown _ he0 with h9 | h9; exact .inr (.inr (.inr h9)); omega) | (rcases hown _ he0 with h9 | h9; exact .inr (.inr (.inr (.inl h9))); exact .inr (.inr (.inr (.inr h9))))))
  replace HSr := HSr.keep k111 (by intro i _ hi he; have he0 := he; (try dsimp only [NoK, AllB] at hi he); (try simp only [Value.ownBlock, Option.some.injEq] at he); first | exact hi.elim | exact he.elim | omega | (rcases hi with hi | hi <;> omega) | (rcases he with he | he <;> omega) | (first | exact hi.1 he0 | exact hi.2.1 he0 | exact hi.2.2.1 he0 | exact hi.1.1 he0 | exact hi.1.2.1 he0 | exact .inl he0 | exact .inr (.inl he0)))
  rintro _ w16 ⟨⟨ua, un, uc, bb, rfl, hT, hFl⟩, k16⟩
  have := k16.size
  refine l_v (zmT rfl) (l_v (v_extract (t := .slice _ _ _) rfl rfl) (l_v (v_extract (t := .bool _) rfl rfl) (l_v (zaS rfl) (l_v (zaB rfl) (l_nil (n_then (c_seq (wp_reg zd (l_v (zmB rfl) ?_)))))))))
  replace E := E.step k16 (by intro i hi he; have he0 := he; (try dsimp only [NoK] at hi he ⊢); (try simp only [Value.ownBlock, Option.some.injEq] at he); first | exact he.elim | omega | exact he | (first | (obtain ⟨⟨g1, g2, g3, g4⟩, g5⟩ := hi; rcases he0 with h9 | h9 | h9 | h9; exact g1 h9; exact g2 h9; exact g3 h9; rcases hz15 _ h9 with h8 | h8; exact g4 h8; omega) | (rcases he with h9 | h9 | h9 | h9; omega; omega; omega; (have := zo_HO15 _ h9; omega)) | (rcases he0 with h9 | h9 | h9 | h9; exact .inl h9; exact .inr (.inl h9); exact .inr (.inr (.inl h9)); rcases hz15 _ h9 with h8 | h8; exact .inr (.inr (.inr h8)); omega) | (rcases he0 with h9 | h9 | h9 | h9; exact .inl h9; exact .inr (.inl h9); exact .inr (.inr (.inl h9)); rcases hz15 _ h9 with h8 | h8; exact .inr (.inr (.inr (.inl h8))); exact .inr (.inr (.inr (.inr h8))))))
  replace HBr := HBr.keep k16 (by intro h; have he0 := h; (try dsimp only at h); (try simp only [Value.ownBlock, Option.some.injEq] at h); first | omega | (have he := he0; first | (obtain ⟨⟨g1, g2, g3, g4⟩, g5⟩ := hi; rcases he0 with h9 | h9 | h9 | h9; exact g1 h9; exact g2 h9; exact g3 h9; rcases hz15 _ h9 with h8 | h8; exact g4 h8; omega) | (rcases he with h9 | h9 | h9 | h9; omega; omega; omega; (have := zo_HO15 _ h9; omega)) | (rcases he0 with h9 | h9 | h9 | h9; exact .inl h9; exact .inr (.inl h9); exact .inr (.inr (.inl h9)); rcases hz15 _ h9 with h8 | h8; exact .inr (.inr (.inr h8)); omega) | (rcases he0 with h9 | h9 | h9 | h9; exact .inl h9; exact .inr (.inl h9); exact .inr (.inr (.inl h9)); rcases hz15 _ h9 with h8 | h8; exact .inr (.inr (.inr (.inl h8))); exact .inr (.inr (.inr (.inr h8))))))
  replace HSr := HSr.keep k16 (by intro i _ hi he; have he0 := he; (try dsimp only [NoK, AllB] at hi he); (try simp only [Value.ownBlock, Option.some.injEq] at he); first | exact hi.elim | exact he.elim | omega | (rcases hi with hi | hi <;> omega) | (rcases he with he | he <;> omega) | (first | (obtain ⟨⟨g1, g2, g3, g4⟩, g5⟩ := hi; rcases he0 with h9 | h9 | h9 | h9; exact g1 h9; exact g2 h9; exact g3 h9; rcases hz15 _ h9 with h8 | h8; exact g4 h8; omega) | (rcases he with h9 | h9 | h9 | h9; omega; omega; omega; (have := zo_HO15 _ h9; omega)) | (rcases he0 with h9 | h9 | h9 | h9; exact .inl h9; exact .inr (.inl h9); exact .inr (.inr (.inl h9)); rcases hz15 _ h9 with h8 | h8; exact .inr (.inr (.inr h8)); omega) | (rcases he0 with h9 | h9 | h9 | h9; exact .inl h9; exact .inr (.inl h9); exact .inr (.inr (.inl h9)); rcases hz15 _ h9 with h8 | h8; exact .inr (.inr (.inr (.inl h8))); exact .inr (.inr (.inr (.inr h8))))))
  replace HBv := HBv.keep k16 (by intro h; have he0 := h; (try dsimp only at h); (try simp only [Value.ownBlock, Option.some.injEq] at h); first | omega | (have he := he0; first | (obtain ⟨⟨g1, g2, g3, g4⟩, g5⟩ := hi; rcases he0 with h9 | h9 | h9 | h9; exact g1 h9; exact g2 h9; exact g3 h9; rcases hz15 _ h9 with h8 | h8; exact g4 h8; omega) | (rcases he with h9 | h9 | h9 | h9; omega; omega; omega; (have := zo_HO15 _ h9; omega)) | (rcases he0 with h9 | h9 | h9 | h9; exact .inl h9; exact .inr (.inl h9); exact .inr (.inr (.inl h9)); rcases hz15 _ h9 with h8 | h8; exact .inr (.inr (.inr h8)); omega) | (rcases he0 with h9 | h9 | h9 | h9; exact .inl h9; exact .inr (.inl h9); exact .inr (.inr (.inl h9)); rcases hz15 _ h9 with h8 | h8; exact .inr (.inr (.inr (.inl h8))); exact .inr (.inr (.inr (.inr h8))))))
  replace HBt := HBt.keep k16 (by intro h; have he0 := h; (try dsimp only at h); (try simp only [Value.ownBlock, Option.some.injEq] at h); first | omega | (have he := he0; first | (obtain ⟨⟨g1, g2, g3, g4⟩, g5⟩ := hi; rcases he0 with h9 | h9 | h9 | h9; exact g1 h9; exact g2 h9; exact g3 h9; rcases hz15 _ h9 with h8 | h8; exact g4 h8; omega) | (rcases he with h9 | h9 | h9 | h9; omega; omega; omega; (have := zo_HO15 _ h9; omega)) | (rcases he0 with h9 | h9 | h9 | h9; exact .inl h9; exact .inr (.inl h9); exact .inr (.inr (.inl h9)); rcases hz15 _ h9 with h8 | h8; exact .inr (.inr (.inr h8)); omega) | (rcases he0 with h9 | h9 | h9 | h9; exact .inl h9; exact .inr (.inl h9); exact .inr (.inr (.inl h9)); rcases hz15 _ h9 with h8 | h8; exact .inr (.inr (.inr (.inl h8))); exact .inr (.inr (.inr (.inr h8))))))
  replace HSm := HSm.keep k16 (by intro i _ hi he; have he0 := he; (try dsimp only [NoK, AllB] at hi he); (try simp only [Value.ownBlock, Option.some.injEq] at he); first | exact hi.elim | exact he.elim | omega | (rcases hi with hi | hi <;> omega) | (rcases he with he | he <;> omega) | (first | (obtain ⟨⟨g1, g2, g3, g4⟩, g5⟩ := hi; rcases he0 with h9 | h9 | h9 | h9; exact g1 h9; exact g2 h9; exact g3 h9; rcases hz15 _ h9 with h8 | h8; exact g4 h8; omega) | (rcases he with h9 | h9 | h9 | h9; omega; omega; omega; (have := zo_HO15 _ h9; omega)) | (rcases he0 with h9 | h9 | h9 | h9; exact .inl h9; exact .inr (.inl h9); exact .inr (.inr (.inl h9)); rcases hz15 _ h9 with h8 | h8; exact .inr (.inr (.inr h8)); omega) | (rcases he0 with h9 | h9 | h9 | h9; exact .inl h9; exact .inr (.inl h9); exact .inr (.inr (.inl h9)); rcases hz15 _ h9 with h8 | h8; exact .inr (.inr (.inr (.inl h8))); exact .inr (.inr (.inr (.inr h8))))))
  replace EL1 := EL1.step k16 (by intro i hi he; have he0 := he; (try dsimp only [NoK] at hi he ⊢); (try simp only [Value.ownBlock, Option.some.injEq] at he); first | exact he.elim | omega | exact he | (first | (obtain ⟨⟨g1, g2, g3, g4⟩, g5⟩ := hi; rcases he0 with h9 | h9 | h9 | h9; exact g1 h9; exact g2 h9; exact g3 h9; rcases hz15 _ h9 with h8 | h8; exact g4 h8; omega) | (rcases he with h9 | h9 | h9 | h9; omega; omega; omega; (have := zo_HO15 _ h9; omega)) | (rcases he0 with h9 | h9 | h9 | h9; exact .inl h9; exact .inr (.inl h9); exact .inr (.inr (.inl h9)); rcases hz15 _ h9 with h8 | h8; exact .inr (.inr (.inr h8)); omega) | (rcases he0 with h9 | h9 | h9 | h9; exact .inl h9; exact .inr (.inl h9); exact .inr (.inr (.inl h9)); rcases hz15 _ h9 with h8 | h8; exact .inr (.inr (.inr (.inl h8))); exact .inr (.inr (.inr (.inr h8))))))
  refine l_nil (n_then (c_cond rfl rfl (fun hb => ?_) (fun hb => ?_)))
  ·
   refine c_seq (wp_reg zd (l_v (zmS rfl) (l_v (zaS rfl) (l_v (v_assign rfl) (l_nil (n_then (c_ret (r_then (r_blk ?_)))))))))
   refine r_then (r_then (r_blk (r_then (r_scp (ret2v rfl zq zq (zvS rfl) (zvB rfl) ?_)))))
   obtain ⟨os, m', ao', co', hs, HSres, HBo', HSo⟩ := hT hb
   have hs2 : stepU r d m i = some (i :: os, m') := by rw [step_go hx hcan, hs]; rfl
   have hs3 := seek_yes hdl (by rw [hw]; decide) h2 hil hs2
   have ha : ord ++ [i] ++ os = ord ++ i :: os := by simp
   rw [ha] at HBo' HSo
   exact ⟨⟨ua, un, uc, true, rfl, fun _ => ⟨i :: os, m', ao', co', hs3, HSres, HBo', HSo⟩, fun h => by cases h⟩, E⟩
  obtain ⟨hs, a2, c2, ml2, hva2, HBd, HBo, HOp, HMm, hown2⟩ := hFl (by simpa using hb)
  obtain ⟨b2, rfl, hb2n, hb2l⟩ := HOp.addr (by simp [intsN])
  have hz16 : ∀ b, (Value.slice (some ⟨b2, 0, none⟩) ord.length c2).ownBlock = some b → v0.ownBlock = some b ∨ n0 ≤ b := fun b h => by
   rcases hown2 b h with h9 | h9
   ·
    exact hz15 b h9
   exact .inr zo
  have hcc := HOp.cap
  have hil8 : (intsN (ord ++ [i])).length = ord.length + 1 := by simp [intsN]
  have HOq := HOp.pre (m := ord.length) zo
  rw [show (intsN (ord ++ [i])).take ord.length = intsN ord by simp [intsN]] at HOq
  have zo_HOq := fun (b : Nat) h => HOq.own_lt (b := b) h
  refine c_skip (n_then (c_seq (wp_any zk ?_)))
  have e112 : Ext w16 { w16 with drawn := w16.drawn + 1 } := Keep.drawn _ _
  generalize hw112 : ({ w16 with drawn := w16.drawn + 1 } : World) = w112 at e112 ⊢
  clear hw112
  have := e112.size
  refine r_cut 4 rfl zd zd zd ?_
  refine wp_regdW (NoK) zd zd ?_
  replace HBr := HBr.ext e112
  replace HBv := HBv.ext e112
  replace HBt := HBt.ext e112
  replace HBd := HBd.ext e112
  replace HBo := HBo.ext e112
  refine rt_v (fun vals w hR hd => v_load zk rfl (by first | exact (HBo.ext hR).cell rfl | exact (HBd.ext hR).cell rfl | exact (HBt.ext hR).cell rfl | exact (HBv.ext hR).cell rfl | exact (HBr.ext hR).cell rfl | assumption)) ?_
  refine rt_v (fun vals w hR hd => zmI rfl) ?_
  refine rt_v (fun vals w hR hd => v_shl (t := ((2 ^ i : Nat) : Int)) rfl (hd 1 rfl) (by first | decide | omega) (shl64 i zo)) ?_
  refine rt_v (fun vals w hR hd => v_bandNot (t := ((bitN d : Nat) : Int)) (hd 0 rfl) (hd 2 rfl) ((by rw [andNot_bit (by rw [List.length_set]; omega) (by rw [List.length_set]; omega), set_back zo hund]))) ?_
  refine rt_nil (fun w113 e113 => ?_)
  rintro _ rfl _ rfl _ rfl _ rfl
  have := e113.size
  refine fin_nil (n_then (r_one zd rfl ?_))
  replace HBd := HBd.ext e113
  refine l_to (to_store rfl rfl (zvI rfl) rfl zk HBd dj5 ?_)
  rintro w114 HX114 k114 z114
  have := k114.size
  replace HBd := HX114
  clear HX114
  try simp only [zS, Nat.zero_add, Nat.reduceAdd, List.drop_nil] at HBd
  replace HBr := (HBr.ext e113).keep k114 (by intro h; have he0 := h; (try dsimp only at h); (try simp only [Value.ownBlock, Option.some.injEq] at h); first | omega | (have he := he0; first | exact hi.1.1 he0 | exact hi.1.2.1 he0 | exact .inl he0 | exact .inr (.inl he0)))
  replace HBv := (HBv.ext e113).keep k114 (by intro h; have he0 := h; (try dsimp only at h); (try simp only [Value.ownBlock, Option.some.injEq] at h); first | omega | (have he := he0; first | exact hi.1.1 he0 | exact hi.1.2.1 he0 | exact .inl he0 | exact .inr (.inl he0)))
  replace HBt := (HBt.ext e113).keep k114 (by intro h; have he0 := h; (try dsimp only at h); (try simp only [Value.ownBlock, Option.some.injEq] at h); first | omega | (have he := he0; first | exact hi.1.1 he0 | exact hi.1.2.1 he0 | exact .inl he0 | exact .inr (.inl he0)))
  replace HBo := (HBo.ext e113).keep k114 (by intro h; have he0 := h; (try dsimp only at h); (try simp only [Value.ownBlock, Option.some.injEq] at h); first | omega | (have he := he0; first | exact hi.1.1 he0 | exact hi.1.2.1 he0 | exact .inl he0 | exact .inr (.inl he0)))
  refine l_nil (n_then (wp_reg zd (l_v (v_load zk rfl (by first | exact HBo.cell rfl | exact HBd.cell rfl | exact HBt.cell rfl | exact HBv.cell rfl | exact HBr.cell rfl | assumption)) ?_)))
  refine l_v (v_load zk rfl (by first | exact HBo.cell rfl | exact HBd.cell rfl | exact HBt.cell rfl | exact HBv.cell rfl | exact HBr.cell rfl | assumption)) ?_
  refine l_v (v_len (et := 3) zk rfl) ?_
  refine l_v (v_sub rfl rfl (by first | exact wr_i64 zo zo | rfl)) ?_
  refine l_v (v_slicePre (et := 3) (sz := 1) (h := ord.length) zk zk rfl rfl (by (simp; exact wr_i64 zo zo)) zo) ?_
  refine l_to (to_store rfl rfl (zvS rfl) rfl zk HBo dj5 ?_)
  rintro w115 HX115 k115 z115
  have := k115.size
  replace HBo := HX115
  clear HX115
  try simp only [zS, Nat.zero_add, Nat.reduceAdd, List.drop_nil] at HBo
  refine l_nil (n_blk (n_then (wp_reg zd (l_v (v_add rfl rfl (by first | exact wr_i64 zo zo | rfl)) ?_))))
  replace E := (((E.trans e112.keep).trans e113.keep).step k114 (by intro i hi he; have he0 := he; (try dsimp only [NoK] at hi he ⊢); (try simp only [Value.ownBlock, Option.some.injEq] at he); first | exact he.elim | omega | exact he | (first | exact hi.1.1 he0 | exact hi.1.2.1 he0 | exact .inl he0 | exact .inr (.inl he0)))).step k115 (by intro i hi he; have he0 := he; (try dsimp only [NoK] at hi he ⊢); (try simp only [Value.ownBlock, Option.some.injEq] at he); first | exact he.elim | omega | exact he | (first | exact hi.1.1 he0 | exact hi.1.2.1 he0 | exact .inl he0 | exact .inr (.inl he0)))
  replace HSr := (((HSr.ext e112).ext e113).keep k114 (by intro i _ hi he; have he0 := he; (try dsimp only [NoK, AllB] at hi he); (try simp only [Value.ownBlock, Option.some.injEq] at he); first | exact hi.elim | exact he.elim | omega | (rcases hi with hi | hi <;> omega) | (rcases he with he | he <;> omega) | (first | exact hi.1.1 he0 | exact hi.1.2.1 he0 | exact .inl he0 | exact .inr (.inl he0)))).keep k115 (by intro i _ hi he; have he0 := he; (try dsimp only [NoK, AllB] at hi he); (try simp only [Value.ownBlock, Option.some.injEq] at he); first | exact hi.elim | exact he.elim | omega | (rcases hi with hi | hi <;> omega) | (rcases he with he | he <;> omega) | (first | exact hi.1.1 he0 | exact hi.1.2.1 he0 | exact .inl he0 | exact .inr (.inl he0)))
  replace HSm := (((HSm.ext e112).ext e113).keep k114 (by intro i _ hi he; have he0 := he; (try dsimp only [NoK, AllB] at hi he); (try simp only [Value.ownBlock, Option.some.injEq] at he); first | exact hi.elim | exact he.elim | omega | (rcases hi with hi | hi <;> omega) | (rcases he with he | he <;> omega) | (first | exact hi.1.1 he0 | exact hi.1.2.1 he0 | exact .inl he0 | exact .inr (.inl he0)))).keep k115 (by intro i _ hi he; have he0 := he; (try dsimp only [NoK, AllB] at hi he); (try simp only [Value.ownBlock, Option.some.injEq] at he); first | exact hi.elim | exact he.elim | omega | (rcases hi with hi | hi <;> omega) | (rcases he with he | he <;> omega) | (first | exact hi.1.1 he0 | exact hi.1.2.1 he0 | exact .inl he0 | exact .inr (.inl he0)))
  replace EL1 := (((EL1.trans e112.keep).trans e113.keep).step k114 (by intro i hi he; have he0 := he; (try dsimp only [NoK] at hi he ⊢); (try simp only [Value.ownBlock, Option.some.injEq] at he); first | exact he.elim | omega | exact he | (first | exact hi.1.1 he0 | exact hi.1.2.1 he0 | exact .inl he0 | exact .inr (.inl he0)))).step k115 (by intro i hi he; have he0 := he; (try dsimp only [NoK] at hi he ⊢); (try simp only [Value.ownBlock, Option.some.injEq] at he); first | exact he.elim | omega | exact he | (first | exact hi.1.1 he0 | exact hi.1.2.1 he0 | exact .inl he0 | exact .inr (.inl he0)))
  replace HOq := (((HOq.ext e112).ext e113).keep k114 (by intro i ho he; have he0 := he; have ho0 := ho; (try dsimp only [NoK] at he); (try simp only [Value.ownBlock, Option.some.injEq, reduceCtorEq] at ho); (try simp only [Value.ownBlock, Option.some.injEq, reduceCtorEq] at he); first | exact he.elim | exact ho.elim | omega | (have := zo_HOq _ ho0; omega) | (first | exact hi.1.1 he0 | exact hi.1.2.1 he0 | exact .inl he0 | exact .inr (.inl he0))) (by intro i _ hi _ he; have he0 := he; have hi := hi; have he := he; (try dsimp only [NoK, AllB] at hi he); (try simp only [Value.ownBlock, Option.some.injEq, reduceCtorEq] at he); all_goals first | exact hi.elim | exact hi.1.elim | exact he.elim | omega | (rcases hi with hi | hi <;> omega) | (rcases he with he | he <;> omega) | (first | exact hi.1.1 he0 | exact hi.1.2.1 he0 | exact .inl he0 | exact .inr (.inl he0)))).keep k115 (by intro i ho he; have he0 := he; have ho0 := ho; (try dsimp only [NoK] at he); (try simp only [Value.ownBlock, Option.some.injEq, reduceCtorEq] at ho); (try simp only [Value.ownBlock, Option.some.injEq, reduceCtorEq] at he); first | exact he.elim | exact ho.elim | omega | (have := zo_HOq _ ho0; omega) | (first | exact hi.1.1 he0 | exact hi.1.2.1 he0 | exact .inl he0 | exact .inr (.inl he0))) (by intro i _ hi _ he; have he0 := he; have hi := hi; have he := he; (try dsimp only [NoK, AllB] at hi he); (try simp only [Value.ownBlock, Option.some.injEq, reduceCtorEq] at he); all_goals first | exact hi.elim | exact hi.1.elim | exact he.elim | omega | (rcases hi with hi | hi <;> omega) | (rcases he with he | he <;> omega) | (first | exact hi.1.1 he0 | exact hi.1.2.1 he0 | exact .inl he0 | exact .inr (.inl he0)))
  replace HMm := (((HMm.ext e112).ext e113).keep k114 (by intro h; have he0 := h; (try dsimp only at h); (try simp only [Value.ownBlock, Option.some.injEq] at h); first | omega | (have he := he0; first | exact hi.1.1 he0 | exact hi.1.2.1 he0 | exact .inl he0 | exact .inr (.inl he0)))).keep k115 (by intro h; have he0 := h; (try dsimp only at h); (try simp only [Value.ownBlock, Option.some.injEq] at h); first | omega | (have he := he0; first | exact hi.1.1 he0 | exact hi.1.2.1 he0 | exact .inl he0 | exact .inr (.inl he0)))
  replace HBr := HBr.keep k115 (by intro h; have he0 := h; (try dsimp only at h); (try simp only [Value.ownBlock, Option.some.injEq] at h); first | omega | (have he := he0; first | exact hi.1.1 he0 | exact hi.1.2.1 he0 | exact .inl he0 | exact .inr (.inl he0)))
  replace HBv := HBv.keep k115 (by intro h; have he0 := h; (try dsimp only at h); (try simp only [Value.ownBlock, Option.some.injEq] at h); first | omega | (have he := he0; first | exact hi.1.1 he0 | exact hi.1.2.1 he0 | exact .inl he0 | exact .inr (.inl he0)))
  replace HBt := HBt.keep k115 (by intro h; have he0 := h; (try dsimp only at h); (try simp only [Value.ownBlock, Option.some.injEq] at h); first | omega | (have he := he0; first | exact hi.1.1 he0 | exact hi.1.2.1 he0 | exact .inl he0 | exact .inr (.inl he0)))
  replace HBd := HBd.keep k115 (by intro h; have he0 := h; (try dsimp only at h); (try simp only [Value.ownBlock, Option.some.injEq] at h); first | omega | (have he := he0; first | exact hi.1.1 he0 | exact hi.1.2.1 he0 | exact .inl he0 | exact .inr (.inl he0)))
  refine l_v (zmI rfl) (l_nil (n_then (⟨(i + 1, some ⟨b2, 0, none⟩, c2, ml2), _, rfl, by (repeat' (first | exact Off.of_over _ _ _ | refine Off.upd ?_ zq _ | refine Off.overs ?_ zq _)), ⟨by first | rfl | exact congrArg (Value.int _) zo | (simp; done), trivial⟩, ⟨E, EL1, ?_⟩, ?_⟩)))
  ·
   refine ⟨by omega, fun t ht => ?_, hva2, hz16, HBd, HBo, HOq, HMm⟩
   rcases Nat.lt_or_ge t i with h9 | h9
   ·
    exact h2 t h9
   obtain rfl : t = i := by omega
   rw [step_go hx hcan, hs]; rfl
  (dsimp only; omega)
 have hnn := seek_no hdl (by rw [hw]; decide) (fun t ht => h2 t (by have := dfalse hlt; omega))
 refine c_exit (x_then (x_then (x_hit (n_then (c_seq (wp_reg zd (l_v (v_load zk rfl (by first | exact HBo.cell rfl | exact HBd.cell rfl | exact HBt.cell rfl | exact HBv.cell rfl | exact HBr.cell rfl | assumption)) ?_)))))))
 refine l_v (v_move (t := .string _) rfl) (l_v (v_build (pl := [(0, 1)]) (z := .agg #[.bool false]) (zl := [.bool false]) zk (by unfold kZero; kernel_rfl) rfl rfl (cells := [_]) rfl) ?_)
 refine l_to (to_mapUpdate (el := 130) (k := (keyS d m)) kStr ⟨9, by kernel_rfl, by kernel_rfl⟩ rfl (zvG rfl) rfl (zvA rfl) HMm ?_)
 rintro w19 HMm k19 z19
 have := k19.size
 refine l_nil (n_then (c_seq (wp_reg zd (l_v (v_assign rfl) (l_v (v_assign rfl) (l_nil (n_then (c_ret (r_scp ?_)))))))))
 refine ret2v rfl zq zq (zvS rfl) (zvB rfl) ?_
 replace E := E.step k19 (by intro i hi he; have he0 := he; (try dsimp only [NoK] at hi he ⊢); (try simp only [Value.ownBlock, Option.some.injEq] at he); first | exact he.elim | omega | exact he | (first | exact hi.1.2.2.1 he0 | exact .inr (.inr (.inl he0))))
 replace HBd := HBd.keep k19 (by intro h; have he0 := h; (try dsimp only at h); (try simp only [Value.ownBlock, Option.some.injEq] at h); first | omega | (have he := he0; first | exact hi.1.2.2.1 he0 | exact .inr (.inr (.inl he0))))
 replace HBo := HBo.keep k19 (by intro h; have he0 := h; (try dsimp only at h); (try simp only [Value.ownBlock, Option.some.injEq] at h); first | omega | (have he := he0; first | exact hi.1.2.2.1 he0 | exact .inr (.inr (.inl he0))))
 replace HOo := HOo.keep k19 (by intro i ho he; have he0 := he; have ho0 := ho; (try dsimp only [NoK] at he); (try simp only [Value.ownBlock, Option.some.injEq, reduceCtorEq] at ho); (try simp only [Value.ownBlock, Option.some.injEq, reduceCtorEq] at he); first | exact he.elim | exact ho.elim | omega | (have := zo_HOo _ ho0; omega) | (first | exact hi.1.2.2.1 he0 | exact .inr (.inr (.inl he0)))) (by intro i _ hi _ he; have he0 := he; have hi := hi; have he := he; (try dsimp only [NoK, AllB] at hi he); (try simp only [Value.ownBlock, Option.some.injEq, reduceCtorEq] at he); all_goals first | exact hi.elim | exact hi.1.elim | exact he.elim | omega | (rcases hi with hi | hi <;> omega) | (rcases he with he | he <;> omega) | (first | exact hi.1.2.2.1 he0 | exact .inr (.inr (.inl he0))))
 exact ⟨⟨none, 0, 0, false, rfl, fun h => (by cases h), fun _ => ⟨hnn, a1, c1, _, hva1.set hdl hmm hnn, HBd, HBo, HOo, HMm, by rw [← hn0]; exact hown⟩⟩, E⟩
end Go.Proofs.Ytifnkmflmgnfjaa
