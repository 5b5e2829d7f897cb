/- A part of the proof: steps and lemmas for the walks through the given program. -/
import Derived.Test.YteehplloacefmaaM6
import Derived.Test.YteehplloacefmaaVc49
namespace Go.Proofs.Yteehplloacefmaa
open Go.Vc
set_option linter.unusedVariables false
set_option linter.unusedSimpArgs false
set_option maxRecDepth 100000

abbrev WaV := Int × CmV
abbrev tWa : Ty WaV := tPair (tInt .i64) tCm
def waC (k : Int) (m : MvV) : CmV := (k, rq0, m, [], [], [], 0)
def wanOf (x : MaV) : WaV := (x.1.2.2.2.2.1, waC (if x.2 then 5 else 3) x.1)
def wanL (s : MtV) : List WaV := if mayMt s then s.2.2.map wanOf else []
theorem tWa_mk {w : World} {F : Nat → Prop} {g k : Int} {mv : MvV} {m0 m1 m2 m3 m4 m5 : Value} (i1 : I64' g) (i2 : I64' k) (h : AgV tMv w F (.agg #[m0, m1, m2, m3, m4, m5]) mv) : tWa.rep w F [.int .i64 g, .int .i64 k, .int .i64 0, .int .i64 0, .int .i64 0, .slice none 0 0, .slice none 0 0, .slice none 0 0, .slice none 0 0, .bool false, .int .i64 0, m0, m1, m2, m3, m4, m5, .slice none 0 0, .slice none 0 0, .slice none 0 0, .int .i64 0] (g, waC k mv) :=
  ⟨[_], _, rfl, ⟨rfl, wf_of_i64 i1⟩, tCm_mk i2 rq0_ag.rep h.rep (SlV.nil _ _ _) (SlV.nil _ _ _) (SlV.nil _ _ _) ⟨by decide, by decide⟩⟩
theorem Wants_c {w : World} {F : Nat → Prop} {v : Value} {e0 n : Int} {rs : List RgV} {ms : List MaV} (HG1 : AgV tMt w F v ((e0, rs), n, ms)) (hn : ms.length ≤ 1000) :
    CallsR Try.prog 19 #[v] w (fun o w' => (∃ a c, o = .slice a (wanL ((e0, rs), n, ms)).length c ∧ SlV tWa w' (fun q => w.heap.size ≤ q) o (wanL ((e0, rs), n, ms))) ∧ Ext w w') := by
 obtain ⟨a1, c1, a2, c2, rfl, HSr, HSm, ie, im⟩ := HG1.mt
 simp only at HSr HSm ie im
 refine enter 34 Try.func19 rfl rfl (by simp) ?_
 refine c_seq ?_
 have E := Keep.refl (K := NoK) w
 replace HG1 := HG1.all
 replace HSm := HSm.all
 refine wp_reg zd (l_to (to_box (zvA rfl) ?_))
 rintro b1 w1 zb1 HB1 e1 z1
 have := e1.size
 try simp only [Value.cells] at HB1
 refine l_v (v_assign rfl) (l_nil (n_then (c_seq (c_seq (wp_reg zd (l_v (v_loadA zk rfl (by first | exact HB1.pv | assumption) rfl) ?_))))))
 replace HG1 := HG1.ext e1
 refine l_to (to_f1 zk (zvA rfl) (CallsR.mono (MetaMay_c HG1) ?_))
 rintro _ w101 ⟨rfl, e101⟩
 have := e101.size
 refine l_v (v_not rfl) ?_
 replace E := (E.trans e1.keep).trans e101.keep
 replace HSm := (HSm.ext e1).ext e101
 replace HG1 := HG1.ext e101
 replace HB1 := HB1.ext e101
 refine l_nil (n_then (c_cond rfl rfl (fun h9 => ?_) (fun h9 => ?_)))
 ·
  refine c_seq (wp_reg zd (l_v (v_assign rfl) (l_nil (n_then (c_ret (r_then (ret1v rfl zq (zvS rfl) ?_)))))))
  have h : ¬ mayMt ((e0, rs), n, ms) = true := by simpa using h9
  rw [wanL, if_neg h]
  exact ⟨⟨_, _, rfl, SlV.nil _ _ _⟩, E⟩
 have hms : mayMt ((e0, rs), n, ms) = true := by simpa using h9
 obtain ⟨p1, p2, p3, p4⟩ := mayMt_iff.1 hms
 simp only at p4
 have hl2 := mayMa_lens p4
 have hwl : wanL ((e0, rs), n, ms) = ms.map wanOf := by rw [wanL, if_pos hms]
 rw [hwl]
 obtain ⟨n2, hn2⟩ : ∃ n, n = w101.heap.size := ⟨_, rfl⟩
 refine c_skip (n_then (c_seq (wp_reg zd (l_v (v_assign rfl) (l_nil (n_then (c_seq (c_seq (wp_reg zd ?_)))))))))
 refine l_v (v_fieldAddr (off := 3) (ft := 25) zk rfl) (l_v (v_load zk rfl (by first | exact HB1.pv 3 _ rfl | assumption)) ?_)
 refine l_v (v_len (et := 54) zk rfl) ?_
 refine l_v (v_move rfl) (l_nil (n_then (c_block (c_loop (τ := Nat × Option Addr × Nat) [3, 5, 6, 13, 14, 15, 16, 17, 18, 19, 20, 21, 22, 23, 24, 25, 26, 27, 28, 29, 30, 31, 32] (fun (i, a5, c5) => [(3, .slice a5 i c5), (13, .int .i64 i)]) (fun (i, a5, c5) W => Ext w W ∧ Keep (fun b => n2 ≤ b) w101 W ∧ i ≤ ms.length ∧ OwV tWa 60 W n2 (fun b => n2 ≤ b ∧ b < W.heap.size) (.slice a5 i c5) ((ms.take i).map wanOf)) (fun (i, a5, c5) => ms.length - i) (0, none, 0) (by exact ⟨rfl, rfl, trivial⟩) (by exact ⟨E, Keep.refl _, Nat.zero_le _, OwV.nil _ _ _ _ _⟩) ?_))))
 rintro ⟨i, a5, c5⟩ w102 j ⟨E, EL1, h1, HOx⟩
 have := EL1.size
 have zo_HOx := fun (b : Nat) h => HOx.own_lt (b := b) h
 refine c_seq (wp_reg zd (l_v (v_lss rfl rfl) ?_))
 replace HSm := HSm.keep EL1 dj1
 replace HB1 := HB1.keep EL1 dj4
 refine l_nil (n_then (c_seq (c_cond rfl rfl (fun hlt => ?_) (fun hlt => ?_))))
 ·
  have hlt := dtrue hlt
  have htl : (ms.take i).length = i := by rw [List.length_take]; omega
  obtain ⟨r, hx, _⟩ := getE (l := ms) (i := i) zo
  obtain ⟨hl1, hl3⟩ := hl2 r (List.mem_of_getElem? hx)
  obtain ⟨n1, hn1'⟩ : ∃ n, n = w102.heap.size := ⟨_, rfl⟩
  refine c_skip (n_then (c_seq (c_block (c_seq (wp_reg zd (l_to (to_index (et := 54) zk zk (zvS rfl) HSm (zvI rfl) rfl hx ?_)))))))
  rintro q cs hF HPq hr
  have HG2 : AgV tMa _ _ _ r := ⟨cs, rfl, hr⟩
  obtain ⟨b3, d3, b5, d5, rfl, _, _, i1, i2, i3⟩ := tMa_cells hr
  have HG3 := AgV.maMv HG2
  refine l_v (v_loadA zk rfl (by first | exact HPq | exact HB1.pv | assumption) rfl) ?_
  refine l_to (to_alloc (z := (.agg #[.int .i64 0, .slice none 0 0, .slice none 0 0, .bool false, .int .i64 0, .int .i64 0, .bool false])) (by unfold kZero; kernel_rfl) ?_)
  rintro b8 w8 zb8 HB8 e8 z8
  have := e8.size
  try simp only [Value.cells] at HB8
  refine l_to (to_storeA (n := 7) rfl rfl (zvA rfl) zk rfl dj6 HB8 dj5 ?_)
  rintro w103 HX103 k103 z103
  have := k103.size
  replace HB8 := HX103
  clear HX103
  try simp only [zS, Nat.zero_add, Nat.reduceAdd, List.drop_nil] at HB8
  replace HB1 := (HB1.ext e8).keep k103 dj4
  replace HPq := (HPq.ext e8).keep k103 (by intro h; (try dsimp only at h); (try simp only [add_block] at h); first | omega)
  refine l_nil (n_then (c_seq (wp_reg zd (l_v (v_fieldAddr (off := 0) (ft := 39) zk rfl) (l_v (v_loadA zk rfl (by first | exact (show Pv _ _ [_, _, _, _, _, _] from pv_sub 0 6 HB8.pv) | exact (show Pv _ _ [_, _, _, _, _, _] from pv_sub 0 6 HPq) | exact (show Pv _ _ [_, _, _, _, _, _] from pv_sub 0 6 HB1.pv) | exact pv_at 0 HB8.pv | exact pv_at 0 HPq | exact pv_at 0 HB1.pv | exact HPq | assumption) rfl) ?_)))))
  replace HG3 := (HG3.ext e8).keep k103 dj1
  refine l_to (to_f1 zk (zvA rfl) (CallsR.mono (ownMove_c HG3 zo zo) ?_))
  rintro v42 w42 ⟨HG42, e42⟩
  have := e42.size
  obtain ⟨a19, c19, a22, c22, rfl, HS19, HS22, j1, j2, j3⟩ := AgV.mv HG42
  refine l_v (v_build (pl := [(0, 1), (1, 9), (10, 6), (16, 1), (17, 1), (18, 1), (19, 1)]) (z := .agg #[.int .i64 0, .int .i64 0, .int .i64 0, .int .i64 0, .slice none 0 0, .slice none 0 0, .slice none 0 0, .slice none 0 0, .bool false, .int .i64 0, .int .i64 0, .slice none 0 0, .slice none 0 0, .bool false, .int .i64 0, .int .i64 0, .slice none 0 0, .slice none 0 0, .slice none 0 0, .int .i64 0]) (zl := [.int .i64 0, .int .i64 0, .int .i64 0, .int .i64 0, .slice none 0 0, .slice none 0 0, .slice none 0 0, .slice none 0 0, .bool false, .int .i64 0, .int .i64 0, .slice none 0 0, .slice none 0 0, .bool false, .int .i64 0, .int .i64 0, .slice none 0 0, .slice none 0 0, .slice none 0 0, .int .i64 0]) zk (by unfold kZero; kernel_rfl) rfl rfl (cells := [_, _, _, _, _, _, _, _, _, _, _, _, _, _, _, _, _, _, _, _]) rfl) ?_
  refine l_to (to_alloc (z := (.agg #[.int .i64 0, .int .i64 0, .int .i64 0, .int .i64 0, .slice none 0 0, .slice none 0 0, .slice none 0 0, .slice none 0 0, .bool false, .int .i64 0, .int .i64 0, .slice none 0 0, .slice none 0 0, .bool false, .int .i64 0, .int .i64 0, .slice none 0 0, .slice none 0 0, .slice none 0 0, .int .i64 0])) (by unfold kZero; kernel_rfl) ?_)
  rintro b6 w6 zb6 HB6 e6 z6
  have := e6.size
  try simp only [Value.cells] at HB6
  refine l_to (to_storeA (n := 20) rfl rfl (zvA rfl) zk rfl dj6 HB6 dj5 ?_)
  rintro w104 HX104 k104 z104
  have := k104.size
  replace HB6 := HX104
  clear HX104
  try simp only [zS, Nat.zero_add, Nat.reduceAdd, List.drop_nil] at HB6
  replace HB1 := ((HB1.ext e42).ext e6).keep k104 dj4
  replace HPq := ((HPq.ext e42).ext e6).keep k104 (by intro h; (try dsimp only at h); (try simp only [add_block] at h); first | omega)
  replace HB8 := ((HB8.ext e42).ext e6).keep k104 dj4
  refine l_nil (n_then (c_seq (c_seq (wp_reg zd (l_v (v_fieldAddr (off := 6) (ft := 4) zk rfl) (l_v (v_load zk rfl (by first | exact HB6.pv 6 _ rfl | exact HB8.pv 6 _ rfl | exact HPq 6 _ rfl | exact pv_1 HPq | exact HB1.pv 6 _ rfl | assumption)) ?_))))))
  replace E := ((((E.trans e8.keep).step k103 dj3).trans e42.keep).trans e6.keep).step k104 dj3
  replace HSm := ((((HSm.ext e8).keep k103 dj1).ext e42).ext e6).keep k104 dj1
  replace HOx := ((((HOx.ext e8).keep k103 (by intro i ho he; have he0 := he; have ho0 := ho; (try dsimp only [NoK] at he); (try simp only [Value.ownBlock, Option.some.injEq, reduceCtorEq] at ho); (try simp only [Value.ownBlock, Option.some.injEq, reduceCtorEq] at he); first | exact he.elim | exact ho.elim | omega | (have := zo_HOx _ ho0; omega)) (by intro i _ hi _ he; have he0 := he; have hi := hi; have he := he; (try dsimp only [NoK, AllB] at hi he); (try simp only [Value.ownBlock, Option.some.injEq, reduceCtorEq] at he); all_goals first | exact hi.elim | exact hi.1.elim | exact he.elim | omega | (rcases hi with hi | hi <;> omega) | (rcases he with he | he <;> omega))).ext e42).ext e6).keep k104 (by intro i ho he; have he0 := he; have ho0 := ho; (try dsimp only [NoK] at he); (try simp only [Value.ownBlock, Option.some.injEq, reduceCtorEq] at ho); (try simp only [Value.ownBlock, Option.some.injEq, reduceCtorEq] at he); first | exact he.elim | exact ho.elim | omega | (have := zo_HOx _ ho0; omega)) (by intro i _ hi _ he; have he0 := he; have hi := hi; have he := he; (try dsimp only [NoK, AllB] at hi he); (try simp only [Value.ownBlock, Option.some.injEq, reduceCtorEq] at he); all_goals first | exact hi.elim | exact hi.1.elim | exact he.elim | omega | (rcases hi with hi | hi <;> omega) | (rcases he with he | he <;> omega))
  replace EL1 := ((((EL1.trans e8.keep).step k103 dj3).trans e42.keep).trans e6.keep).step k104 dj3
  replace HG2 := ((((HG2.ext e8).keep k103 dj1).ext e42).ext e6).keep k104 dj1
  replace HG3 := ((HG3.ext e42).ext e6).keep k104 dj1
  replace HG42 := (HG42.ext e6).keep k104 dj1
  replace HS19 := (HS19.ext e6).keep k104 dj1
  replace HS22 := (HS22.ext e6).keep k104 dj1
  refine l_nil (n_then (c_cond rfl rfl (fun h22 => ?_) (fun h22 => ?_)))
  ·
   refine wp_reg zd (l_v (v_fieldAddr (off := 0) (ft := 31) zk rfl) (l_to (to_store rfl rfl (zvI rfl) rfl zk HB6 dj5 ?_)))
   rintro w105 HX105 k105 z105
   have := k105.size
   replace HB6 := HX105
   clear HX105
   try simp only [zS, Nat.zero_add, Nat.reduceAdd, List.drop_nil] at HB6
   replace HB1 := HB1.keep k105 dj4
   replace HPq := HPq.keep k105 (by intro h; (try dsimp only at h); (try simp only [add_block] at h); first | omega)
   replace HB8 := HB8.keep k105 dj4
   refine l_nil (n_then (wp_reg zd (l_v (zmS rfl) (l_v (v_fieldAddr (off := 0) (ft := 39) zk rfl) (l_v (v_fieldAddr (off := 4) (ft := 3) zk rfl) (l_v (v_load zk rfl (by first | exact HB6.pv 4 _ rfl | exact HB8.pv 4 _ rfl | exact HPq 4 _ rfl | exact pv_1 HPq | exact HB1.pv 4 _ rfl | assumption)) ?_))))))
   refine l_v (v_loadA zk rfl (by first | exact HB6.pv | exact HB8.pv | exact HPq | exact HB1.pv | assumption) rfl) ?_
   refine l_v (v_build (pl := [(0, 1), (1, 20)]) (z := .agg #[.int .i64 0, .int .i64 0, .int .i64 0, .int .i64 0, .int .i64 0, .slice none 0 0, .slice none 0 0, .slice none 0 0, .slice none 0 0, .bool false, .int .i64 0, .int .i64 0, .slice none 0 0, .slice none 0 0, .bool false, .int .i64 0, .int .i64 0, .slice none 0 0, .slice none 0 0, .slice none 0 0, .int .i64 0]) (zl := [.int .i64 0, .int .i64 0, .int .i64 0, .int .i64 0, .int .i64 0, .slice none 0 0, .slice none 0 0, .slice none 0 0, .slice none 0 0, .bool false, .int .i64 0, .int .i64 0, .slice none 0 0, .slice none 0 0, .bool false, .int .i64 0, .int .i64 0, .slice none 0 0, .slice none 0 0, .slice none 0 0, .int .i64 0]) zk (by unfold kZero; kernel_rfl) rfl rfl (cells := [_, _, _, _, _, _, _, _, _, _, _, _, _, _, _, _, _, _, _, _, _]) rfl) ?_
   replace HG42 := HG42.keep k105 dj1
   refine l_to (to_slice1 (t := tWa) (et := 60) (bytes := 312) zk zq (zvA rfl) ((tWa_mk (k := 5) i2 ⟨by decide, by decide⟩ (HG42.mono (F' := fun b => n1 ≤ b) fun b _ h => by have := h.1; omega))) ?_)
   rintro b9 w9 zb9 HO9 e9 z9
   have := e9.size
   have zo_HO9 := fun (b : Nat) h => HO9.own_lt (b := b) h
   have htl2 : ((ms.take i).map wanOf ++ [wanOf r]).length = i + 1 := by rw [List.length_append, List.length_map, htl]; rfl
   replace HOx := (HOx.keep k105 (by intro i ho he; have he0 := he; have ho0 := ho; (try dsimp only [NoK] at he); (try simp only [Value.ownBlock, Option.some.injEq, reduceCtorEq] at ho); (try simp only [Value.ownBlock, Option.some.injEq, reduceCtorEq] at he); first | exact he.elim | exact ho.elim | omega | (have := zo_HOx _ ho0; omega)) (by intro i _ hi _ he; have he0 := he; have hi := hi; have he := he; (try dsimp only [NoK, AllB] at hi he); (try simp only [Value.ownBlock, Option.some.injEq, reduceCtorEq] at he); all_goals first | exact hi.elim | exact hi.1.elim | exact he.elim | omega | (rcases hi with hi | hi <;> omega) | (rcases he with he | he <;> omega))).ext e9
   have HOy := HOx.mono (F' := fun b => n2 ≤ b) fun b _ h => h.1
   have zo_HOy := fun (b : Nat) h => HOy.own_lt (b := b) h
   have zo_HOy := zo_HOx
   have hwr : wanOf r = (r.1.2.2.2.2.1, waC 5 r.1) := by rw [wanOf, if_pos h22]
   have HS32 : SlV tWa w9 (fun b => n1 ≤ b) (.slice (some ⟨b9, 0, none⟩) 1 1) [wanOf r] := by rw [hwr]; exact HO9.view.mono fun i _ hi => hi.elim (fun h => by omega) (fun h => by have := h.1; (try dsimp only at this); omega)
   refine l_to (to_append (et := 60) (bytes := 312) zk (zvS rfl) HOy (zvS rfl) HS32 (deepF fun b hb hb2 => ⟨by omega, fun ho => by have := zo_HOx _ ho; omega⟩) (by first | omega | (simp; done) | (simp; omega)) (by simp only [maxLen]; first | omega | (simp; done) | (simp; omega)) zo ?_)
   rintro a9 n9 c9 w9 HO19 hn9 k9 h9 i9
   have := k9.size
   replace E := (E.step k105 dj3).trans e9.keep
   replace HSm := (HSm.keep k105 dj1).ext e9
   replace EL1 := (EL1.step k105 dj3).trans e9.keep
   replace HG2 := (HG2.keep k105 dj1).ext e9
   replace HG3 := (HG3.keep k105 dj1).ext e9
   replace HS19 := (HS19.keep k105 dj1).ext e9
   replace HS22 := (HS22.keep k105 dj1).ext e9
   obtain rfl : n9 = i + 1 := hn9.trans htl2
   have htk : (ms.take i).map wanOf ++ [wanOf r] = (ms.take (i + 1)).map wanOf := by rw [List.take_add_one, hx, List.map_append]; rfl
   rw [htk] at HO19
   have zo_HO19 := fun (b : Nat) h => HO19.own_lt (b := b) h
   refine l_v (zaS rfl) (l_nil (n_blk (n_then (wp_reg zd (l_v (v_add rfl rfl (by first | exact wr_i64 zo zo | rfl)) ?_)))))
   replace HB1 := (HB1.ext e9).keep k9 (by intro h; have he0 := h; (try dsimp only at h); (try simp only [Value.ownBlock, Option.some.injEq] at h); first | omega | (have := (HOy).own_lt he0; omega) | (have := zo_HOy _ he0; omega))
   replace HPq := HPq.ext e9
   replace HB8 := HB8.ext e9
   replace HG42 := HG42.ext e9
   replace HB6 := HB6.ext e9
   replace E := E.step k9 (by intro i hi he; have he0 := he; (try dsimp only [NoK] at hi he ⊢); (try simp only [Value.ownBlock, Option.some.injEq] at he); first | exact he.elim | omega | exact he | (have := (HOy).own_lt he0; omega) | (have := zo_HOy _ he0; omega) | (have := (HOy).own_lt he0; rcases hi with hi | hi <;> omega))
   replace HSm := HSm.keep k9 (by intro i _ hi he; have he0 := he; (try dsimp only [NoK, AllB] at hi he); (try simp only [Value.ownBlock, Option.some.injEq] at he); first | exact hi.elim | exact he.elim | omega | (rcases hi with hi | hi <;> omega) | (rcases he with he | he <;> omega) | (have := (HOy).own_lt he0; omega) | (have := zo_HOy _ he0; omega) | (have := (HOy).own_lt he0; rcases hi with hi | hi <;> omega))
   replace EL1 := EL1.step k9 (by intro i hi he; have he0 := he; (try dsimp only [NoK] at hi he ⊢); (try simp only [Value.ownBlock, Option.some.injEq] at he); first | exact he.elim | omega | exact he | (have := (HOy).own_lt he0; omega) | (have := zo_HOy _ he0; omega) | (have := (HOy).own_lt he0; rcases hi with hi | hi <;> omega))
   replace HO9 := HO9.keep k9 (by intro i ho he; have he0 := he; have ho0 := ho; (try dsimp only [NoK] at he); (try simp only [Value.ownBlock, Option.some.injEq, reduceCtorEq] at ho); (try simp only [Value.ownBlock, Option.some.injEq, reduceCtorEq] at he); first | exact he.elim | exact ho.elim | omega | (have := zo_HO9 _ ho0; omega) | (have := (HOy).own_lt he0; omega) | (have := zo_HOy _ he0; omega) | (have := zo_HO9 _ ho0; have := (HOy).own_lt he0; omega)) (by intro i _ hi _ he; have he0 := he; have hi := hi; have he := he; (try dsimp only [NoK, AllB] at hi he); (try simp only [Value.ownBlock, Option.some.injEq, reduceCtorEq] at he); all_goals first | exact hi.elim | exact hi.1.elim | exact he.elim | omega | (rcases hi with hi | hi <;> omega) | (rcases he with he | he <;> omega) | (have := (HOy).own_lt he0; omega) | (have := zo_HOy _ he0; omega) | (have := (HOy).own_lt he0; rcases hi with hi | hi <;> omega))
   refine l_v (zmI rfl) (l_nil (n_then (⟨(i + 1, a9, c9), _, rfl, by (repeat (first | exact Off.of_over _ _ _ | refine Off.upd ?_ zq _ | refine Off.overs ?_ zq _)), ⟨by first | rfl | exact congrArg (Value.int _) zo | (simp; done), by first | rfl | exact congrArg (Value.int _) zo | (simp; done), trivial⟩, ⟨E, EL1, ?_⟩, ?_⟩)))
   ·
    exact ⟨by omega, HO19.mono fun b hb h => ⟨h, hb⟩⟩
   (dsimp only; omega)
  refine c_skip (n_then (wp_reg zd (l_v (zmS rfl) (l_v (v_fieldAddr (off := 0) (ft := 39) zk rfl) (l_v (v_fieldAddr (off := 4) (ft := 3) zk rfl) (l_v (v_load zk rfl (by first | exact HB6.pv 4 _ rfl | exact HB8.pv 4 _ rfl | exact HPq 4 _ rfl | exact pv_1 HPq | exact HB1.pv 4 _ rfl | assumption)) ?_))))))
  refine l_v (v_loadA zk rfl (by first | exact HB6.pv | exact HB8.pv | exact HPq | exact HB1.pv | assumption) rfl) ?_
  refine l_v (v_build (pl := [(0, 1), (1, 20)]) (z := .agg #[.int .i64 0, .int .i64 0, .int .i64 0, .int .i64 0, .int .i64 0, .slice none 0 0, .slice none 0 0, .slice none 0 0, .slice none 0 0, .bool false, .int .i64 0, .int .i64 0, .slice none 0 0, .slice none 0 0, .bool false, .int .i64 0, .int .i64 0, .slice none 0 0, .slice none 0 0, .slice none 0 0, .int .i64 0]) (zl := [.int .i64 0, .int .i64 0, .int .i64 0, .int .i64 0, .int .i64 0, .slice none 0 0, .slice none 0 0, .slice none 0 0, .slice none 0 0, .bool false, .int .i64 0, .int .i64 0, .slice none 0 0, .slice none 0 0, .bool false, .int .i64 0, .int .i64 0, .slice none 0 0, .slice none 0 0, .slice none 0 0, .int .i64 0]) zk (by unfold kZero; kernel_rfl) rfl rfl (cells := [_, _, _, _, _, _, _, _, _, _, _, _, _, _, _, _, _, _, _, _, _]) rfl) ?_
  refine l_to (to_slice1 (t := tWa) (et := 60) (bytes := 312) zk zq (zvA rfl) ((tWa_mk (k := 3) i2 ⟨by decide, by decide⟩ (HG42.mono (F' := fun b => n1 ≤ b) fun b _ h => by have := h.1; omega))) ?_)
  rintro b9 w9 zb9 HO9 e9 z9
  have := e9.size
  have zo_HO9 := fun (b : Nat) h => HO9.own_lt (b := b) h
  have htl2 : ((ms.take i).map wanOf ++ [wanOf r]).length = i + 1 := by rw [List.length_append, List.length_map, htl]; rfl
  replace HOx := HOx.ext e9
  have HOy := HOx.mono (F' := fun b => n2 ≤ b) fun b _ h => h.1
  have zo_HOy := fun (b : Nat) h => HOy.own_lt (b := b) h
  have zo_HOy := zo_HOx
  have hwr : wanOf r = (r.1.2.2.2.2.1, waC 3 r.1) := by rw [wanOf, if_neg (by rw [show r.2 = false from h22]; simp)]
  have HS32 : SlV tWa w9 (fun b => n1 ≤ b) (.slice (some ⟨b9, 0, none⟩) 1 1) [wanOf r] := by rw [hwr]; exact HO9.view.mono fun i _ hi => hi.elim (fun h => by omega) (fun h => by have := h.1; (try dsimp only at this); omega)
  refine l_to (to_append (et := 60) (bytes := 312) zk (zvS rfl) HOy (zvS rfl) HS32 (deepF fun b hb hb2 => ⟨by omega, fun ho => by have := zo_HOx _ ho; omega⟩) (by first | omega | (simp; done) | (simp; omega)) (by simp only [maxLen]; first | omega | (simp; done) | (simp; omega)) zo ?_)
  rintro a9 n9 c9 w9 HO19 hn9 k9 h9 i9
  have := k9.size
  obtain rfl : n9 = i + 1 := hn9.trans htl2
  have htk : (ms.take i).map wanOf ++ [wanOf r] = (ms.take (i + 1)).map wanOf := by rw [List.take_add_one, hx, List.map_append]; rfl
  rw [htk] at HO19
  have zo_HO19 := fun (b : Nat) h => HO19.own_lt (b := b) h
  refine l_v (zaS rfl) (l_nil (n_blk (n_then (wp_reg zd (l_v (v_add rfl rfl (by first | exact wr_i64 zo zo | rfl)) ?_)))))
  replace E := (E.trans e9.keep).step k9 (by intro i hi he; have he0 := he; (try dsimp only [NoK] at hi he ⊢); (try simp only [Value.ownBlock, Option.some.injEq] at he); first | exact he.elim | omega | exact he | (have := (HOy).own_lt he0; omega) | (have := zo_HOy _ he0; omega) | (have := (HOy).own_lt he0; rcases hi with hi | hi <;> omega))
  replace HSm := (HSm.ext e9).keep k9 (by intro i _ hi he; have he0 := he; (try dsimp only [NoK, AllB] at hi he); (try simp only [Value.ownBlock, Option.some.injEq] at he); first | exact hi.elim | exact he.elim | omega | (rcases hi with hi | hi <;> omega) | (rcases he with he | he <;> omega) | (have := (HOy).own_lt he0; omega) | (have := zo_HOy _ he0; omega) | (have := (HOy).own_lt he0; rcases hi with hi | hi <;> omega))
  replace HB1 := (HB1.ext e9).keep k9 (by intro h; have he0 := h; (try dsimp only at h); (try simp only [Value.ownBlock, Option.some.injEq] at h); first | omega | (have := (HOy).own_lt he0; omega) | (have := zo_HOy _ he0; omega))
  replace EL1 := (EL1.trans e9.keep).step k9 (by intro i hi he; have he0 := he; (try dsimp only [NoK] at hi he ⊢); (try simp only [Value.ownBlock, Option.some.injEq] at he); first | exact he.elim | omega | exact he | (have := (HOy).own_lt he0; omega) | (have := zo_HOy _ he0; omega) | (have := (HOy).own_lt he0; rcases hi with hi | hi <;> omega))
  replace HPq := HPq.ext e9
  replace HG2 := HG2.ext e9
  replace HG3 := HG3.ext e9
  replace HB8 := HB8.ext e9
  replace HG42 := HG42.ext e9
  replace HS19 := HS19.ext e9
  replace HS22 := HS22.ext e9
  replace HB6 := HB6.ext e9
  replace HO9 := HO9.keep k9 (by intro i ho he; have he0 := he; have ho0 := ho; (try dsimp only [NoK] at he); (try simp only [Value.ownBlock, Option.some.injEq, reduceCtorEq] at ho); (try simp only [Value.ownBlock, Option.some.injEq, reduceCtorEq] at he); first | exact he.elim | exact ho.elim | omega | (have := zo_HO9 _ ho0; omega) | (have := (HOy).own_lt he0; omega) | (have := zo_HOy _ he0; omega) | (have := zo_HO9 _ ho0; have := (HOy).own_lt he0; omega)) (by intro i _ hi _ he; have he0 := he; have hi := hi; have he := he; (try dsimp only [NoK, AllB] at hi he); (try simp only [Value.ownBlock, Option.some.injEq, reduceCtorEq] at he); all_goals first | exact hi.elim | exact hi.1.elim | exact he.elim | omega | (rcases hi with hi | hi <;> omega) | (rcases he with he | he <;> omega) | (have := (HOy).own_lt he0; omega) | (have := zo_HOy _ he0; omega) | (have := (HOy).own_lt he0; rcases hi with hi | hi <;> omega))
  refine l_v (zmI rfl) (l_nil (n_then (⟨(i + 1, a9, c9), _, rfl, by (repeat (first | exact Off.of_over _ _ _ | refine Off.upd ?_ zq _ | refine Off.overs ?_ zq _)), ⟨by first | rfl | exact congrArg (Value.int _) zo | (simp; done), by first | rfl | exact congrArg (Value.int _) zo | (simp; done), trivial⟩, ⟨E, EL1, ?_⟩, ?_⟩)))
  ·
   exact ⟨by omega, HO19.mono fun b hb h => ⟨h, hb⟩⟩
  (dsimp only; omega)
 have hi : i = ms.length := by have := dfalse hlt; omega
 subst hi
 rw [List.take_length] at HOx
 refine c_exit (x_then (x_then (x_hit (n_then (c_seq (wp_reg zd (l_v (zmS rfl) (l_v (zaS rfl) (l_nil ?_)))))))))
 refine n_then (c_ret (ret1v rfl zq (zvS rfl) ?_))
 refine ⟨⟨_, _, by rw [List.length_map], ?_⟩, E⟩
 exact HOx.view.mono fun b hb h => by rcases h with h | h <;> omega
theorem known1_c {w : World} {F : Nat → Prop} {v : Value} {s : MtV} {kd g : Int} {l : List UInt8} (HG1 : AgV tMt w F v s) (ik : I64' kd) (ig : I64' g) (hl : l.length ≤ 100) (hn : s.2.2.length ≤ 1000) :
    CallsR Try.prog 20 #[v, .int .i64 kd, .string ⟨l.toArray⟩, .int .i64 g] w (fun o w' => (∃ x, o = .tuple #[x, .int .i64 (doMt s (kd, rq0, mv0, [], [], l, g)).2] ∧ AgV tMt w' (fun q => w.heap.size ≤ q) x (doMt s (kd, rq0, mv0, [], [], l, g)).1) ∧ Ext w w') := by
 obtain ⟨⟨e0, rs⟩, n, ms⟩ := s
 obtain ⟨a1, c1, a2, c2, rfl, HSr, HSm, ie, im⟩ := HG1.mt
 simp only at HSr HSm ie im hn
 refine enter 19 Try.func20 rfl rfl (by simp) ?_
 refine c_seq ?_
 have E := Keep.refl (K := NoK) w
 replace HG1 := HG1.all
 refine wp_reg zd (l_to (to_box (zvA rfl) ?_))
 rintro b4 w4 zb4 HB4 e4 z4
 have := e4.size
 try simp only [Value.cells] at HB4
 refine l_to (to_alloc (z := (.agg #[.int .i64 0, .slice none 0 0, .int .i64 0, .slice none 0 0])) (by unfold kZero; kernel_rfl) ?_)
 rintro b8 w8 zb8 HB8 e8 z8
 have := e8.size
 try simp only [Value.cells] at HB8
 replace HB4 := HB4.ext e8
 refine l_v (v_assign rfl) (l_nil (n_then (c_seq (wp_reg zd (l_v (v_loadA zk rfl (by first | exact HB8.pv | exact HB4.pv | assumption) rfl) ?_)))))
 refine l_v (zmI rfl) (l_v (v_move (t := .string _) rfl) (l_to (to_s2b (et := 5) zk zk zk rfl ((by simp only [maxLen]; omega)) ?_)))
 rintro b13 c13 w13 zb13 HS13 e13 z13
 have := e13.size
 refine l_v (zmI rfl) (l_v (v_build (pl := [(0, 1), (1, 9), (10, 6), (16, 1), (17, 1), (18, 1), (19, 1)]) (z := .agg #[.int .i64 0, .int .i64 0, .int .i64 0, .int .i64 0, .slice none 0 0, .slice none 0 0, .slice none 0 0, .slice none 0 0, .bool false, .int .i64 0, .int .i64 0, .slice none 0 0, .slice none 0 0, .bool false, .int .i64 0, .int .i64 0, .slice none 0 0, .slice none 0 0, .slice none 0 0, .int .i64 0]) (zl := [.int .i64 0, .int .i64 0, .int .i64 0, .int .i64 0, .slice none 0 0, .slice none 0 0, .slice none 0 0, .slice none 0 0, .bool false, .int .i64 0, .int .i64 0, .slice none 0 0, .slice none 0 0, .bool false, .int .i64 0, .int .i64 0, .slice none 0 0, .slice none 0 0, .slice none 0 0, .int .i64 0]) zk (by unfold kZero; kernel_rfl) rfl rfl (cells := [_, _, _, _, _, _, _, _, _, _, _, _, _, _, _, _, _, _, _, _]) rfl) ?_)
 replace HG1 := ((HG1.ext e4).ext e8).ext e13
 refine l_to (to_f2 zk (zvA rfl) (zvA rfl) (CallsR.mono (MetaDo_c (c := (kd, rq0, mv0, [], [], l, g)) HG1 (AgV.mkCm ik rq0_ag mv0_ag (SlV.nil _ _ _) (SlV.nil _ _ _) HS13 ig) hn) ?_))
 rintro _ w16 ⟨⟨y9, rfl, HG9⟩, e16⟩
 have := e16.size
 obtain ⟨s9, hs9⟩ : ∃ x, x = (doMt ((e0, rs), n, ms) (kd, rq0, mv0, [], [], l, g)).1 := ⟨_, rfl⟩
 rw [← hs9] at HG9 ⊢
 replace HG9 := HG9.mono fun b hb h => And.intro h hb
 obtain ⟨a5, c5, a6, c6, rfl, _⟩ := AgV.mt HG9
 replace HB8 := (HB8.ext e13).ext e16
 refine l_v (v_extract (t := .agg _) rfl rfl) (l_v (v_extract (t := .int _ _) rfl rfl) (l_to (to_storeA (n := 4) rfl rfl (zvA rfl) zk rfl dj6 HB8 dj5 ?_)))
 rintro w101 HX101 k101 z101
 have := k101.size
 replace HB8 := HX101
 clear HX101
 try simp only [zS, Nat.zero_add, Nat.reduceAdd, List.drop_nil] at HB8
 refine l_v (zaI rfl) (l_nil (n_then (c_ret (ret2cv (n := 4) rfl zq zq rfl zk HB8.pv rfl (zvI rfl) ?_))))
 replace E := ((((E.trans e4.keep).trans e8.keep).trans e13.keep).trans e16.keep).step k101 dj3
 replace HG9 := HG9.keep k101 dj1
 exact ⟨⟨_, rfl, HG9.mono fun b _ h => by have := h.1; omega⟩, E⟩
theorem MetaDo_s {w : World} {F G : Nat → Prop} {v vc : Value} {s : MtV} {c : CmV} (HG1 : AgV tMt w F v s) (HG2 : AgV tCm w G vc c) (hn : s.2.2.length ≤ 1000) :
    CallsR Try.prog 12 #[v, vc] w (fun o w' => (∃ x, o = .tuple #[x, .int .i64 (doMt s c).2] ∧ AgV tMt w' (fun q => w.heap.size ≤ q) x (doMt s c).1) ∧ Ext w w') := by
  obtain ⟨⟨e0, rs⟩, n, ms⟩ := s
  exact MetaDo_c HG1 HG2 hn
theorem Wants_s {w : World} {F : Nat → Prop} {v : Value} {s : MtV} (HG1 : AgV tMt w F v s) (hn : s.2.2.length ≤ 1000) :
    CallsR Try.prog 19 #[v] w (fun o w' => (∃ a c, o = .slice a (wanL s).length c ∧ SlV tWa w' (fun q => w.heap.size ≤ q) o (wanL s)) ∧ Ext w w') := by
  obtain ⟨⟨e0, rs⟩, n, ms⟩ := s
  exact Wants_c HG1 hn
def kS0 : MtV := ((1, [([], [], false, 1)]), 1, [])
def kS1 : MtV := ((2, [([], [109], true, 1), ([109], [], false, 1)]), 1, [])
def kMv : MvV := (1, [109], [], false, 1, 2)
def kT : MtV := ((2, [([], [109], true, 1), ([109], [], false, 1)]), 2, [(kMv, false)])
def kU : MtV := ((3, [([], [109], true, 1), ([109], [], false, 2)]), 2, [(kMv, true)])
def kV : MtV := ((3, [([], [109], true, 1), ([109], [], false, 2)]), 2, [])
theorem kd1 : doMt kS0 (6, rq0, mv0, [], [], [109], 0) = (kS1, 0) := by decide +kernel
theorem kd2 : doMt kS1 (8, rq0, mv0, [], [], [109], 2) = (kT, 0) := by decide +kernel
theorem kd3 : doMt kT (6, rq0, mv0, [], [], [112], 0) = (mt0, 9) := by decide +kernel
theorem kd4 : doMt kT (7, rq0, mv0, [], [], [109], 0) = (mt0, 9) := by decide +kernel
theorem kd5 : doMt kT (8, rq0, mv0, [], [], [109], 3) = (mt0, 9) := by decide +kernel
theorem kd6 : doMt kT (10, rq0, kMv, [], [], [], 0) = (mt0, 9) := by decide +kernel
theorem kd7 : doMt kT (9, rq0, kMv, [], [], [], 0) = (kU, 0) := by decide +kernel
theorem kd8 : doMt kU (9, rq0, kMv, [], [], [], 0) = (mt0, 9) := by decide +kernel
theorem kd9 : doMt kU (10, rq0, kMv, [], [], [], 0) = (kV, 0) := by decide +kernel
theorem kd10 : doMt kV (7, rq0, mv0, [], [], [109], 0) = (mt0, 9) := by decide +kernel
theorem kw : wanL kU = [(1, waC 5 kMv)] := by decide +kernel
set_option maxHeartbeats 4000000 in
theorem known20_c {w : World} : CallsR Try.prog 8 #[] w (fun o w' => o = .bool true ∧ Ext w w') := by
 refine enter 186 Try.func8 rfl rfl (by simp) ?_
 refine c_seq ?_
 have E := Keep.refl (K := NoK) w
 refine wp_reg zd (l_v (v_assign rfl) (l_nil (n_then (c_seq (wp_reg zd (l_v (zaF rfl) (l_nil (n_then (c_seq ?_)))))))))
 refine wp_reg zd (l_v (zmF rfl) (l_to (to_f0 zk (CallsR.mono (MetaNew_c) ?_))))
 rintro _ w1 ⟨HG0, e1⟩
 have := e1.size
 replace HG0 : AgV tMt _ _ _ kS0 := HG0.all
 obtain ⟨a1, c1, f1, g1, rfl, _⟩ := AgV.mt HG0
 refine l_to (to_call4 zk rfl (zvA rfl) (zvI rfl) (zvG rfl) (zvI rfl) (CallsR.mono (known1_c HG0 ⟨by decide, by decide⟩ ⟨by decide, by decide⟩ zq zq) ?_))
 rintro _ w2 ⟨⟨y2, rfl, HG1⟩, e2⟩
 have := e2.size
 rw [kd1] at HG1 ⊢
 replace HG1 : AgV tMt _ _ _ kS1 := HG1.all
 obtain ⟨a2, c2, f2, g2, rfl, hsr2, hsm2, _⟩ := AgV.mt HG1
 have HS2 : SlV tRg _ _ (.slice a2 (kS1).1.2.length c2) (kS1).1.2 := hsr2
 have HSm2 : SlV tMa _ _ (.slice f2 (kS1).2.2.length g2) (kS1).2.2 := hsm2
 refine l_v (zmT rfl) (l_v (v_extract (t := .agg _) rfl rfl) (l_v (v_extract (t := .int _ _) rfl rfl) (l_to (to_alloc (z := (.agg #[.int .i64 0, .slice none 0 0, .int .i64 0, .slice none 0 0])) (by unfold kZero; kernel_rfl) ?_))))
 rintro b32 w32 zb32 HB32 e32 z32
 have := e32.size
 try simp only [Value.cells] at HB32
 replace HS2 := HS2.ext e32
 obtain ⟨q, cs, hq, hF, _, HPq, hr⟩ := HS2.el (k := 1) rfl
 subst hq
 obtain ⟨y1, z1, y2, z2, rfl, _⟩ := tRg_cells hr
 refine l_to (to_storeA (n := 4) rfl rfl (zvA rfl) zk rfl dj6 HB32 dj5 ?_)
 rintro w101 HX101 k101 z101
 have := k101.size
 replace HB32 := HX101
 clear HX101
 try simp only [zS, Nat.zero_add, Nat.reduceAdd, List.drop_nil] at HB32
 refine l_v (zaI rfl) (l_nil (n_then (c_seq (c_seq (wp_reg zd (l_v (zmI rfl) (l_v (v_neq rfl rfl) ?_)))))))
 refine l_v (zmB rfl) (l_g1 rfl rfl (fun hG => v_fieldAddr (off := 0) (ft := 24) zk rfl) ?_)
 refine l_g1 rfl rfl (fun hG => v_fieldAddr (off := 1) (ft := 22) zk (gd hG rfl)) ?_
 replace HPq := HPq.keep k101 (by intro h; (try dsimp only at h); (try simp only [add_block] at h); first | omega)
 refine l_g1 rfl rfl (fun hG => v_load zk (gd hG rfl) (by first | exact HPq 1 _ rfl | exact pv_1 HPq | exact HB32.pv 1 _ rfl | assumption)) ?_
 refine l_g1 rfl rfl (fun hG => v_len (et := 63) zk (gd hG rfl)) ?_
 refine l_g1 rfl rfl (fun hG => v_neq (gd hG rfl) rfl) ?_
 refine l_v (v_or rfl rfl) ?_
 refine l_v (zmB rfl) (l_g1 rfl rfl (fun hG => v_fieldAddr (off := 0) (ft := 24) zk rfl) ?_)
 refine l_g1 rfl rfl (fun hG => v_fieldAddr (off := 0) (ft := 2) zk (gd hG rfl)) ?_
 refine l_g1 rfl rfl (fun hG => v_load zk (gd hG rfl) (by first | exact HPq 0 _ rfl | exact HB32.pv 0 _ rfl | assumption)) ?_
 refine l_g1 rfl rfl (fun hG => v_neq (gd hG rfl) rfl) ?_
 refine l_v (v_or rfl rfl) ?_
 refine l_v (zmB rfl) (l_g1 rfl rfl (fun hG => v_fieldAddr (off := 0) (ft := 24) zk rfl) ?_)
 refine l_g1 rfl rfl (fun hG => v_fieldAddr (off := 1) (ft := 22) zk (gd hG rfl)) ?_
 refine l_g1 rfl rfl (fun hG => v_load zk (gd hG rfl) (by first | exact HPq 1 _ rfl | exact pv_1 HPq | exact HB32.pv 1 _ rfl | assumption)) ?_
 refine l_g1 rfl rfl (fun hG => v_indexAddr (et := 63) (sz := 4) (k := 1) zk zk (gd hG rfl) rfl (by first | rfl | omega) zq) ?_
 refine l_g1 rfl rfl (fun hG => v_fieldAddr (off := 3) (ft := 3) zk (gd hG rfl)) ?_
 refine l_g1 rfl rfl (fun hG => v_load zk (gd hG rfl) (by first | exact HPq 3 _ rfl | exact pv_1 HPq | exact HB32.pv 3 _ rfl | assumption)) ?_
 refine l_g1 rfl rfl (fun hG => v_neq (gd hG rfl) rfl) ?_
 refine l_v (v_or rfl rfl) ?_
 replace E := (((E.trans e1.keep).trans e2.keep).trans e32.keep).step k101 dj3
 replace HG0 := HG0.ext e2
 replace HG1 := (HG1.ext e32).keep k101 dj1
 refine l_nil (n_then (c_cond rfl rfl (fun h44 => ?_) (fun h44 => ?_)))
 ·
  exact absurd h44 zq
 refine c_skip (n_then (c_seq (wp_reg zd (l_v (zmF rfl) (l_v (v_loadA zk rfl (by first | exact HB32.pv | assumption) rfl) ?_)))))
 refine l_to (to_call4 zk rfl (zvA rfl) (zvI rfl) (zvG rfl) (zvI rfl) (CallsR.mono (known1_c HG1 ⟨by decide, by decide⟩ ⟨by decide, by decide⟩ zq zq) ?_))
 rintro _ w3 ⟨⟨y3, rfl, HG2⟩, e3⟩
 have := e3.size
 rw [kd2] at HG2 ⊢
 replace HG2 : AgV tMt _ _ _ kT := HG2.all
 obtain ⟨a3, c3, f3, g3, rfl, hsr3, hsm3, _⟩ := AgV.mt HG2
 have HS3 : SlV tRg _ _ (.slice a3 (kT).1.2.length c3) (kT).1.2 := hsr3
 have HSm3 : SlV tMa _ _ (.slice f3 (kT).2.2.length g3) (kT).2.2 := hsm3
 refine l_v (zmT rfl) (l_v (v_extract (t := .agg _) rfl rfl) (l_v (v_extract (t := .int _ _) rfl rfl) (l_to (to_alloc (z := (.agg #[.int .i64 0, .slice none 0 0, .int .i64 0, .slice none 0 0])) (by unfold kZero; kernel_rfl) ?_))))
 rintro b34 w34 zb34 HB34 e34 z34
 have := e34.size
 try simp only [Value.cells] at HB34
 refine l_to (to_storeA (n := 4) rfl rfl (zvA rfl) zk rfl dj6 HB34 dj5 ?_)
 rintro w102 HX102 k102 z102
 have := k102.size
 replace HB34 := HX102
 clear HX102
 try simp only [zS, Nat.zero_add, Nat.reduceAdd, List.drop_nil] at HB34
 refine l_v (zaI rfl) (l_nil (n_then (c_seq (wp_reg zd (l_v (zmF rfl) (l_v (v_loadA zk rfl (by first | exact HB34.pv | assumption) rfl) ?_))))))
 replace HG2 := (HG2.ext e34).keep k102 dj1
 refine l_to (to_call4 zk rfl (zvA rfl) (zvI rfl) (zvG rfl) (zvI rfl) (CallsR.mono (known1_c HG2 ⟨by decide, by decide⟩ ⟨by decide, by decide⟩ zq zq) ?_))
 replace HSm3 := (HSm3.ext e34).keep k102 dj1
 rintro _ w4 ⟨⟨y4, rfl, HG3⟩, e4⟩
 have := e4.size
 rw [kd3] at HG3 ⊢
 replace HG3 : AgV tMt _ _ _ mt0 := HG3.all
 obtain ⟨a4, c4, f4, g4, rfl, hsr4, hsm4, _⟩ := AgV.mt HG3
 have HS4 : SlV tRg _ _ (.slice a4 (mt0).1.2.length c4) (mt0).1.2 := hsr4
 have HSm4 : SlV tMa _ _ (.slice f4 (mt0).2.2.length g4) (mt0).2.2 := hsm4
 refine l_v (zmT rfl) (l_v (v_extract (t := .agg _) rfl rfl) (l_v (v_extract (t := .int _ _) rfl rfl) (l_to (to_alloc (z := (.agg #[.int .i64 0, .slice none 0 0, .int .i64 0, .slice none 0 0])) (by unfold kZero; kernel_rfl) ?_))))
 rintro b35 w35 zb35 HB35 e35 z35
 have := e35.size
 try simp only [Value.cells] at HB35
 refine l_to (to_storeA (n := 4) rfl rfl (zvA rfl) zk rfl dj6 HB35 dj5 ?_)
 rintro w103 HX103 k103 z103
 have := k103.size
 replace HB35 := HX103
 clear HX103
 try simp only [zS, Nat.zero_add, Nat.reduceAdd, List.drop_nil] at HB35
 replace HB34 := ((HB34.ext e4).ext e35).keep k103 dj4
 refine l_v (zaI rfl) (l_nil (n_then (c_seq (wp_reg zd (l_v (zmF rfl) (l_v (v_loadA zk rfl (by first | exact HB34.pv | assumption) rfl) ?_))))))
 replace HG2 := ((HG2.ext e4).ext e35).keep k103 dj1
 refine l_to (to_call4 zk rfl (zvA rfl) (zvI rfl) (zvG rfl) (zvI rfl) (CallsR.mono (known1_c HG2 ⟨by decide, by decide⟩ ⟨by decide, by decide⟩ zq zq) ?_))
 replace HSm3 := ((HSm3.ext e4).ext e35).keep k103 dj1
 rintro _ w5 ⟨⟨y5, rfl, HG3⟩, e5⟩
 have := e5.size
 rw [kd4] at HG3 ⊢
 replace HG3 : AgV tMt _ _ _ mt0 := HG3.all
 obtain ⟨a5, c5, f5, g5, rfl, hsr5, hsm5, _⟩ := AgV.mt HG3
 have HS5 : SlV tRg _ _ (.slice a5 (mt0).1.2.length c5) (mt0).1.2 := hsr5
 have HSm5 : SlV tMa _ _ (.slice f5 (mt0).2.2.length g5) (mt0).2.2 := hsm5
 refine l_v (zmT rfl) (l_v (v_extract (t := .agg _) rfl rfl) (l_v (v_extract (t := .int _ _) rfl rfl) (l_to (to_alloc (z := (.agg #[.int .i64 0, .slice none 0 0, .int .i64 0, .slice none 0 0])) (by unfold kZero; kernel_rfl) ?_))))
 rintro b36 w36 zb36 HB36 e36 z36
 have := e36.size
 try simp only [Value.cells] at HB36
 refine l_to (to_storeA (n := 4) rfl rfl (zvA rfl) zk rfl dj6 HB36 dj5 ?_)
 rintro w104 HX104 k104 z104
 have := k104.size
 replace HB36 := HX104
 clear HX104
 try simp only [zS, Nat.zero_add, Nat.reduceAdd, List.drop_nil] at HB36
 replace HB34 := ((HB34.ext e5).ext e36).keep k104 dj4
 refine l_v (zaI rfl) (l_nil (n_then (c_seq (wp_reg zd (l_v (zmF rfl) (l_v (v_loadA zk rfl (by first | exact HB34.pv | assumption) rfl) ?_))))))
 replace HG2 := ((HG2.ext e5).ext e36).keep k104 dj1
 refine l_to (to_call4 zk rfl (zvA rfl) (zvI rfl) (zvG rfl) (zvI rfl) (CallsR.mono (known1_c HG2 ⟨by decide, by decide⟩ ⟨by decide, by decide⟩ zq zq) ?_))
 replace HSm3 := ((HSm3.ext e5).ext e36).keep k104 dj1
 rintro _ w6 ⟨⟨y6, rfl, HG3⟩, e6⟩
 have := e6.size
 rw [kd5] at HG3 ⊢
 replace HG3 : AgV tMt _ _ _ mt0 := HG3.all
 obtain ⟨a6, c6, f6, g6, rfl, hsr6, hsm6, _⟩ := AgV.mt HG3
 have HS6 : SlV tRg _ _ (.slice a6 (mt0).1.2.length c6) (mt0).1.2 := hsr6
 have HSm6 : SlV tMa _ _ (.slice f6 (mt0).2.2.length g6) (mt0).2.2 := hsm6
 refine l_v (zmT rfl) (l_v (v_extract (t := .agg _) rfl rfl) (l_v (v_extract (t := .int _ _) rfl rfl) (l_to (to_alloc (z := (.agg #[.int .i64 0, .slice none 0 0, .int .i64 0, .slice none 0 0])) (by unfold kZero; kernel_rfl) ?_))))
 rintro b37 w37 zb37 HB37 e37 z37
 have := e37.size
 try simp only [Value.cells] at HB37
 refine l_to (to_storeA (n := 4) rfl rfl (zvA rfl) zk rfl dj6 HB37 dj5 ?_)
 rintro w105 HX105 k105 z105
 have := k105.size
 replace HB37 := HX105
 clear HX105
 try simp only [zS, Nat.zero_add, Nat.reduceAdd, List.drop_nil] at HB37
 refine l_v (zaI rfl) (l_nil (n_then (c_seq (c_seq (wp_reg zd (l_v (zmI rfl) (l_v (v_neq rfl rfl) ?_)))))))
 refine l_v (zmB rfl) (l_g1 rfl rfl (fun hG => v_fieldAddr (off := 3) (ft := 25) zk rfl) ?_)
 replace HB34 := ((HB34.ext e6).ext e37).keep k105 dj4
 refine l_g1 rfl rfl (fun hG => v_load zk (gd hG rfl) (by first | exact HB34.pv 3 _ rfl | assumption)) ?_
 refine l_g1 rfl rfl (fun hG => v_len (et := 54) zk (gd hG rfl)) ?_
 refine l_g1 rfl rfl (fun hG => v_neq (gd hG rfl) rfl) ?_
 refine l_v (v_or rfl rfl) ?_
 refine l_v (zmB rfl) (l_g1 rfl rfl (fun hG => zmI rfl) (l_g1 rfl rfl (fun hG => v_neq (gd hG rfl) rfl) ?_))
 refine l_v (v_or rfl rfl) ?_
 refine l_v (zmB rfl) (l_g1 rfl rfl (fun hG => zmI rfl) (l_g1 rfl rfl (fun hG => v_neq (gd hG rfl) rfl) ?_))
 refine l_v (v_or rfl rfl) ?_
 refine l_v (zmB rfl) (l_g1 rfl rfl (fun hG => zmI rfl) (l_g1 rfl rfl (fun hG => v_neq (gd hG rfl) rfl) ?_))
 refine l_v (v_or rfl rfl) ?_
 replace E := (((((((((((E.trans e3.keep).trans e34.keep).step k102 dj3).trans e4.keep).trans e35.keep).step k103 dj3).trans e5.keep).trans e36.keep).step k104 dj3).trans e6.keep).trans e37.keep).step k105 dj3
 replace HG1 := HG1.ext e3
 replace HB32 := HB32.ext e3
 replace HG2 := ((HG2.ext e6).ext e37).keep k105 dj1
 replace HSm3 := ((HSm3.ext e6).ext e37).keep k105 dj1
 refine l_nil (n_then (c_cond rfl rfl (fun h88 => ?_) (fun h88 => ?_)))
 ·
  exact absurd h88 zq
 obtain ⟨q2, cs2, hq2, hF2, _, HPm, hrm⟩ := HSm3.el (k := 0) rfl
 subst hq2
 have HGa : AgV tMa _ _ _ (kMv, false) := ⟨cs2, rfl, hrm⟩
 obtain ⟨y3, z3, y4, z4, rfl, _⟩ := tMa_cells hrm
 have HGmv := AgV.maMv HGa
 replace HGmv := HGmv.all
 refine c_skip (n_then (c_seq (wp_reg zd (l_v (v_fieldAddr (off := 3) (ft := 25) zk rfl) (l_v (v_load zk rfl (by first | exact HPm 3 _ rfl | exact pv_1 HPm | exact HB34.pv 3 _ rfl | assumption)) ?_)))))
 refine l_v (v_indexAddr (et := 54) (sz := 7) (k := 0) zk zk rfl rfl (by first | rfl | omega) zq) ?_
 refine l_v (v_fieldAddr (off := 0) (ft := 39) zk rfl) (l_v (v_loadA zk rfl (by first | exact (show Pv _ _ [_, _, _, _, _, _] from pv_sub 0 6 HPm) | exact (show Pv _ _ [_, _, _, _, _, _] from pv_sub 0 6 HB34.pv) | exact pv_at 0 HPm | exact pv_at 0 HB34.pv | exact HPm | assumption) rfl) ?_)
 refine l_to (to_alloc (z := (.agg #[.int .i64 0, .slice none 0 0, .slice none 0 0, .bool false, .int .i64 0, .int .i64 0])) (by unfold kZero; kernel_rfl) ?_)
 rintro b41 w41 zb41 HB41 e41 z41
 have := e41.size
 try simp only [Value.cells] at HB41
 refine l_to (to_storeA (n := 6) rfl rfl (zvA rfl) zk rfl dj6 HB41 dj5 ?_)
 rintro w106 HX106 k106 z106
 have := k106.size
 replace HB41 := HX106
 clear HX106
 try simp only [zS, Nat.zero_add, Nat.reduceAdd, List.drop_nil] at HB41
 replace HB34 := (HB34.ext e41).keep k106 dj4
 replace HPm := (HPm.ext e41).keep k106 (by intro h; (try dsimp only at h); (try simp only [add_block] at h); first | omega)
 refine l_nil (n_then (c_seq (wp_reg zd (l_v (v_loadA zk rfl (by first | exact HB41.pv | exact HPm | exact HB34.pv | assumption) rfl) ?_))))
 refine l_v (v_loadA zk rfl (by first | exact HB41.pv | exact HPm | exact HB34.pv | assumption) rfl) ?_
 refine l_v (v_build (pl := [(0, 1), (1, 9), (10, 6), (16, 1), (17, 1), (18, 1), (19, 1)]) (z := .agg #[.int .i64 0, .int .i64 0, .int .i64 0, .int .i64 0, .slice none 0 0, .slice none 0 0, .slice none 0 0, .slice none 0 0, .bool false, .int .i64 0, .int .i64 0, .slice none 0 0, .slice none 0 0, .bool false, .int .i64 0, .int .i64 0, .slice none 0 0, .slice none 0 0, .slice none 0 0, .int .i64 0]) (zl := [.int .i64 0, .int .i64 0, .int .i64 0, .int .i64 0, .slice none 0 0, .slice none 0 0, .slice none 0 0, .slice none 0 0, .bool false, .int .i64 0, .int .i64 0, .slice none 0 0, .slice none 0 0, .bool false, .int .i64 0, .int .i64 0, .slice none 0 0, .slice none 0 0, .slice none 0 0, .int .i64 0]) zk (by unfold kZero; kernel_rfl) rfl rfl (cells := [_, _, _, _, _, _, _, _, _, _, _, _, _, _, _, _, _, _, _, _]) rfl) ?_
 replace HG2 := (HG2.ext e41).keep k106 dj1
 replace HGmv := (HGmv.ext e41).keep k106 dj1
 refine l_to (to_f2 zk (zvA rfl) (zvA rfl) (CallsR.mono (MetaDo_s (c := (10, rq0, kMv, [], [], [], 0)) HG2 (AgV.mkCm ⟨by decide, by decide⟩ rq0_ag HGmv (SlV.nil _ _ _) (SlV.nil _ _ _) (SlV.nil _ _ _) ⟨by decide, by decide⟩) zq) ?_))
 rintro _ w7 ⟨⟨y7, rfl, HG3⟩, e7⟩
 have := e7.size
 rw [kd6] at HG3 ⊢
 replace HG3 : AgV tMt _ _ _ mt0 := HG3.all
 obtain ⟨a7, c7, f7, g7, rfl, hsr7, hsm7, _⟩ := AgV.mt HG3
 have HS7 : SlV tRg _ _ (.slice a7 (mt0).1.2.length c7) (mt0).1.2 := hsr7
 have HSm7 : SlV tMa _ _ (.slice f7 (mt0).2.2.length g7) (mt0).2.2 := hsm7
 replace HB34 := HB34.ext e7
 replace HB41 := HB41.ext e7
 refine l_v (zmT rfl) (l_v (v_extract (t := .agg _) rfl rfl) (l_v (v_extract (t := .int _ _) rfl rfl) (l_v (zaI rfl) (l_nil (n_then (c_seq (wp_reg zd (l_v (v_loadA zk rfl (by first | exact HB41.pv | exact HB34.pv | assumption) rfl) ?_))))))))
 refine l_v (v_loadA zk rfl (by first | exact HB41.pv | exact HB34.pv | assumption) rfl) ?_
 refine l_v (v_build (pl := [(0, 1), (1, 9), (10, 6), (16, 1), (17, 1), (18, 1), (19, 1)]) (z := .agg #[.int .i64 0, .int .i64 0, .int .i64 0, .int .i64 0, .slice none 0 0, .slice none 0 0, .slice none 0 0, .slice none 0 0, .bool false, .int .i64 0, .int .i64 0, .slice none 0 0, .slice none 0 0, .bool false, .int .i64 0, .int .i64 0, .slice none 0 0, .slice none 0 0, .slice none 0 0, .int .i64 0]) (zl := [.int .i64 0, .int .i64 0, .int .i64 0, .int .i64 0, .slice none 0 0, .slice none 0 0, .slice none 0 0, .slice none 0 0, .bool false, .int .i64 0, .int .i64 0, .slice none 0 0, .slice none 0 0, .bool false, .int .i64 0, .int .i64 0, .slice none 0 0, .slice none 0 0, .slice none 0 0, .int .i64 0]) zk (by unfold kZero; kernel_rfl) rfl rfl (cells := [_, _, _, _, _, _, _, _, _, _, _, _, _, _, _, _, _, _, _, _]) rfl) ?_
 replace HG2 := HG2.ext e7
 replace HGmv := HGmv.ext e7
 refine l_to (to_f2 zk (zvA rfl) (zvA rfl) (CallsR.mono (MetaDo_s (c := (9, rq0, kMv, [], [], [], 0)) HG2 (AgV.mkCm ⟨by decide, by decide⟩ rq0_ag HGmv (SlV.nil _ _ _) (SlV.nil _ _ _) (SlV.nil _ _ _) ⟨by decide, by decide⟩) zq) ?_))
 rintro _ w8 ⟨⟨y8, rfl, HG4⟩, e8⟩
 have := e8.size
 rw [kd7] at HG4 ⊢
 replace HG4 : AgV tMt _ _ _ kU := HG4.all
 obtain ⟨a8, c8, f8, g8, rfl, hsr8, hsm8, _⟩ := AgV.mt HG4
 have HS8 : SlV tRg _ _ (.slice a8 (kU).1.2.length c8) (kU).1.2 := hsr8
 have HSm8 : SlV tMa _ _ (.slice f8 (kU).2.2.length g8) (kU).2.2 := hsm8
 refine l_v (zmT rfl) (l_v (v_extract (t := .agg _) rfl rfl) (l_v (v_extract (t := .int _ _) rfl rfl) (l_to (to_alloc (z := (.agg #[.int .i64 0, .slice none 0 0, .int .i64 0, .slice none 0 0])) (by unfold kZero; kernel_rfl) ?_))))
 rintro b42 w42 zb42 HB42 e42 z42
 have := e42.size
 try simp only [Value.cells] at HB42
 refine l_to (to_storeA (n := 4) rfl rfl (zvA rfl) zk rfl dj6 HB42 dj5 ?_)
 rintro w107 HX107 k107 z107
 have := k107.size
 replace HB42 := HX107
 clear HX107
 try simp only [zS, Nat.zero_add, Nat.reduceAdd, List.drop_nil] at HB42
 replace HB41 := ((HB41.ext e8).ext e42).keep k107 dj4
 refine l_v (zaI rfl) (l_nil (n_then (c_seq (wp_reg zd (l_v (v_loadA zk rfl (by first | exact HB42.pv | exact HB41.pv | assumption) rfl) ?_)))))
 refine l_v (v_loadA zk rfl (by first | exact HB42.pv | exact HB41.pv | assumption) rfl) ?_
 refine l_v (v_build (pl := [(0, 1), (1, 9), (10, 6), (16, 1), (17, 1), (18, 1), (19, 1)]) (z := .agg #[.int .i64 0, .int .i64 0, .int .i64 0, .int .i64 0, .slice none 0 0, .slice none 0 0, .slice none 0 0, .slice none 0 0, .bool false, .int .i64 0, .int .i64 0, .slice none 0 0, .slice none 0 0, .bool false, .int .i64 0, .int .i64 0, .slice none 0 0, .slice none 0 0, .slice none 0 0, .int .i64 0]) (zl := [.int .i64 0, .int .i64 0, .int .i64 0, .int .i64 0, .slice none 0 0, .slice none 0 0, .slice none 0 0, .slice none 0 0, .bool false, .int .i64 0, .int .i64 0, .slice none 0 0, .slice none 0 0, .bool false, .int .i64 0, .int .i64 0, .slice none 0 0, .slice none 0 0, .slice none 0 0, .int .i64 0]) zk (by unfold kZero; kernel_rfl) rfl rfl (cells := [_, _, _, _, _, _, _, _, _, _, _, _, _, _, _, _, _, _, _, _]) rfl) ?_
 replace HGmv := ((HGmv.ext e8).ext e42).keep k107 dj1
 replace HG4 := (HG4.ext e42).keep k107 dj1
 refine l_to (to_f2 zk (zvA rfl) (zvA rfl) (CallsR.mono (MetaDo_s (c := (9, rq0, kMv, [], [], [], 0)) HG4 (AgV.mkCm ⟨by decide, by decide⟩ rq0_ag HGmv (SlV.nil _ _ _) (SlV.nil _ _ _) (SlV.nil _ _ _) ⟨by decide, by decide⟩) zq) ?_))
 replace HS8 := (HS8.ext e42).keep k107 dj1
 replace HSm8 := (HSm8.ext e42).keep k107 dj1
 rintro _ w9 ⟨⟨y9, rfl, HG3⟩, e9⟩
 have := e9.size
 rw [kd8] at HG3 ⊢
 replace HG3 : AgV tMt _ _ _ mt0 := HG3.all
 obtain ⟨a9, c9, f9, g9, rfl, hsr9, hsm9, _⟩ := AgV.mt HG3
 have HS9 : SlV tRg _ _ (.slice a9 (mt0).1.2.length c9) (mt0).1.2 := hsr9
 have HSm9 : SlV tMa _ _ (.slice f9 (mt0).2.2.length g9) (mt0).2.2 := hsm9
 replace HB41 := HB41.ext e9
 replace HB42 := HB42.ext e9
 refine l_v (zmT rfl) (l_v (v_extract (t := .agg _) rfl rfl) (l_v (v_extract (t := .int _ _) rfl rfl) (l_v (zaI rfl) (l_nil (n_then (c_seq (wp_reg zd (l_v (v_loadA zk rfl (by first | exact HB42.pv | exact HB41.pv | assumption) rfl) ?_))))))))
 replace HG4 := HG4.ext e9
 refine l_to (to_f1 zk (zvA rfl) (CallsR.mono (Wants_s HG4 zq) ?_))
 rintro _ w13 ⟨⟨a13, c13, rfl, hW⟩, e13⟩
 have := e13.size
 rw [kw] at hW ⊢
 have HS13 := hW.mono (F' := fun b => b < w13.heap.size) fun b hb _ => hb
 replace HS8 := (HS8.ext e9).ext e13
 obtain ⟨q3, cs3, hq3, hF3, _, HPu, hru⟩ := HS8.el (k := 1) rfl
 subst hq3
 obtain ⟨y5, z5, y6, z6, rfl, _⟩ := tRg_cells hru
 obtain ⟨q5, cs5, hq5, hF5, _, HPw, hrw⟩ := HS13.el (k := 0) rfl
 subst hq5
 obtain ⟨_, cc, rfl, ⟨rfl, _⟩, hrc⟩ := hrw
 obtain ⟨_, cc2, rfl, ⟨rfl, _⟩, _⟩ := hrc
 refine l_v (zaS rfl) (l_nil (n_then (c_seq (c_seq (wp_reg zd (l_v (zmI rfl) (l_v (v_neq rfl rfl) ?_)))))))
 refine l_v (zmB rfl) (l_g1 rfl rfl (fun hG => zmI rfl) (l_g1 rfl rfl (fun hG => v_neq (gd hG rfl) rfl) ?_))
 refine l_v (v_or rfl rfl) ?_
 refine l_v (zmB rfl) (l_g1 rfl rfl (fun hG => zmI rfl) (l_g1 rfl rfl (fun hG => v_neq (gd hG rfl) rfl) ?_))
 refine l_v (v_or rfl rfl) ?_
 refine l_v (zmB rfl) (l_g1 rfl rfl (fun hG => v_fieldAddr (off := 0) (ft := 24) zk rfl) ?_)
 refine l_g1 rfl rfl (fun hG => v_fieldAddr (off := 1) (ft := 22) zk (gd hG rfl)) ?_
 replace HB41 := HB41.ext e13
 replace HB42 := HB42.ext e13
 refine l_g1 rfl rfl (fun hG => v_load zk (gd hG rfl) (by first | exact HPw 1 _ rfl | exact pv_1 HPw | exact HPu 1 _ rfl | exact pv_1 HPu | exact HB42.pv 1 _ rfl | exact HB41.pv 1 _ rfl | assumption)) ?_
 refine l_g1 rfl rfl (fun hG => v_indexAddr (et := 63) (sz := 4) (k := 1) zk zk (gd hG rfl) rfl (by first | rfl | omega) zq) ?_
 refine l_g1 rfl rfl (fun hG => v_fieldAddr (off := 3) (ft := 3) zk (gd hG rfl)) ?_
 refine l_g1 rfl rfl (fun hG => v_load zk (gd hG rfl) (by first | exact HPw 3 _ rfl | exact pv_1 HPw | exact HPu 3 _ rfl | exact pv_1 HPu | exact HB42.pv 3 _ rfl | exact HB41.pv 3 _ rfl | assumption)) ?_
 refine l_g1 rfl rfl (fun hG => v_neq (gd hG rfl) rfl) ?_
 refine l_v (v_or rfl rfl) ?_
 refine l_v (zmB rfl) (l_g1 rfl rfl (fun hG => zmS rfl) (l_g1 rfl rfl (fun hG => v_len (et := 60) zk (gd hG rfl)) ?_))
 refine l_g1 rfl rfl (fun hG => v_neq (gd hG rfl) rfl) ?_
 refine l_v (v_or rfl rfl) ?_
 refine l_v (zmB rfl) (l_g1 rfl rfl (fun hG => zmS rfl) (l_g1 rfl rfl (fun hG => v_indexAddr (et := 60) (sz := 21) (k := 0) zk zk (gd hG rfl) rfl (by first | rfl | omega) zq) ?_))
 refine l_g1 rfl rfl (fun hG => v_fieldAddr (off := 0) (ft := 3) zk (gd hG rfl)) ?_
 refine l_g1 rfl rfl (fun hG => v_load zk (gd hG rfl) (by first | exact HPw 0 _ rfl | exact HPu 0 _ rfl | exact HB42.pv 0 _ rfl | exact HB41.pv 0 _ rfl | assumption)) ?_
 refine l_g1 rfl rfl (fun hG => v_neq (gd hG rfl) rfl) ?_
 refine l_v (v_or rfl rfl) ?_
 refine l_v (zmB rfl) (l_g1 rfl rfl (fun hG => zmS rfl) (l_g1 rfl rfl (fun hG => v_indexAddr (et := 60) (sz := 21) (k := 0) zk zk (gd hG rfl) rfl (by first | rfl | omega) zq) ?_))
 refine l_g1 rfl rfl (fun hG => v_fieldAddr (off := 1) (ft := 42) zk (gd hG rfl)) ?_
 refine l_g1 rfl rfl (fun hG => v_fieldAddr (off := 0) (ft := 31) zk (gd hG rfl)) ?_
 refine l_g1 rfl rfl (fun hG => v_load zk (gd hG rfl) (by first | exact HPw 1 _ rfl | exact pv_1 HPw | exact HPu 1 _ rfl | exact pv_1 HPu | exact HB42.pv 1 _ rfl | exact HB41.pv 1 _ rfl | exact HPw 0 _ rfl | exact HPu 0 _ rfl | exact HB42.pv 0 _ rfl | exact HB41.pv 0 _ rfl | assumption)) ?_
 refine l_g1 rfl rfl (fun hG => v_neq (gd hG rfl) rfl) ?_
 refine l_v (v_or rfl rfl) ?_
 replace E := (((((((E.trans e41.keep).step k106 dj3).trans e7.keep).trans e8.keep).trans e42.keep).step k107 dj3).trans e9.keep).trans e13.keep
 replace HPm := HPm.ext e7
 replace HG2 := HG2.ext e8
 replace HB34 := HB34.ext e8
 replace HGmv := (HGmv.ext e9).ext e13
 replace HSm8 := (HSm8.ext e9).ext e13
 replace HG4 := HG4.ext e13
 refine l_nil (n_then (c_cond rfl rfl (fun h155 => ?_) (fun h155 => ?_)))
 ·
  exact absurd h155 zq
 refine c_skip (n_then (c_seq (wp_reg zd (l_v (v_loadA zk rfl (by first | exact HB42.pv | exact HB41.pv | assumption) rfl) ?_))))
 refine l_v (v_loadA zk rfl (by first | exact HB42.pv | exact HB41.pv | assumption) rfl) ?_
 refine l_v (v_build (pl := [(0, 1), (1, 9), (10, 6), (16, 1), (17, 1), (18, 1), (19, 1)]) (z := .agg #[.int .i64 0, .int .i64 0, .int .i64 0, .int .i64 0, .slice none 0 0, .slice none 0 0, .slice none 0 0, .slice none 0 0, .bool false, .int .i64 0, .int .i64 0, .slice none 0 0, .slice none 0 0, .bool false, .int .i64 0, .int .i64 0, .slice none 0 0, .slice none 0 0, .slice none 0 0, .int .i64 0]) (zl := [.int .i64 0, .int .i64 0, .int .i64 0, .int .i64 0, .slice none 0 0, .slice none 0 0, .slice none 0 0, .slice none 0 0, .bool false, .int .i64 0, .int .i64 0, .slice none 0 0, .slice none 0 0, .bool false, .int .i64 0, .int .i64 0, .slice none 0 0, .slice none 0 0, .slice none 0 0, .int .i64 0]) zk (by unfold kZero; kernel_rfl) rfl rfl (cells := [_, _, _, _, _, _, _, _, _, _, _, _, _, _, _, _, _, _, _, _]) rfl) ?_
 refine l_to (to_f2 zk (zvA rfl) (zvA rfl) (CallsR.mono (MetaDo_s (c := (10, rq0, kMv, [], [], [], 0)) HG4 (AgV.mkCm ⟨by decide, by decide⟩ rq0_ag HGmv (SlV.nil _ _ _) (SlV.nil _ _ _) (SlV.nil _ _ _) ⟨by decide, by decide⟩) zq) ?_))
 rintro _ w10 ⟨⟨y10, rfl, HG5⟩, e10⟩
 have := e10.size
 rw [kd9] at HG5 ⊢
 replace HG5 : AgV tMt _ _ _ kV := HG5.all
 obtain ⟨a10, c10, f10, g10, rfl, hsr10, hsm10, _⟩ := AgV.mt HG5
 have HS10 : SlV tRg _ _ (.slice a10 (kV).1.2.length c10) (kV).1.2 := hsr10
 have HSm10 : SlV tMa _ _ (.slice f10 (kV).2.2.length g10) (kV).2.2 := hsm10
 refine l_v (zmT rfl) (l_v (v_extract (t := .agg _) rfl rfl) (l_v (v_extract (t := .int _ _) rfl rfl) (l_to (to_alloc (z := (.agg #[.int .i64 0, .slice none 0 0, .int .i64 0, .slice none 0 0])) (by unfold kZero; kernel_rfl) ?_))))
 rintro b44 w44 zb44 HB44 e44 z44
 have := e44.size
 try simp only [Value.cells] at HB44
 refine l_to (to_storeA (n := 4) rfl rfl (zvA rfl) zk rfl dj6 HB44 dj5 ?_)
 rintro w108 HX108 k108 z108
 have := k108.size
 replace HB44 := HX108
 clear HX108
 try simp only [zS, Nat.zero_add, Nat.reduceAdd, List.drop_nil] at HB44
 replace HB41 := ((HB41.ext e10).ext e44).keep k108 dj4
 replace HB42 := ((HB42.ext e10).ext e44).keep k108 dj4
 refine l_v (zaI rfl) (l_nil (n_then (c_seq (wp_reg zd (l_v (zmF rfl) (l_v (v_loadA zk rfl (by first | exact HB44.pv | exact HB42.pv | exact HB41.pv | assumption) rfl) ?_))))))
 replace HG5 := (HG5.ext e44).keep k108 dj1
 refine l_to (to_call4 zk rfl (zvA rfl) (zvI rfl) (zvG rfl) (zvI rfl) (CallsR.mono (known1_c HG5 ⟨by decide, by decide⟩ ⟨by decide, by decide⟩ zq zq) ?_))
 replace HGmv := ((HGmv.ext e10).ext e44).keep k108 dj1
 replace HSm8 := ((HSm8.ext e10).ext e44).keep k108 dj1
 replace HSm10 := (HSm10.ext e44).keep k108 dj1
 rintro _ w11 ⟨⟨y11, rfl, HG6⟩, e11⟩
 have := e11.size
 rw [kd10] at HG6 ⊢
 replace HG6 : AgV tMt _ _ _ mt0 := HG6.all
 obtain ⟨a11, c11, f11, g11, rfl, hsr11, hsm11, _⟩ := AgV.mt HG6
 have HS11 : SlV tRg _ _ (.slice a11 (mt0).1.2.length c11) (mt0).1.2 := hsr11
 have HSm11 : SlV tMa _ _ (.slice f11 (mt0).2.2.length g11) (mt0).2.2 := hsm11
 refine l_v (zmT rfl) (l_v (v_extract (t := .agg _) rfl rfl) (l_v (v_extract (t := .int _ _) rfl rfl) (l_v (zaI rfl) (l_nil (n_then (c_seq (wp_reg zd (l_v (zmI rfl) (l_v (v_eql rfl rfl) ?_)))))))))
 refine l_v (zmB rfl) (l_g1 rfl rfl (fun hG => v_fieldAddr (off := 3) (ft := 25) zk rfl) ?_)
 replace HB41 := HB41.ext e11
 replace HB42 := HB42.ext e11
 replace HB44 := HB44.ext e11
 refine l_g1 rfl rfl (fun hG => v_load zk (gd hG rfl) (by first | exact HB44.pv 3 _ rfl | exact HB42.pv 3 _ rfl | exact HB41.pv 3 _ rfl | assumption)) ?_
 refine l_g1 rfl rfl (fun hG => v_len (et := 54) zk (gd hG rfl)) ?_
 refine l_g1 rfl rfl (fun hG => v_eql (gd hG rfl) rfl) ?_
 refine l_v (v_and rfl rfl) ?_
 refine l_v (zmB rfl) (l_g1 rfl rfl (fun hG => v_fieldAddr (off := 2) (ft := 2) zk rfl) ?_)
 refine l_g1 rfl rfl (fun hG => v_load zk (gd hG rfl) (by first | exact HB44.pv 2 _ rfl | exact HB42.pv 2 _ rfl | exact HB41.pv 2 _ rfl | assumption)) ?_
 refine l_g1 rfl rfl (fun hG => v_eql (gd hG rfl) rfl) ?_
 refine l_v (v_and rfl rfl) ?_
 refine l_v (zmB rfl) (l_g1 rfl rfl (fun hG => zmI rfl) (l_g1 rfl rfl (fun hG => v_eql (gd hG rfl) rfl) ?_))
 refine l_v (v_and rfl rfl) ?_
 refine l_v (zaB rfl) (l_nil (n_then (c_ret (ret1v rfl zq (zvB rfl) ?_))))
 replace E := (((E.trans e10.keep).trans e44.keep).step k108 dj3).trans e11.keep
 exact ⟨rfl, E⟩
end Go.Proofs.Yteehplloacefmaa
