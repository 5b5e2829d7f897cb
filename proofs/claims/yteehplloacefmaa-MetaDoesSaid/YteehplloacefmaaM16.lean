/- A part of the proof: steps and lemmas for the walks through the given program. -/
import Derived.Test.YteehplloacefmaaM15
namespace Go.Proofs.Yteehplloacefmaa
open Go.Vc
set_option linter.unusedVariables false
set_option linter.unusedSimpArgs false
set_option maxRecDepth 100000

theorem ownB_c {w : World} {F : Nat → Prop} {v : Value} {l : List UInt8} (HS1 : Bv w F v l) (hl : l.length ≤ 140737488355328) : CallsR Try.prog 26 #[v] w (fun o w' => Bv w' (fun b => w.heap.size ≤ b) o l ∧ Ext w w') := by
  obtain ⟨a, c, rfl⟩ := HS1.shape
  refine enter 5 Try.func26 rfl rfl (by simp) ?_
  refine c_seq ?_
  have E := Keep.refl (K := NoK) w
  replace HS1 := HS1.all
  refine wp_reg zd (l_v (v_assign rfl) (l_nil (n_then (c_seq (wp_reg zd (l_v (zmS rfl) (l_to (to_appNil (et := 5) (bytes := 1) (F := NoK) zk rfl (zvS rfl) HS1 (fun cs z h => h) zo ?_))))))))
  rintro v5 w5 HO5 e5
  have := e5.size
  obtain ⟨a5, c5, rfl⟩ := HO5.shape
  have zo_HO5 := fun (b : Nat) h => HO5.own_lt (b := b) h
  refine l_v (zaS rfl) (l_nil (n_then (c_ret (ret1v rfl zq (zvS rfl) ?_))))
  replace E := E.trans e5.keep
  exact ⟨HO5.view.mono fun b _ h => h.elim (fun h => by omega) fun h => h.elim, E⟩
theorem partsR {e : Nat → Value} {i0 i1 i2 i3 : Nat} {x0 x1 x2 x3 : Operand} {v0 v1 v2 v3 : Value} (h0 : ev e x0 = v0) (h1 : ev e x1 = v1) (h2 : ev e x2 = v2) (h3 : ev e x3 = v3) : (#[(i0, x0), (i1, x1), (i2, x2), (i3, x3)] : Array (Nat × Operand)).toList.map (fun x => (x.1, ev e x.2)) = [(i0, v0), (i1, v1), (i2, v2), (i3, v3)] := by simp [h0, h1, h2, h3]
set_option maxHeartbeats 1000000 in
theorem copied_c {w : World} {F : Nat → Prop} {v : Value} {e n : Int} {rs : List RgV} {ms : List MaV} (HG1 : AgV tMt w F v ((e, rs), n, ms)) (hl : ∀ r ∈ rs, r.1.length ≤ 140737488355328 ∧ r.2.1.length ≤ 140737488355328) (hl2 : ∀ x ∈ ms, x.1.2.1.length ≤ 140737488355328 ∧ x.1.2.2.1.length ≤ 140737488355328) (hn1 : rs.length ≤ 100000) (hn2 : ms.length ≤ 100000) :
    CallsR Try.prog 11 #[v] w (fun o w' => AgV tMt w' (fun q => w.heap.size ≤ q) o ((e, rs), n, ms) ∧ Ext w w') := by
 obtain ⟨a, c, a2, c2, rfl, HSr, HSm, ie, im⟩ := HG1.mt
 simp only at HSr HSm ie im
 clear HG1
 refine enter 79 Try.func11 rfl rfl (by simp) ?_
 refine c_seq ?_
 have E := Keep.refl (K := NoK) w
 replace HSr := HSr.all
 replace HSm := HSm.all
 refine wp_reg zd (l_to (to_box (zvA rfl) ?_))
 rintro b1 w1 zb1 HB1 e1 z1
 have := e1.size
 try simp only [Value.cells] at HB1
 refine l_to (to_alloc (z := (.agg #[.int .i64 0, .slice none 0 0, .int .i64 0, .slice none 0 0])) (by unfold kZero; kernel_rfl) ?_)
 rintro b2 w2 zb2 HB2 e2 z2
 have := e2.size
 try simp only [Value.cells] at HB2
 refine l_nil (n_then (c_seq ?_))
 obtain ⟨n0, hn0⟩ : ∃ n, n = w2.heap.size := ⟨_, rfl⟩
 refine wp_reg zd (l_v (zaF rfl) (l_nil (n_then (c_seq (wp_reg zd (l_v (v_assign rfl) (l_nil (n_then (c_seq ?_)))))))))
 replace E := (E.trans e1.keep).trans e2.keep
 refine c_seq (wp_reg zd (l_v (v_assign rfl) (l_nil (n_then (c_block (c_loop (τ := Nat × Option Addr × Nat) [4, 5, 6, 10, 11, 12, 13, 14, 15, 16, 17, 18, 19, 20, 21, 22, 23, 24, 25, 26, 27, 28, 29, 30, 31, 32, 33, 34, 35, 36, 37, 38, 39] (fun (i, a5, c5) => [(4, .slice a5 i c5), (5, .int .i64 i)]) (fun (i, a5, c5) W => Ext w W ∧ Keep (fun b => n0 ≤ b) w2 W ∧ i ≤ rs.length ∧ OwV tRg 63 W n0 (fun b => n0 ≤ b ∧ b < W.heap.size) (.slice a5 i c5) (rs.take i)) (fun (i, a5, c5) => rs.length - i) (0, none, 0) (by exact ⟨rfl, rfl, trivial⟩) (by exact ⟨E, Keep.refl _, Nat.zero_le _, OwV.nil _ _ _ _ _⟩) ?_))))))
 rintro ⟨i, a5, c5⟩ w101 j ⟨E, EL1, h1, HOx⟩
 have := EL1.size
 have zo_HOx := fun (b : Nat) h => HOx.own_lt (b := b) h
 replace HB1 := (HB1.ext e2).keep EL1 dj4
 replace HB2 := HB2.keep EL1 dj4
 refine c_seq (c_seq (wp_reg zd (l_v (zmI rfl) (l_v (v_fieldAddr (off := 0) (ft := 24) zk rfl) (l_v (v_fieldAddr (off := 1) (ft := 22) zk rfl) (l_v (v_load zk rfl (by first | exact HB2.pv 1 _ rfl | exact HB1.pv 1 _ rfl | assumption)) ?_))))))
 refine l_v (v_len (et := 63) zk rfl) ?_
 refine l_v (v_lss rfl rfl) ?_
 replace HSr := ((HSr.ext e1).ext e2).keep EL1 dj1
 replace HSm := ((HSm.ext e1).ext e2).keep EL1 dj1
 refine l_nil (n_then (c_cond rfl rfl (fun hlt => ?_) (fun hlt => ?_)))
 ·
  have hlt := dtrue hlt
  have htl : (rs.take i).length = i := by rw [List.length_take]; omega
  obtain ⟨r, hx, _⟩ := getE (l := rs) (i := i) zo
  obtain ⟨hl1, hl2'⟩ := hl r (List.mem_of_getElem? hx)
  obtain ⟨n7, hn7⟩ : ∃ n, n = w101.heap.size := ⟨_, rfl⟩
  refine c_skip (n_then (c_seq (c_block (c_seq (wp_reg zd (l_v (v_fieldAddr (off := 0) (ft := 24) zk rfl) (l_v (v_fieldAddr (off := 1) (ft := 22) zk rfl) (l_v (v_load zk rfl (by first | exact HB2.pv 1 _ rfl | exact HB1.pv 1 _ rfl | assumption)) ?_))))))))
  refine l_v (zmI rfl) (l_to (to_index (et := 63) zk zk (zvS rfl) HSr (zvI rfl) rfl hx ?_))
  rintro q cs hF HPq hr
  obtain ⟨b3, d3, b5, d5, rfl, HSf, HSt, hg⟩ := tRg_cells hr
  refine l_v (v_loadA zk rfl (by first | exact HPq | exact HB2.pv | exact HB1.pv | assumption) rfl) ?_
  refine l_to (to_alloc (z := (.agg #[.slice none 0 0, .slice none 0 0, .bool false, .int .i64 0])) (by unfold kZero; kernel_rfl) ?_)
  rintro b6 w6 zb6 HB6 e6 z6
  have := e6.size
  try simp only [Value.cells] at HB6
  refine l_to (to_storeA (n := 4) rfl rfl (zvA rfl) zk rfl dj6 HB6 dj5 ?_)
  rintro w102 HX102 k102 z102
  have := k102.size
  replace HB6 := HX102
  clear HX102
  try simp only [zS, Nat.zero_add, Nat.reduceAdd, List.drop_nil] at HB6
  refine l_nil (n_then (wp_any zk ?_))
  have e103 : Ext w102 { w102 with drawn := w102.drawn + 1 } := Keep.drawn _ _
  replace E := (E.trans e6.keep).step k102 dj3
  replace HSr := (HSr.ext e6).keep k102 dj1
  replace HSm := (HSm.ext e6).keep k102 dj1
  replace HB1 := (HB1.ext e6).keep k102 dj4
  replace HB2 := (HB2.ext e6).keep k102 dj4
  replace HOx := (HOx.ext e6).keep k102 (by intro i ho he; have he0 := he; have ho0 := ho; (try dsimp only [NoK] at he); (try simp only [Value.ownBlock, Option.some.injEq, reduceCtorEq] at ho); (try simp only [Value.ownBlock, Option.some.injEq, reduceCtorEq] at he); first | exact he.elim | exact ho.elim | omega | (have := zo_HOx _ ho0; omega)) (by intro i _ hi _ he; have he0 := he; have hi := hi; have he := he; (try dsimp only [NoK, AllB] at hi he); (try simp only [Value.ownBlock, Option.some.injEq, reduceCtorEq] at he); all_goals first | exact hi.elim | exact hi.1.elim | exact he.elim | omega | (rcases hi with hi | hi <;> omega) | (rcases he with he | he <;> omega))
  replace EL1 := (EL1.trans e6.keep).step k102 dj3
  replace HSf := (HSf.ext e6).keep k102 dj1
  replace HSt := (HSt.ext e6).keep k102 dj1
  generalize hw103 : ({ w102 with drawn := w102.drawn + 1 } : World) = w103 at e103 ⊢
  clear hw103
  have := e103.size
  refine r_cut 15 rfl zd zd zd ?_
  refine wp_regdW (NoK) zd zd ?_
  refine rt_v (fun vals w hR hd => zmS rfl) ?_
  refine rt_v (fun vals w hR hd => zmF rfl) ?_
  refine rt_v (fun vals w hR hd => v_fieldAddr (off := 0) (ft := 33) zk rfl) ?_
  replace HB1 := HB1.ext e103
  replace HB2 := HB2.ext e103
  replace HB6 := HB6.ext e103
  refine rt_v (fun vals w hR hd => v_load zk (hd 2 rfl) (by first | exact (HB6.ext hR).pv 0 _ rfl | exact (HB2.ext hR).pv 0 _ rfl | exact (HB1.ext hR).pv 0 _ rfl | assumption)) ?_
  replace HSf := HSf.ext e103
  refine rt_to (fun v W => Bv W (fun b => n7 ≤ b) v r.1) (fun v w w' h k => h.ext k) (fun vals w hR hd => to_call1 zk (hd 1 rfl) (hd 3 rfl) (CallsR.mono (ownB_c (HSf.ext hR) zo) fun v w1 ⟨h, e⟩ => ⟨e, h.mono fun b _ hb => by have := hR.size; omega⟩)) ?_
  refine rt_v (fun vals w hR hd => zmF rfl) ?_
  refine rt_v (fun vals w hR hd => v_fieldAddr (off := 1) (ft := 33) zk rfl) ?_
  refine rt_v (fun vals w hR hd => v_load zk (hd 6 rfl) (by first | exact (HB6.ext hR).pv 1 _ rfl | exact (HB2.ext hR).pv 1 _ rfl | exact (HB1.ext hR).pv 1 _ rfl | assumption)) ?_
  replace HSt := HSt.ext e103
  refine rt_to (fun v W => Bv W (fun b => n7 ≤ b) v r.2.1) (fun v w w' h k => h.ext k) (fun vals w hR hd => to_call1 zk (hd 5 rfl) (hd 7 rfl) (CallsR.mono (ownB_c (HSt.ext hR) zo) fun v w1 ⟨h, e⟩ => ⟨e, h.mono fun b _ hb => by have := hR.size; omega⟩)) ?_
  refine rt_v (fun vals w hR hd => v_fieldAddr (off := 2) (ft := 4) zk rfl) ?_
  refine rt_v (fun vals w hR hd => v_load zk (hd 9 rfl) (by first | exact (HB6.ext hR).pv 2 _ rfl | exact (HB2.ext hR).pv 2 _ rfl | exact (HB1.ext hR).pv 2 _ rfl | assumption)) ?_
  refine rt_v (fun vals w hR hd => v_fieldAddr (off := 3) (ft := 3) zk rfl) ?_
  refine rt_v (fun vals w hR hd => v_load zk (hd 11 rfl) (by first | exact (HB6.ext hR).pv 3 _ rfl | exact (HB2.ext hR).pv 3 _ rfl | exact (HB1.ext hR).pv 3 _ rfl | assumption)) ?_
  refine rt_to (fun v W => AgV tRg W (fun b => n7 ≤ b) v r) (fun v w w' h k => h.ext k) (fun vals w hR hd => OpTo.of_v (v_build (pl := [(0, 1), (1, 1), (2, 1), (3, 1)]) (z := (.agg #[.slice none 0 0, .slice none 0 0, .bool false, .int .i64 0])) (zl := [.slice none 0 0, .slice none 0 0, .bool false, .int .i64 0]) (ps := [(0, vals 4), (1, vals 8), (2, .bool r.2.2.1), (3, .int .i64 r.2.2.2)]) zk (by unfold kZero; kernel_rfl) rfl (partsR rfl rfl (hd 10 rfl) (hd 12 rfl)) (cells := [vals 4, vals 8, .bool r.2.2.1, .int .i64 r.2.2.2]) (by have h1 := SlV.one (show Bv _ _ _ r.1 from hd 4 rfl); have h2 := SlV.one (show Bv _ _ _ r.2.1 from hd 8 rfl); simp [fillL, one_cells h1, one_cells h2, setAt, cells_int, cells_bool])) ⟨Keep.refl _, _, rfl, tRg_mk (show Bv _ _ _ r.1 from hd 4 rfl) (show Bv _ _ _ r.2.1 from hd 8 rfl) hg⟩) ?_
  refine rt_to (fun v W => SlV tRg W (fun b => n7 ≤ b) v [r]) (fun v w w' h k => h.ext k) (fun vals w hR hd => by (obtain ⟨cs, hcs, hr⟩ := (show AgV tRg _ _ _ r from hd 13 rfl); exact to_slice1 (t := tRg) (et := 63) (bytes := 64) zk zq (show _ = vals 13 from rfl) (by rw [hcs]; exact hr) fun b w1 hb HO e z => ⟨e, HO.view.mono fun i _ hi => by have := hR.size; exact hi.elim (fun h => by omega) (fun h => h.1)⟩)) ?_
  have htl2 : (rs.take i ++ [r]).length = i + 1 := by rw [List.length_append, htl]; rfl
  replace HOx := HOx.ext e103
  have HOy := HOx.mono (F' := fun b => n0 ≤ b) fun b _ h => h.1
  have zo_HOy := fun (b : Nat) h => HOy.own_lt (b := b) h
  have zo_HOy := zo_HOx
  refine rt_nil (fun w104 e104 => ?_)
  rintro _ rfl _ rfl _ rfl _ rfl v28 hs28 _ rfl _ rfl _ rfl v32 hs32 _ rfl _ rfl _ rfl _ rfl v37 hs37 v38 HS38
  have := e104.size
  obtain ⟨a38, c38, rfl⟩ := SlV.shape HS38
  refine fin_nil (n_then (r_cut 1 rfl zd zd zd ?_))
  refine r_one zd rfl ?_
  replace HOy := HOy.ext e104
  refine l_to (to_append (et := 63) (bytes := 64) zk (zvS rfl) HOy (zvS rfl) HS38 (deepF fun b hb hb2 => ⟨by omega, fun ho => by have := zo_HOx _ ho; omega⟩) (by first | omega | (simp; done) | (simp; omega)) (by simp only [maxLen]; first | omega | (simp; done) | (simp; omega)) zo ?_)
  rintro a9 n9 c9 w9 HO19 hn9 k9 h9 i9
  have := k9.size
  obtain rfl : n9 = i + 1 := hn9.trans htl2
  have htk : rs.take i ++ [r] = rs.take (i + 1) := by rw [List.take_add_one, hx]; rfl
  rw [htk] at HO19
  have zo_HO19 := fun (b : Nat) h => HO19.own_lt (b := b) h
  refine l_nil (n_then (r_one zd rfl ?_))
  refine l_v (zaS rfl) (l_nil (n_blk (n_then (wp_reg zd (l_v (zmI rfl) (l_v (v_add rfl rfl (by first | exact wr_i64 zo zo | rfl)) ?_))))))
  replace HPq := HPq.ext e6
  replace E := ((E.trans e103.keep).trans e104.keep).step k9 (by intro i hi he; have he0 := he; (try dsimp only [NoK] at hi he ⊢); (try simp only [Value.ownBlock, Option.some.injEq] at he); first | exact he.elim | omega | exact he | (have := (HOy).own_lt he0; omega) | (have := zo_HOy _ he0; omega) | (have := (HOy).own_lt he0; rcases hi with hi | hi <;> omega))
  replace HSr := ((HSr.ext e103).ext e104).keep k9 (by intro i _ hi he; have he0 := he; (try dsimp only [NoK, AllB] at hi he); (try simp only [Value.ownBlock, Option.some.injEq] at he); first | exact hi.elim | exact he.elim | omega | (rcases hi with hi | hi <;> omega) | (rcases he with he | he <;> omega) | (have := (HOy).own_lt he0; omega) | (have := zo_HOy _ he0; omega) | (have := (HOy).own_lt he0; rcases hi with hi | hi <;> omega))
  replace HSm := ((HSm.ext e103).ext e104).keep k9 (by intro i _ hi he; have he0 := he; (try dsimp only [NoK, AllB] at hi he); (try simp only [Value.ownBlock, Option.some.injEq] at he); first | exact hi.elim | exact he.elim | omega | (rcases hi with hi | hi <;> omega) | (rcases he with he | he <;> omega) | (have := (HOy).own_lt he0; omega) | (have := zo_HOy _ he0; omega) | (have := (HOy).own_lt he0; rcases hi with hi | hi <;> omega))
  replace EL1 := ((EL1.trans e103.keep).trans e104.keep).step k9 (by intro i hi he; have he0 := he; (try dsimp only [NoK] at hi he ⊢); (try simp only [Value.ownBlock, Option.some.injEq] at he); first | exact he.elim | omega | exact he | (have := (HOy).own_lt he0; omega) | (have := zo_HOy _ he0; omega) | (have := (HOy).own_lt he0; rcases hi with hi | hi <;> omega))
  replace HB1 := (HB1.ext e104).keep k9 (by intro h; have he0 := h; (try dsimp only at h); (try simp only [Value.ownBlock, Option.some.injEq] at h); first | omega | (have := (HOy).own_lt he0; omega) | (have := zo_HOy _ he0; omega))
  replace HB2 := (HB2.ext e104).keep k9 (by intro h; have he0 := h; (try dsimp only at h); (try simp only [Value.ownBlock, Option.some.injEq] at h); first | omega | (have := (HOy).own_lt he0; omega) | (have := zo_HOy _ he0; omega))
  replace HS38 := HS38.keep k9 (by intro i _ hi he; have he0 := he; (try dsimp only [NoK, AllB] at hi he); (try simp only [Value.ownBlock, Option.some.injEq] at he); first | exact hi.elim | exact he.elim | omega | (rcases hi with hi | hi <;> omega) | (rcases he with he | he <;> omega) | (have := (HOy).own_lt he0; omega) | (have := zo_HOy _ he0; omega) | (have := (HOy).own_lt he0; rcases hi with hi | hi <;> omega))
  refine l_v (zaI rfl) (l_nil (n_then (⟨(i + 1, a9, c9), _, rfl, by (repeat (first | exact Off.of_over _ _ _ | refine Off.upd ?_ zq _ | refine Off.overs ?_ zq _)), ⟨by first | rfl | exact congrArg (Value.int _) zo | (simp; done), by first | rfl | exact congrArg (Value.int _) zo | (simp; done), trivial⟩, ⟨E, EL1, ?_⟩, ?_⟩)))
  ·
   exact ⟨by omega, HO19.mono fun b hb h => ⟨h, hb⟩⟩
  (dsimp only; omega)
 have hi : i = rs.length := by have := dfalse hlt; omega
 subst hi
 rw [List.take_length] at HOx
 have HSq := HOx.view
 replace HSq := HSq.mono (F' := fun b => n0 ≤ b ∧ b < w101.heap.size) fun b hb h => ⟨by rcases h with h | h <;> omega, hb⟩
 obtain ⟨n2, hn2'⟩ : ∃ n, n = w101.heap.size := ⟨_, rfl⟩
 rw [← hn2'] at HSq
 refine c_exit (x_then (x_then (x_hit (n_then (c_seq (wp_reg zd (l_v (v_assign rfl) (l_nil (n_then ?_)))))))))
 refine c_seq (c_seq (wp_reg zd (l_v (v_assign rfl) (l_nil (n_then (c_block (c_loop (τ := Nat × Option Addr × Nat) [7, 8, 9, 40, 41, 42, 43, 44, 45, 46, 47, 48, 49, 50, 51, 52, 53, 54, 55, 56, 57, 58, 59, 60, 61, 62, 63, 64, 65, 66, 67, 68, 69] (fun (i, a5, c5) => [(7, .slice a5 i c5), (8, .int .i64 i)]) (fun (i, a5, c5) W => Ext w W ∧ Keep (fun b => n2 ≤ b) w101 W ∧ i ≤ ms.length ∧ OwV tMa 54 W n2 (fun b => n2 ≤ b ∧ b < W.heap.size) (.slice a5 i c5) (ms.take i)) (fun (i, a5, c5) => ms.length - i) (0, none, 0) (by exact ⟨rfl, rfl, trivial⟩) (by exact ⟨E, Keep.refl _, Nat.zero_le _, OwV.nil _ _ _ _ _⟩) ?_)))))))
 rintro ⟨i, a5, c5⟩ w105 j ⟨E, EL2, h1, HOx⟩
 have := EL2.size
 have zo_HOx := fun (b : Nat) h => HOx.own_lt (b := b) h
 replace HB1 := HB1.keep EL2 dj4
 replace HB2 := HB2.keep EL2 dj4
 refine c_seq (c_seq (wp_reg zd (l_v (zmI rfl) (l_v (v_fieldAddr (off := 3) (ft := 25) zk rfl) (l_v (v_load zk rfl (by first | exact HB2.pv 3 _ rfl | exact HB1.pv 3 _ rfl | assumption)) ?_)))))
 refine l_v (v_len (et := 54) zk rfl) ?_
 refine l_v (v_lss rfl rfl) ?_
 replace HSm := HSm.keep EL2 dj1
 replace HSq := HSq.keep EL2 dj1
 refine l_nil (n_then (c_cond rfl rfl (fun hlt => ?_) (fun hlt => ?_)))
 ·
  have hlt := dtrue hlt
  have htl : (ms.take i).length = i := by rw [List.length_take]; omega
  obtain ⟨r, hx, _⟩ := getE (l := ms) (i := i) zo
  obtain ⟨hl1, hl3⟩ := hl2 r (List.mem_of_getElem? hx)
  obtain ⟨n1, hn1'⟩ : ∃ n, n = w105.heap.size := ⟨_, rfl⟩
  refine c_skip (n_then (c_seq (c_block (c_seq (wp_reg zd (l_v (v_fieldAddr (off := 3) (ft := 25) zk rfl) (l_v (v_load zk rfl (by first | exact HB2.pv 3 _ rfl | exact HB1.pv 3 _ rfl | assumption)) ?_)))))))
  refine l_v (zmI rfl) (l_to (to_index (et := 54) zk zk (zvS rfl) HSm (zvI rfl) rfl hx ?_))
  rintro q cs hF HPq hr
  obtain ⟨b3, d3, b5, d5, rfl, HSf, HSt, i1, i2, i3⟩ := tMa_cells hr
  refine l_v (v_loadA zk rfl (by first | exact HPq | exact HB2.pv | exact HB1.pv | assumption) rfl) ?_
  refine l_to (to_alloc (z := (.agg #[.int .i64 0, .slice none 0 0, .slice none 0 0, .bool false, .int .i64 0, .int .i64 0, .bool false])) (by unfold kZero; kernel_rfl) ?_)
  rintro b9 w9 zb9 HB9 e9 z9
  have := e9.size
  try simp only [Value.cells] at HB9
  refine l_to (to_storeA (n := 7) rfl rfl (zvA rfl) zk rfl dj6 HB9 dj5 ?_)
  rintro w106 HX106 k106 z106
  have := k106.size
  replace HB9 := HX106
  clear HX106
  try simp only [zS, Nat.zero_add, Nat.reduceAdd, List.drop_nil] at HB9
  refine l_nil (n_then (c_seq (wp_regJ (fun k => k = b9) (StJ b9 _ _ [(12, 1, some 4, (undef : Value)), (15, 2, some 9, (undef : Value))]) zk zd zd (fun vals done hd => StJ.start (HB9.ext (Keep.drawn _ _)) (fun a ha => hd a.1 (st_lt (n := 16) rfl a ha))) ?_)))
  refine rj_vJ (fun done vals w hR hcl hdk hJ hdn hd => zmF rfl) (fun done vals w hdk hJ => hJ.src (Keep.refl _) hdk rfl) ?_
  refine rj_vJ (fun done vals w hR hcl hdk hJ hdn hd => v_fieldAddr (off := 0) (ft := 39) zk rfl) (fun done vals w hdk hJ => hJ.src (Keep.refl _) hdk rfl) ?_
  refine rj_vJ (fun done vals w hR hcl hdk hJ hdn hd => v_fieldAddr (off := 1) (ft := 33) zk (hd 1 rfl)) (fun done vals w hdk hJ => hJ.src (Keep.refl _) hdk rfl) ?_
  replace HB1 := (HB1.ext e9).keep k106 dj4
  replace HB2 := (HB2.ext e9).keep k106 dj4
  refine rj_vJ (fun done vals w hR hcl hdk hJ hdn hd => v_load zk (hd 2 rfl) (by first | exact (hJ.at0 hcl hdk ⟨_, _, rfl, rfl, by decide⟩).pv 1 _ rfl | exact (HB2.keep hR dj4).pv 1 _ rfl | exact (HB1.keep hR dj4).pv 1 _ rfl | assumption)) (fun done vals w hdk hJ => hJ.src (Keep.refl _) hdk rfl) ?_
  replace HSf := (HSf.ext e9).keep k106 dj1
  refine rj_to (fun v W => Bv W (fun b => b9 < b) v r.1.2.1) (fun v w w' h k => h.keep k dj2) (fun done vals w hR hcl hdk hJ hdn hd => OpTo.mono (K := fun v w1 => Ext w w1 ∧ (fun v W => Bv W (fun b => b9 < b) v r.1.2.1) v w1) (to_call1 zk (hd 0 rfl) (hd 3 rfl) (CallsR.mono (ownB_c (HSf.keep hR dj2) zo) fun v w1 ⟨h, e⟩ => ⟨e, h.mono fun b _ hb => by have := hR.size; omega⟩)) fun v w1 h => ⟨Ext.keep h.1, h.2, hJ.src h.1 hdk rfl⟩) ?_
  refine rj_vJ (fun done vals w hR hcl hdk hJ hdn hd => zmF rfl) (fun done vals w hdk hJ => hJ.src (Keep.refl _) hdk rfl) ?_
  refine rj_vJ (fun done vals w hR hcl hdk hJ hdn hd => v_fieldAddr (off := 0) (ft := 39) zk rfl) (fun done vals w hdk hJ => hJ.src (Keep.refl _) hdk rfl) ?_
  refine rj_vJ (fun done vals w hR hcl hdk hJ hdn hd => v_fieldAddr (off := 2) (ft := 33) zk (hd 6 rfl)) (fun done vals w hdk hJ => hJ.src (Keep.refl _) hdk rfl) ?_
  refine rj_vJ (fun done vals w hR hcl hdk hJ hdn hd => v_load zk (hd 7 rfl) (by first | exact (hJ.at0 hcl hdk ⟨_, _, rfl, rfl, by decide⟩).pv 2 _ rfl | exact (HB2.keep hR dj4).pv 2 _ rfl | exact (HB1.keep hR dj4).pv 2 _ rfl | assumption)) (fun done vals w hdk hJ => hJ.src (Keep.refl _) hdk rfl) ?_
  replace HSt := (HSt.ext e9).keep k106 dj1
  refine rj_to (fun v W => Bv W (fun b => b9 < b) v r.1.2.2.1) (fun v w w' h k => h.keep k dj2) (fun done vals w hR hcl hdk hJ hdn hd => OpTo.mono (K := fun v w1 => Ext w w1 ∧ (fun v W => Bv W (fun b => b9 < b) v r.1.2.2.1) v w1) (to_call1 zk (hd 5 rfl) (hd 8 rfl) (CallsR.mono (ownB_c (HSt.keep hR dj2) zo) fun v w1 ⟨h, e⟩ => ⟨e, h.mono fun b _ hb => by have := hR.size; omega⟩)) fun v w1 h => ⟨Ext.keep h.1, h.2, hJ.src h.1 hdk rfl⟩) ?_
  refine rj_vJ (fun done vals w hR hcl hdk hJ hdn hd => v_fieldAddr (off := 0) (ft := 39) zk rfl) (fun done vals w hdk hJ => hJ.src (Keep.refl _) hdk rfl) ?_
  refine rj_vJ (fun done vals w hR hcl hdk hJ hdn hd => v_fieldAddr (off := 1) (ft := 33) zk (hd 10 rfl)) (fun done vals w hdk hJ => hJ.src (Keep.refl _) hdk rfl) ?_
  refine rj_d (fun done vals w hR hcl hdk hJ hdn hd => to_store (hd 11 rfl) rfl rfl (by first | exact SlV.one (hd 4 rfl) | exact SlV.one (hd 4 rfl).1 | exact OwV.one (hd 4 rfl) | exact OwV.one (hd 4 rfl).1 | (have h := hd 4 rfl; dsimp only [setS] at h; rw [h]; rfl) | exact (hd 4 rfl).1 | (obtain ⟨_, h⟩ := hd 4 rfl; rw [h]; rfl) | exact (congrArg Value.oneCell' (hd 4 rfl)).trans rfl) zk (hJ.at (n := 0) rfl hdk (fun m h => by cases h)) (by rw [conts_len]; first | exact of_decide_eq_true rfl | (rw [hlen]; exact of_decide_eq_true rfl)) (fun w1 hB k z => ⟨k, hJ.step (n := 0) rfl hdk (fun m h => by cases h) (fun k h => by cases h; exact hdn 4 rfl) (once_st rfl) rfl hB⟩)) ?_
  refine rj_vJ (fun done vals w hR hcl hdk hJ hdn hd => v_fieldAddr (off := 0) (ft := 39) zk rfl) (fun done vals w hdk hJ => hJ.src (Keep.refl _) hdk rfl) ?_
  refine rj_vJ (fun done vals w hR hcl hdk hJ hdn hd => v_fieldAddr (off := 2) (ft := 33) zk (hd 13 rfl)) (fun done vals w hdk hJ => hJ.src (Keep.refl _) hdk rfl) ?_
  refine rj_d (fun done vals w hR hcl hdk hJ hdn hd => to_store (hd 14 rfl) rfl rfl (by first | exact SlV.one (hd 9 rfl) | exact SlV.one (hd 9 rfl).1 | exact OwV.one (hd 9 rfl) | exact OwV.one (hd 9 rfl).1 | (have h := hd 9 rfl; dsimp only [setS] at h; rw [h]; rfl) | exact (hd 9 rfl).1 | (obtain ⟨_, h⟩ := hd 9 rfl; rw [h]; rfl) | exact (congrArg Value.oneCell' (hd 9 rfl)).trans rfl) zk (hJ.at (n := 1) rfl hdk (fun m h => ⟨_, by cases h; rfl, hdn 12 rfl⟩)) (by rw [conts_len]; first | exact of_decide_eq_true rfl | (rw [hlen]; exact of_decide_eq_true rfl)) (fun w1 hB k z => ⟨k, hJ.step (n := 1) rfl hdk (fun m h => ⟨_, by cases h; rfl, hdn 12 rfl⟩) (fun k h => by cases h; exact hdn 9 rfl) (once_st rfl) rfl hB⟩)) ?_
  refine rj_nil (fun vals w107 k107 J107 => ?_)
  replace HSm := (HSm.ext e9).keep k106 dj1
  replace HSq := (HSq.ext e9).keep k106 dj1
  replace HOx := (HOx.ext e9).keep k106 (by intro i ho he; have he0 := he; have ho0 := ho; (try dsimp only [NoK] at he); (try simp only [Value.ownBlock, Option.some.injEq, reduceCtorEq] at ho); (try simp only [Value.ownBlock, Option.some.injEq, reduceCtorEq] at he); first | exact he.elim | exact ho.elim | omega | (have := zo_HOx _ ho0; omega)) (by intro i _ hi _ he; have he0 := he; have hi := hi; have he := he; (try dsimp only [NoK, AllB] at hi he); (try simp only [Value.ownBlock, Option.some.injEq, reduceCtorEq] at he); all_goals first | exact hi.elim | exact hi.1.elim | exact he.elim | omega | (rcases hi with hi | hi <;> omega) | (rcases he with he | he <;> omega))
  rintro _ - rfl _ - rfl _ - rfl _ - rfl v56 qs4 HS56 _ - rfl _ - rfl _ - rfl _ - rfl v61 qs9 HS61 _ - rfl _ - rfl _ - - _ - rfl _ - rfl _ - -
  have := k107.size
  have HX107 := J107.fin
  obtain ⟨a56, c56, rfl⟩ := SlV.shape HS56
  obtain ⟨a61, c61, rfl⟩ := SlV.shape HS61
  simp only [conts, sv, ← qs4, ← qs9] at HX107
  replace HB9 := HX107
  clear HX107
  try simp only [zS, Nat.zero_add, Nat.reduceAdd, List.drop_nil] at HB9
  replace HB1 := HB1.keep k107 dj4
  replace HB2 := HB2.keep k107 dj4
  refine fin_nilJ (n_then (wp_reg zd (l_v (zmS rfl) (l_v (v_loadA zk rfl (by first | exact HB9.pv | exact HB2.pv | exact HB1.pv | assumption) rfl) ?_))))
  refine l_to (to_slice1 (t := tMa) (et := 54) (bytes := 88) zk zq (zvA rfl) (tMa_mk (HS56.mono (F' := fun b => n1 ≤ b) fun b _ h => by omega) (HS61.mono (F' := fun b => n1 ≤ b) fun b _ h => by omega) i1 i2 i3) ?_)
  rintro b10 w10 zb10 HO10 e10 z10
  have := e10.size
  have zo_HO10 := fun (b : Nat) h => HO10.own_lt (b := b) h
  have htl2 : (ms.take i ++ [r]).length = i + 1 := by rw [List.length_append, htl]; rfl
  replace HOx := (HOx.keep k107 (by intro i ho he; have he0 := he; have ho0 := ho; (try dsimp only [NoK] at he); (try simp only [Value.ownBlock, Option.some.injEq, reduceCtorEq] at ho); (try simp only [Value.ownBlock, Option.some.injEq, reduceCtorEq] at he); first | exact he.elim | exact ho.elim | omega | (have := zo_HOx _ ho0; omega)) (by intro i _ hi _ he; have he0 := he; have hi := hi; have he := he; (try dsimp only [NoK, AllB] at hi he); (try simp only [Value.ownBlock, Option.some.injEq, reduceCtorEq] at he); all_goals first | exact hi.elim | exact hi.1.elim | exact he.elim | omega | (rcases hi with hi | hi <;> omega) | (rcases he with he | he <;> omega))).ext e10
  have HOy := HOx.mono (F' := fun b => n2 ≤ b) fun b _ h => h.1
  have zo_HOy := fun (b : Nat) h => HOy.own_lt (b := b) h
  have zo_HOy := zo_HOx
  have HS32 : SlV tMa w10 (fun b => n1 ≤ b) (.slice (some ⟨b10, 0, none⟩) 1 1) [r] := HO10.view.mono fun i _ hi => hi.elim (fun h => by omega) (fun h => by have := h.1; (try dsimp only at this); omega)
  refine l_to (to_append (et := 54) (bytes := 88) zk (zvS rfl) HOy (zvS rfl) HS32 (deepF fun b hb hb2 => ⟨by omega, fun ho => by have := zo_HOx _ ho; omega⟩) (by first | omega | (simp; done) | (simp; omega)) (by simp only [maxLen]; first | omega | (simp; done) | (simp; omega)) zo ?_)
  rintro a9 n9 c9 w11 HO19 hn9 k9 h9 i9
  have := k9.size
  replace E := (((E.trans e9.keep).step k106 dj3).step k107 dj3).trans e10.keep
  replace EL2 := (((EL2.trans e9.keep).step k106 dj3).step k107 dj3).trans e10.keep
  replace HSm := (HSm.keep k107 dj1).ext e10
  replace HSq := (HSq.keep k107 dj1).ext e10
  replace HSf := (HSf.keep k107 dj1).ext e10
  replace HSt := (HSt.keep k107 dj1).ext e10
  obtain rfl : n9 = i + 1 := hn9.trans htl2
  have htk : ms.take i ++ [r] = ms.take (i + 1) := by rw [List.take_add_one, hx]; rfl
  rw [htk] at HO19
  have zo_HO19 := fun (b : Nat) h => HO19.own_lt (b := b) h
  refine l_v (zaS rfl) (l_nil (n_blk (n_then (wp_reg zd (l_v (zmI rfl) (l_v (v_add rfl rfl (by first | exact wr_i64 zo zo | rfl)) ?_))))))
  replace HPq := HPq.ext e9
  replace HB1 := (HB1.ext e10).keep k9 (by intro h; have he0 := h; (try dsimp only at h); (try simp only [Value.ownBlock, Option.some.injEq] at h); first | omega | (have := (HOy).own_lt he0; omega) | (have := zo_HOy _ he0; omega))
  replace HB2 := (HB2.ext e10).keep k9 (by intro h; have he0 := h; (try dsimp only at h); (try simp only [Value.ownBlock, Option.some.injEq] at h); first | omega | (have := (HOy).own_lt he0; omega) | (have := zo_HOy _ he0; omega))
  replace HB9 := HB9.ext e10
  replace HS56 := HS56.ext e10
  replace HS61 := HS61.ext e10
  replace E := E.step k9 (by intro i hi he; have he0 := he; (try dsimp only [NoK] at hi he ⊢); (try simp only [Value.ownBlock, Option.some.injEq] at he); first | exact he.elim | omega | exact he | (have := (HOy).own_lt he0; omega) | (have := zo_HOy _ he0; omega) | (have := (HOy).own_lt he0; rcases hi with hi | hi <;> omega))
  replace HSm := HSm.keep k9 (by intro i _ hi he; have he0 := he; (try dsimp only [NoK, AllB] at hi he); (try simp only [Value.ownBlock, Option.some.injEq] at he); first | exact hi.elim | exact he.elim | omega | (rcases hi with hi | hi <;> omega) | (rcases he with he | he <;> omega) | (have := (HOy).own_lt he0; omega) | (have := zo_HOy _ he0; omega) | (have := (HOy).own_lt he0; rcases hi with hi | hi <;> omega))
  replace HSq := HSq.keep k9 (by intro i _ hi he; have he0 := he; (try dsimp only [NoK, AllB] at hi he); (try simp only [Value.ownBlock, Option.some.injEq] at he); first | exact hi.elim | exact he.elim | omega | (rcases hi with hi | hi <;> omega) | (rcases he with he | he <;> omega) | (have := (HOy).own_lt he0; omega) | (have := zo_HOy _ he0; omega) | (have := (HOy).own_lt he0; rcases hi with hi | hi <;> omega))
  replace EL2 := EL2.step k9 (by intro i hi he; have he0 := he; (try dsimp only [NoK] at hi he ⊢); (try simp only [Value.ownBlock, Option.some.injEq] at he); first | exact he.elim | omega | exact he | (have := (HOy).own_lt he0; omega) | (have := zo_HOy _ he0; omega) | (have := (HOy).own_lt he0; rcases hi with hi | hi <;> omega))
  replace HO10 := HO10.keep k9 (by intro i ho he; have he0 := he; have ho0 := ho; (try dsimp only [NoK] at he); (try simp only [Value.ownBlock, Option.some.injEq, reduceCtorEq] at ho); (try simp only [Value.ownBlock, Option.some.injEq, reduceCtorEq] at he); first | exact he.elim | exact ho.elim | omega | (have := zo_HO10 _ ho0; omega) | (have := (HOy).own_lt he0; omega) | (have := zo_HOy _ he0; omega) | (have := zo_HO10 _ ho0; have := (HOy).own_lt he0; omega)) (by intro i _ hi _ he; have he0 := he; have hi := hi; have he := he; (try dsimp only [NoK, AllB] at hi he); (try simp only [Value.ownBlock, Option.some.injEq, reduceCtorEq] at he); all_goals first | exact hi.elim | exact hi.1.elim | exact he.elim | omega | (rcases hi with hi | hi <;> omega) | (rcases he with he | he <;> omega) | (have := (HOy).own_lt he0; omega) | (have := zo_HOy _ he0; omega) | (have := (HOy).own_lt he0; rcases hi with hi | hi <;> omega))
  refine l_v (zaI rfl) (l_nil (n_then (⟨(i + 1, a9, c9), _, rfl, by (repeat (first | exact Off.of_over _ _ _ | refine Off.upd ?_ zq _ | refine Off.overs ?_ zq _)), ⟨by first | rfl | exact congrArg (Value.int _) zo | (simp; done), by first | rfl | exact congrArg (Value.int _) zo | (simp; done), trivial⟩, ⟨E, EL2, ?_⟩, ?_⟩)))
  ·
   exact ⟨by omega, HO19.mono fun b hb h => ⟨h, hb⟩⟩
  (dsimp only; omega)
 have hi : i = ms.length := by have := dfalse hlt; omega
 subst hi
 rw [List.take_length] at HOx
 refine c_exit (x_then (x_then (x_hit (n_then (c_seq (wp_reg zd (l_v (v_fieldAddr (off := 0) (ft := 24) zk rfl) (l_v (v_fieldAddr (off := 0) (ft := 2) zk rfl) (l_v (v_load zk rfl (by first | exact HB2.pv 0 _ rfl | exact HB1.pv 0 _ rfl | assumption)) ?_)))))))))
 refine l_v (zmS rfl) (l_v (v_build (pl := [(0, 1), (1, 1)]) (z := .agg #[.int .i64 0, .slice none 0 0]) (zl := [.int .i64 0, .slice none 0 0]) zk (by unfold kZero; kernel_rfl) rfl rfl (cells := [_, _]) rfl) ?_)
 refine l_v (v_fieldAddr (off := 2) (ft := 2) zk rfl) (l_v (v_load zk rfl (by first | exact HB2.pv 2 _ rfl | exact HB1.pv 2 _ rfl | assumption)) ?_)
 refine l_v (zmS rfl) (l_v (v_build (pl := [(0, 2), (2, 1), (3, 1)]) (z := .agg #[.int .i64 0, .slice none 0 0, .int .i64 0, .slice none 0 0]) (zl := [.int .i64 0, .slice none 0 0, .int .i64 0, .slice none 0 0]) zk (by unfold kZero; kernel_rfl) rfl rfl (cells := [_, _, _, _]) rfl) ?_)
 refine l_to (to_storeA (n := 4) rfl rfl (zvA rfl) zk rfl dj6 HB2 dj5 ?_)
 rintro w108 HX108 k108 z108
 have := k108.size
 replace HB2 := HX108
 clear HX108
 try simp only [zS, Nat.zero_add, Nat.reduceAdd, List.drop_nil] at HB2
 refine l_nil (n_then (c_ret (ret1c (n := 4) rfl zq rfl zk HB2.pv rfl ?_)))
 replace E := E.step k108 dj3
 replace HSq := HSq.keep k108 dj1
 replace HOx := HOx.keep k108 (by intro i ho he; have he0 := he; have ho0 := ho; (try dsimp only [NoK] at he); (try simp only [Value.ownBlock, Option.some.injEq, reduceCtorEq] at ho); (try simp only [Value.ownBlock, Option.some.injEq, reduceCtorEq] at he); first | exact he.elim | exact ho.elim | omega | (have := zo_HOx _ ho0; omega)) (by intro i _ hi _ he; have he0 := he; have hi := hi; have he := he; (try dsimp only [NoK, AllB] at hi he); (try simp only [Value.ownBlock, Option.some.injEq, reduceCtorEq] at he); all_goals first | exact hi.elim | exact hi.1.elim | exact he.elim | omega | (rcases hi with hi | hi <;> omega) | (rcases he with he | he <;> omega))
 exact ⟨AgV.mkMt (HSq.mono fun b _ h => by have := h.1; omega) (HOx.view.mono fun b _ h => by rcases h with h | h <;> omega) ie im, E⟩
def planB (k : Int) : Bool := decide (k = 6) || decide (k = 7) || decide (k = 8) || decide (k = 9) || decide (k = 10)
theorem planned_c {w : World} {F : Nat → Prop} {v : Value} {c : CmV} (HG2 : AgV tCm w F v c) : CallsR Try.prog 15 #[v] w (fun o w' => o = .bool (planB c.1) ∧ Ext w w') := by
 obtain ⟨k, rq, mv, en, an, key, g⟩ := c
 obtain ⟨x1, d1, x2, d2, x3, d3, x4, d4, x5, d5, x6, d6, x7, d7, x8, d8, x9, d9, hvc, _⟩ := HG2.cm
 subst hvc
 refine enter 26 Try.func15 rfl rfl (by simp) ?_
 refine c_seq ?_
 have E := Keep.refl (K := NoK) w
 replace HG2 := HG2.all
 refine wp_reg zd (l_to (to_box (zvA rfl) ?_))
 rintro b101 w101 zb101 HB101 e101 z101
 have := e101.size
 try simp only [Value.cells] at HB101
 refine l_v (v_assign rfl) (l_nil (n_then (c_seq (wp_reg zd (l_v (v_fieldAddr (off := 0) (ft := 31) zk rfl) (l_v (v_load zk rfl (by first | exact HB101.pv 0 _ rfl | assumption)) ?_))))))
 refine l_v (v_eql rfl rfl) ?_
 refine l_v (zmB rfl) (l_g1 rfl rfl (fun hG => v_fieldAddr (off := 0) (ft := 31) zk rfl) ?_)
 refine l_g1 rfl rfl (fun hG => v_load zk (gd hG rfl) (by first | exact HB101.pv 0 _ rfl | assumption)) ?_
 refine l_g1 rfl rfl (fun hG => v_eql (gd hG rfl) rfl) ?_
 refine l_v (v_or rfl rfl) ?_
 refine l_v (zmB rfl) (l_g1 rfl rfl (fun hG => v_fieldAddr (off := 0) (ft := 31) zk rfl) ?_)
 refine l_g1 rfl rfl (fun hG => v_load zk (gd hG rfl) (by first | exact HB101.pv 0 _ rfl | assumption)) ?_
 refine l_g1 rfl rfl (fun hG => v_eql (gd hG rfl) rfl) ?_
 refine l_v (v_or rfl rfl) ?_
 refine l_v (zmB rfl) (l_g1 rfl rfl (fun hG => v_fieldAddr (off := 0) (ft := 31) zk rfl) ?_)
 refine l_g1 rfl rfl (fun hG => v_load zk (gd hG rfl) (by first | exact HB101.pv 0 _ rfl | assumption)) ?_
 refine l_g1 rfl rfl (fun hG => v_eql (gd hG rfl) rfl) ?_
 refine l_v (v_or rfl rfl) ?_
 refine l_v (zmB rfl) (l_g1 rfl rfl (fun hG => v_fieldAddr (off := 0) (ft := 31) zk rfl) ?_)
 refine l_g1 rfl rfl (fun hG => v_load zk (gd hG rfl) (by first | exact HB101.pv 0 _ rfl | assumption)) ?_
 refine l_g1 rfl rfl (fun hG => v_eql (gd hG rfl) rfl) ?_
 refine l_v (v_or rfl rfl) ?_
 refine l_v (zaB rfl) (l_nil (n_then (c_ret (ret1v rfl zq (zvB rfl) ?_))))
 replace E := E.trans e101.keep
 exact ⟨rfl, E⟩
theorem mt0_ag' {w : World} : AgV tMt w AllB (.agg #[.int .i64 0, .slice none 0 0, .int .i64 0, .slice none 0 0]) mt0 := mt0_ag
theorem doMt_eq {s : MtV} {c : CmV} (hs : mayMt s = true) (hc : mayCm c = true) : doMt s c = if (stMt s c).2 = 0 then stMt s c else (mt0, (stMt s c).2) := by rw [doMt, if_neg (by rw [hs, hc]; simp)]
theorem MetaDoes_c {w : World} {F G : Nat → Prop} {v vc : Value} {s : MtV} {c : CmV} (HG1 : AgV tMt w F v s) (HG2 : AgV tCm w G vc c) (hl : ∀ r ∈ s.1.2, r.1.length ≤ 140737488355328 ∧ r.2.1.length ≤ 140737488355328) (hl2 : ∀ x ∈ s.2.2, x.1.2.1.length ≤ 140737488355328 ∧ x.1.2.2.1.length ≤ 140737488355328) :
    CallsR Try.prog 4 #[v, vc] w (fun o w' => o = .bool true ∧ Ext w w') := by
 obtain ⟨⟨e, rs⟩, n, ms⟩ := s
 obtain ⟨a1, c1, a2, c2, rfl, _⟩ := HG1.mt
 obtain ⟨k, rq, mv, en, an, key, g⟩ := c
 obtain ⟨x1, d1, x2, d2, x3, d3, x4, d4, x5, d5, x6, d6, x7, d7, x8, d8, x9, d9, hvc, _⟩ := HG2.cm
 subst hvc
 refine enter 72 Try.func4 rfl rfl (by simp) ?_
 refine c_seq ?_
 have E := Keep.refl (K := NoK) w
 replace HG1 := HG1.all
 replace HG2 := HG2.all
 refine wp_reg zd (l_to (to_box (zvA rfl) ?_))
 rintro b2 w2 zb2 HB2 e2 z2
 have := e2.size
 try simp only [Value.cells] at HB2
 refine l_to (to_box (zvA rfl) ?_)
 rintro b3 w3 zb3 HB3 e3 z3
 have := e3.size
 try simp only [Value.cells] at HB3
 replace HB2 := HB2.ext e3
 refine l_v (v_assign rfl) (l_nil (n_then (c_seq (c_seq (wp_reg zd (l_v (v_loadA zk rfl (by first | exact HB3.pv | exact HB2.pv | assumption) rfl) ?_))))))
 replace HG1 := (HG1.ext e2).ext e3
 refine l_to (to_f1 zk (zvA rfl) (CallsR.mono (sized_c HG1) ?_))
 rintro _ w101 ⟨rfl, e101⟩
 have := e101.size
 refine l_v (v_not rfl) ?_
 replace E := ((E.trans e2.keep).trans e3.keep).trans e101.keep
 replace HG2 := ((HG2.ext e2).ext e3).ext e101
 replace HG1 := HG1.ext e101
 replace HB2 := HB2.ext e101
 replace HB3 := HB3.ext e101
 refine l_nil (n_then (c_cond rfl rfl (fun h12 => ?_) (fun h12 => ?_)))
 ·
  refine c_seq (wp_reg zd (l_to (to_f0 zk (CallsR.mono (known20_c) ?_))))
  rintro _ w102 ⟨rfl, e102⟩
  have := e102.size
  refine l_v (zaB rfl) (l_nil (n_then (c_ret (r_then (ret1v rfl zq (zvB rfl) ?_)))))
  replace E := E.trans e102.keep
  exact ⟨rfl, E⟩
 have hz := szB_le (by simpa using h12 : szB ((e, rs), n, ms) = true)
 simp only at hz
 refine c_skip (n_then (c_seq (wp_reg zd (l_v (v_loadA zk rfl (by first | exact HB3.pv | exact HB2.pv | assumption) rfl) ?_))))
 refine l_to (to_f1 zk (zvA rfl) (CallsR.mono (copied_c HG1 hl hl2 zo zo) ?_))
 rintro _ w15 ⟨HG5, e15⟩
 have := e15.size
 replace HG5 := HG5.mono fun b hb h => And.intro h hb
 obtain ⟨a5, c5, a6, c6, rfl, _⟩ := AgV.mt HG5
 refine l_to (to_alloc (z := (.agg #[.int .i64 0, .slice none 0 0, .int .i64 0, .slice none 0 0])) (by unfold kZero; kernel_rfl) ?_)
 rintro b5 w5 zb5 HB5 e5 z5
 have := e5.size
 try simp only [Value.cells] at HB5
 refine l_to (to_storeA (n := 4) rfl rfl (zvA rfl) zk rfl dj6 HB5 dj5 ?_)
 rintro w103 HX103 k103 z103
 have := k103.size
 replace HB5 := HX103
 clear HX103
 try simp only [zS, Nat.zero_add, Nat.reduceAdd, List.drop_nil] at HB5
 replace HB2 := ((HB2.ext e15).ext e5).keep k103 dj4
 replace HB3 := ((HB3.ext e15).ext e5).keep k103 dj4
 refine l_nil (n_then (c_seq (wp_reg zd (l_v (v_loadA zk rfl (by first | exact HB5.pv | exact HB3.pv | exact HB2.pv | assumption) rfl) ?_))))
 refine l_v (v_loadA zk rfl (by first | exact HB5.pv | exact HB3.pv | exact HB2.pv | assumption) rfl) ?_
 replace HG1 := ((HG1.ext e15).ext e5).keep k103 dj1
 replace HG2 := ((HG2.ext e15).ext e5).keep k103 dj1
 refine l_to (to_f2 zk (zvA rfl) (zvA rfl) (CallsR.mono (MetaDo_c HG1 HG2 zo) ?_))
 replace HG5 := (HG5.ext e5).keep k103 dj1
 rintro _ w19 ⟨⟨y19, rfl, HG6⟩, e19⟩
 have := e19.size
 replace E := ((E.trans e15.keep).trans e5.keep).step k103 dj3
 replace HG6 := HG6.mono fun b hb h => And.intro h hb
 obtain ⟨s6, hs6⟩ : ∃ x, x = doMt ((e, rs), n, ms) (k, rq, mv, en, an, key, g) := ⟨_, rfl⟩
 rw [← hs6] at HG6 ⊢
 obtain ⟨a7, c7, a8, c8, rfl, _⟩ := AgV.mt HG6
 refine l_v (zmT rfl) (l_v (v_extract (t := .agg _) rfl rfl) (l_v (v_extract (t := .int _ _) rfl rfl) (l_to (to_alloc (z := (.agg #[.int .i64 0, .slice none 0 0, .int .i64 0, .slice none 0 0])) (by unfold kZero; kernel_rfl) ?_))))
 rintro b6 w6 zb6 HB6 e6 z6
 have := e6.size
 try simp only [Value.cells] at HB6
 refine l_to (to_storeA (n := 4) rfl rfl (zvA rfl) zk rfl dj6 HB6 dj5 ?_)
 rintro w104 HX104 k104 z104
 have := k104.size
 replace HB6 := HX104
 clear HX104
 try simp only [zS, Nat.zero_add, Nat.reduceAdd, List.drop_nil] at HB6
 replace HB2 := ((HB2.ext e19).ext e6).keep k104 dj4
 replace HB3 := ((HB3.ext e19).ext e6).keep k104 dj4
 replace HB5 := ((HB5.ext e19).ext e6).keep k104 dj4
 refine l_v (zaI rfl) (l_nil (n_then (c_seq (c_seq (wp_reg zd (l_v (v_loadA zk rfl (by first | exact HB6.pv | exact HB5.pv | exact HB3.pv | exact HB2.pv | assumption) rfl) ?_))))))
 refine l_v (v_loadA zk rfl (by first | exact HB6.pv | exact HB5.pv | exact HB3.pv | exact HB2.pv | assumption) rfl) ?_
 replace HG1 := ((HG1.ext e19).ext e6).keep k104 dj1
 replace HG5 := ((HG5.ext e19).ext e6).keep k104 dj1
 refine l_to (to_f2 zk (zvA rfl) (zvA rfl) (CallsR.mono (rSame_c HG5 HG1) ?_))
 replace HG2 := ((HG2.ext e19).ext e6).keep k104 dj1
 replace HG6 := (HG6.ext e6).keep k104 dj1
 rintro _ w105 ⟨rfl, e105⟩
 have := e105.size
 refine l_v (v_not rfl) ?_
 replace E := (((E.trans e19.keep).trans e6.keep).step k104 dj3).trans e105.keep
 replace HG1 := HG1.ext e105
 replace HG2 := HG2.ext e105
 replace HB2 := HB2.ext e105
 replace HB3 := HB3.ext e105
 replace HG5 := HG5.ext e105
 replace HB5 := HB5.ext e105
 replace HG6 := HG6.ext e105
 replace HB6 := HB6.ext e105
 refine l_nil (n_then (c_cond rfl rfl (fun h25 => ?_) (fun h25 => ?_)))
 ·
  simp at h25
 refine c_skip (n_then (c_seq (c_seq (wp_reg zd (l_v (v_loadA zk rfl (by first | exact HB6.pv | exact HB3.pv | exact HB2.pv | assumption) rfl) ?_)))))
 refine l_to (to_f1 zk (zvA rfl) (CallsR.mono (rMay_c HG1) ?_))
 rintro _ w106 ⟨rfl, e106⟩
 have := e106.size
 refine l_v (v_not rfl) ?_
 replace HB2 := HB2.ext e106
 replace HB3 := HB3.ext e106
 replace HB6 := HB6.ext e106
 refine l_v (zmB rfl) (l_g1 rfl rfl (fun hG => v_loadA zk rfl (by first | exact HB6.pv | exact HB3.pv | exact HB2.pv | assumption) rfl) ?_)
 replace HG2 := HG2.ext e106
 refine l_g1f rfl rfl (fun hG => to_f1 zk (gd hG rfl) (CMay_c HG2)) ?_
 rintro w107 e107
 have := e107.size
 refine l_g1 rfl rfl (fun hG => v_not (gd hG rfl)) ?_
 refine l_v (v_or rfl rfl) ?_
 replace HB2 := HB2.ext e107
 replace HB3 := HB3.ext e107
 replace HB6 := HB6.ext e107
 refine l_v (zmB rfl) (l_g1 rfl rfl (fun hG => v_loadA zk rfl (by first | exact HB6.pv | exact HB3.pv | exact HB2.pv | assumption) rfl) ?_)
 replace HG2 := HG2.ext e107
 refine l_g1f rfl rfl (fun hG => to_f1 zk (gd hG rfl) (planned_c HG2)) ?_
 rintro w108 e108
 have := e108.size
 refine l_g1 rfl rfl (fun hG => v_not (gd hG rfl)) ?_
 refine l_v (v_or rfl rfl) ?_
 replace E := ((E.trans e106.keep).trans e107.keep).trans e108.keep
 replace HG1 := ((HG1.ext e106).ext e107).ext e108
 replace HG6 := ((HG6.ext e106).ext e107).ext e108
 replace HG2 := HG2.ext e108
 replace HB2 := HB2.ext e108
 replace HB3 := HB3.ext e108
 replace HB6 := HB6.ext e108
 refine l_nil (n_then (c_cond rfl rfl (fun h38 => ?_) (fun h38 => ?_)))
 ·
  have hbad : s6 = (mt0, 2) := by
   rw [hs6]
   rcases hms : mayMt ((e, rs), n, ms) with _ | _
   ·
    rw [doMt, hms]; rfl
   rcases hmc : mayCm (k, rq, mv, en, an, key, g) with _ | _
   ·
    rw [doMt, hms, hmc]; rfl
   rw [hms, hmc] at h38
   have hpl : planB k = false := by simpa using h38
   simp only [planB, Bool.or_eq_false_iff, decide_eq_false_iff_not] at hpl
   obtain ⟨⟨⟨⟨n6, n7⟩, n8⟩, n9⟩, n10⟩ := hpl
   have hst : stMt ((e, rs), n, ms) (k, rq, mv, en, an, key, g) = (((e, rs), n, ms), 2) := by unfold stMt; simp only []; rw [if_neg n6, if_neg n7, if_neg n8, if_neg zo]
   rw [doMt_eq hms hmc, hst]; rfl
  subst hbad
  refine c_seq (wp_reg zd (l_v (zmI rfl) (l_v (v_eql rfl rfl) ?_)))
  refine l_v (zmB rfl) (l_g1 rfl rfl (fun hG => v_loadA zk rfl (by first | exact HB6.pv | exact HB3.pv | exact HB2.pv | assumption) rfl) ?_)
  refine l_g1 rfl rfl (fun hG => v_build (pl := [(0, 2), (2, 1), (3, 1)]) (z := .agg #[.int .i64 0, .slice none 0 0, .int .i64 0, .slice none 0 0]) (zl := [.int .i64 0, .slice none 0 0, .int .i64 0, .slice none 0 0]) zk (by unfold kZero; kernel_rfl) rfl rfl (cells := [_, _, _, _]) rfl) ?_
  refine l_g1f rfl rfl (fun hG => to_f2 zk (gd hG rfl) (gd hG rfl) (rSame_c HG6 mt0_ag')) ?_
  rintro w109 e109
  have := e109.size
  refine l_v (v_and rfl rfl) ?_
  refine l_v (zmB rfl) (l_g1f rfl rfl (fun hG => to_f0 zk (known20_c)) ?_)
  rintro w110 e110
  have := e110.size
  refine l_v (v_and rfl rfl) ?_
  refine l_v (zaB rfl) (l_nil (n_then (c_ret (r_then (ret1v rfl zq (zvB rfl) ?_)))))
  replace E := (E.trans e109.keep).trans e110.keep
  refine ⟨?_, E⟩
  simp
 have hgd : mayMt ((e, rs), n, ms) = true ∧ mayCm (k, rq, mv, en, an, key, g) = true ∧ 6 ≤ k := by
  rcases hms : mayMt ((e, rs), n, ms) with _ | _
  ·
   rw [hms] at h38; simp at h38
  rcases hmc : mayCm (k, rq, mv, en, an, key, g) with _ | _
  ·
   rw [hms, hmc] at h38; simp at h38
  rw [hms, hmc] at h38
  have hpl : planB k = true := by simpa using h38
  simp only [planB, Bool.or_eq_true, decide_eq_true_eq] at hpl
  exact ⟨rfl, rfl, by omega⟩
 obtain ⟨hms, hmc, hk6⟩ := hgd
 obtain ⟨r1, r2⟩ := rDo_eq hms hmc hk6
 have hde := doMt_eq hms hmc
 refine c_skip (n_then (c_seq (wp_reg zd (l_v (v_loadA zk rfl (by first | exact HB6.pv | exact HB3.pv | exact HB2.pv | assumption) rfl) ?_))))
 refine l_v (v_loadA zk rfl (by first | exact HB6.pv | exact HB3.pv | exact HB2.pv | assumption) rfl) ?_
 refine l_to (to_f2 zk (zvA rfl) (zvA rfl) (CallsR.mono (rDo_c HG1 HG2 zo hms) ?_))
 rintro _ w52 ⟨⟨y52, rfl, HG8⟩, e52⟩
 have := e52.size
 obtain ⟨s8, hs8⟩ : ∃ x, x = rDoMt ((e, rs), n, ms) (k, rq, mv, en, an, key, g) := ⟨_, rfl⟩
 rw [← hs8] at HG8 r1 r2 ⊢
 replace HG8 := HG8.mono (F' := fun b => b < w52.heap.size) fun b hb _ => hb
 obtain ⟨a9, c9, a10, c10, rfl, _⟩ := AgV.mt HG8
 refine l_v (zmT rfl) (l_v (v_extract (t := .agg _) rfl rfl) (l_v (v_extract (t := .int _ _) rfl rfl) (l_to (to_alloc (z := (.agg #[.int .i64 0, .slice none 0 0, .int .i64 0, .slice none 0 0])) (by unfold kZero; kernel_rfl) ?_))))
 rintro b8 w8 zb8 HB8 e8 z8
 have := e8.size
 try simp only [Value.cells] at HB8
 replace E := (E.trans e52.keep).trans e8.keep
 replace HG1 := (HG1.ext e52).ext e8
 replace HG2 := (HG2.ext e52).ext e8
 replace HB2 := (HB2.ext e52).ext e8
 replace HB3 := (HB3.ext e52).ext e8
 replace HG6 := (HG6.ext e52).ext e8
 replace HB6 := (HB6.ext e52).ext e8
 replace HG8 := HG8.ext e8
 have he2 : s6.2 = s8.2 := by
  rw [hs6, hde, r1]
  by_cases h0 : (stMt ((e, rs), n, ms) (k, rq, mv, en, an, key, g)).2 = 0
  ·
   rw [if_pos h0]
  rw [if_neg h0]
 refine l_to (to_storeA (n := 4) rfl rfl (zvA rfl) zk rfl dj6 HB8 dj5 ?_)
 rintro w111 HX111 k111 z111
 have := k111.size
 replace HB8 := HX111
 clear HX111
 try simp only [zS, Nat.zero_add, Nat.reduceAdd, List.drop_nil] at HB8
 refine l_v (zaI rfl) (l_nil (n_then (c_seq (c_seq (wp_reg zd (l_v (zmI rfl) (l_v (zmI rfl) (l_v (v_neq rfl rfl) ?_))))))))
 replace E := E.step k111 dj3
 replace HG1 := HG1.keep k111 dj1
 replace HG2 := HG2.keep k111 dj1
 replace HB2 := HB2.keep k111 dj4
 replace HB3 := HB3.keep k111 dj4
 replace HG6 := HG6.keep k111 dj1
 replace HB6 := HB6.keep k111 dj4
 replace HG8 := HG8.keep k111 dj1
 refine l_nil (n_then (c_cond rfl rfl (fun h57 => ?_) (fun h57 => ?_)))
 ·
  rw [he2] at h57; simp at h57
 refine c_skip (n_then (c_seq (c_seq (wp_reg zd (l_v (zmI rfl) (l_v (v_neq rfl rfl) ?_))))))
 refine l_nil (n_then (c_cond rfl rfl (fun h59 => ?_) (fun h59 => ?_)))
 ·
  have h0 : ¬ (stMt ((e, rs), n, ms) (k, rq, mv, en, an, key, g)).2 = 0 := by rw [← r1]; simpa using h59
  have h61 : s6.1 = mt0 := by rw [hs6, hde, if_neg h0]
  refine c_seq (wp_reg zd (l_v (v_loadA zk rfl (by first | exact HB8.pv | exact HB6.pv | exact HB3.pv | exact HB2.pv | assumption) rfl) ?_))
  refine l_v (v_build (pl := [(0, 2), (2, 1), (3, 1)]) (z := .agg #[.int .i64 0, .slice none 0 0, .int .i64 0, .slice none 0 0]) (zl := [.int .i64 0, .slice none 0 0, .int .i64 0, .slice none 0 0]) zk (by unfold kZero; kernel_rfl) rfl rfl (cells := [_, _, _, _]) rfl) ?_
  refine l_to (to_f2 zk (zvA rfl) (zvA rfl) (CallsR.mono (rSame_c HG6 mt0_ag') ?_))
  rintro _ w112 ⟨rfl, e112⟩
  have := e112.size
  refine l_v (zmB rfl) (l_g1f rfl rfl (fun hG => to_f0 zk (known20_c)) ?_)
  rintro w113 e113
  have := e113.size
  refine l_v (v_and rfl rfl) ?_
  refine l_v (zaB rfl) (l_nil (n_then (c_ret (r_then (ret1v rfl zq (zvB rfl) ?_)))))
  replace E := (E.trans e112.keep).trans e113.keep
  refine ⟨?_, E⟩
  rw [h61]; simp
 have h0 : (stMt ((e, rs), n, ms) (k, rq, mv, en, an, key, g)).2 = 0 := by rw [← r1]; simpa using h59
 have h61 : s6.1 = s8.1 := by rw [hs6, hde, if_pos h0]; exact (r2 h0).symm
 refine c_skip (n_then (c_seq (wp_reg zd (l_v (v_loadA zk rfl (by first | exact HB8.pv | exact HB6.pv | exact HB3.pv | exact HB2.pv | assumption) rfl) ?_))))
 refine l_v (v_loadA zk rfl (by first | exact HB8.pv | exact HB6.pv | exact HB3.pv | exact HB2.pv | assumption) rfl) ?_
 refine l_to (to_f2 zk (zvA rfl) (zvA rfl) (CallsR.mono (rSame_c HG6 HG8) ?_))
 rintro _ w114 ⟨rfl, e114⟩
 have := e114.size
 refine l_v (zmB rfl) (l_g1f rfl rfl (fun hG => to_f0 zk (known20_c)) ?_)
 rintro w115 e115
 have := e115.size
 refine l_v (v_and rfl rfl) ?_
 refine l_v (zaB rfl) (l_nil (n_then (c_ret (ret1v rfl zq (zvB rfl) ?_))))
 replace E := (E.trans e114.keep).trans e115.keep
 refine ⟨?_, E⟩
 rw [h61]; simp
end Go.Proofs.Yteehplloacefmaa
