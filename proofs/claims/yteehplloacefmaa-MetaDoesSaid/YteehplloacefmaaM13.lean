/- A part of the proof: steps and lemmas for the walks through the given program. -/
import Derived.Test.YteehplloacefmaaM12
import Derived.Test.YteehplloacefmaaMDo
namespace Go.Proofs.Yteehplloacefmaa
open Go.Vc
set_option linter.unusedVariables false
set_option linter.unusedSimpArgs false
set_option maxRecDepth 100000

theorem rMap_c {w : World} {F : Nat → Prop} {v u : Value} {e : Int} {fs : List (List UInt8)} {gs : List Int} (HSf : SlV (tSl tU8) w F v fs) (HSg : SlV (tInt .i64) w F u gs) (ie : I64' e) (hl : gs.length = fs.length) (hn : fs.length ≤ 1000) : CallsR Try.prog 44 #[.int .i64 e, v, u] w (fun o w' => AgV tMp w' (fun b => F b ∨ w.heap.size ≤ b) o (e, bldR fs gs) ∧ Ext w w') := by
 obtain ⟨a, c, rfl⟩ := HSf.shape
 obtain ⟨a2, c2, rfl⟩ := HSg.shape
 replace HSf := HSf.mono (F' := fun b => F b ∧ b < w.heap.size) fun b hb h => ⟨h, hb⟩
 replace HSg := HSg.mono (F' := fun b => F b ∧ b < w.heap.size) fun b hb h => ⟨h, hb⟩
 refine enter 46 Try.func44 rfl rfl (by simp) ?_
 refine c_seq ?_
 have E := Keep.refl (K := NoK) w
 refine wp_reg zd (l_to (to_alloc (z := (.agg #[.int .i64 0, .slice none 0 0])) (by unfold kZero; kernel_rfl) ?_))
 rintro b6 w6 zb6 HB6 e6 z6
 have := e6.size
 try simp only [Value.cells] at HB6
 refine l_nil (n_then (c_seq (wp_reg zd (l_v (zmI rfl) (l_v (v_build (pl := [(0, 1), (1, 1)]) (z := .agg #[.int .i64 0, .slice none 0 0]) (zl := [.int .i64 0, .slice none 0 0]) zk (by unfold kZero; kernel_rfl) rfl rfl (cells := [_, _]) rfl) ?_)))))
 refine l_to (to_alloc (z := (.agg #[.int .i64 0, .slice none 0 0])) (by unfold kZero; kernel_rfl) ?_)
 rintro b7 w7 zb7 HB7 e7 z7
 have := e7.size
 try simp only [Value.cells] at HB7
 obtain ⟨n4, hn4⟩ : ∃ n, n = w7.heap.size := ⟨_, rfl⟩
 refine l_to (to_storeA (n := 2) rfl rfl (zvA rfl) zk rfl dj6 HB7 dj5 ?_)
 rintro w101 HX101 k101 z101
 have := k101.size
 replace HB7 := HX101
 clear HX101
 try simp only [zS, Nat.zero_add, Nat.reduceAdd, List.drop_nil] at HB7
 replace E := ((E.trans e6.keep).trans e7.keep).step k101 dj3
 refine l_nil (n_then (c_seq (c_seq (wp_reg zd (l_v (v_assign rfl) (l_nil (n_then (c_block (c_loop (τ := Nat × Value) [8, 9, 12, 13, 14, 15, 16, 17, 18, 19, 20, 21, 22, 23, 24, 25, 26, 27, 28, 29, 30, 31, 32, 33, 34, 35, 36, 37, 38, 39, 40, 41, 42, 43, 44] (fun (i, x) => [(8, .int .i64 i)]) (fun (i, x) W => Ext w W ∧ Keep (fun b => b7 ≤ b) w101 W ∧ i ≤ fs.length ∧ Blk W b7 [.int .i64 e, x] 24 ∧ OwV tRg 63 W n4 (fun b => (F b ∧ b < w.heap.size) ∨ (n4 ≤ b ∧ b < W.heap.size)) x ((List.range i).map (bldA fs gs))) (fun (i, x) => fs.length - i) (0, .slice none 0 0) (by exact ⟨rfl, trivial⟩) (by exact ⟨E, Keep.refl _, Nat.zero_le _, HB7, OwV.nil _ _ _ _ _⟩) ?_)))))))))
 replace HSf := ((HSf.ext e6).ext e7).keep k101 dj1
 replace HSg := ((HSg.ext e6).ext e7).keep k101 dj1
 rintro ⟨i, x⟩ w102 j ⟨E, EL1, h1, HB7, HOx⟩
 have := EL1.size
 have zo_HOx := fun (b : Nat) h => HOx.own_lt (b := b) h
 refine c_seq (c_seq (wp_reg zd (l_v (zmI rfl) (l_v (zmS rfl) (l_v (v_len (et := 33) zk rfl) ?_)))))
 refine l_v (v_lss rfl rfl) ?_
 replace HB6 := ((HB6.ext e7).keep k101 dj4).keep EL1 dj4
 replace HSf := HSf.keep EL1 dj1
 replace HSg := HSg.keep EL1 dj1
 refine l_nil (n_then (c_cond rfl rfl (fun hlt => ?_) (fun hlt => ?_)))
 ·
  have hlt := dtrue hlt
  obtain ⟨n5, hn5⟩ : ∃ n, n = w102.heap.size := ⟨_, rfl⟩
  obtain ⟨f, hf, _⟩ := getE (l := fs) (i := i) zo
  obtain ⟨g, hg, _⟩ := getE (l := gs) (i := i) zo
  have hfd : fs.getD i [] = f := by simp [hf]
  have hgd : gs.getD i 0 = g := by simp [hg]
  obtain ⟨q, cs, rfl, hF, _, HPq, ⟨vf, rfl, HSx⟩⟩ := HSf.el hf
  obtain ⟨q2, cs2, rfl, hF2, _, HPr, ⟨rfl, hwg⟩⟩ := HSg.el hg
  have hgw := wf_i64 hwg
  obtain ⟨a5, c5, rfl⟩ := HSx.shape
  obtain ⟨ax, cx, rfl⟩ := HOx.shape
  have hFq := hF.2
  have hFr := hF2.2
  refine c_skip (n_then (c_seq (c_block (c_seq (wp_any zk ?_)))))
  have e103 : Ext w102 { w102 with drawn := w102.drawn + 1 } := Keep.drawn _ _
  generalize hw103 : ({ w102 with drawn := w102.drawn + 1 } : World) = w103 at e103 ⊢
  clear hw103
  have := e103.size
  refine wp_regJW (fun k => w103.heap.size ≤ k) (AlJ w103.heap.size [⟨9, some 10, 63, ([.slice none 0 0, .slice none 0 0, .bool false, .int .i64 0] : List Value), ([.slice a5 f.length c5, .slice none 0 0, .bool false, .int .i64 g] : List Value)⟩]) zd zd (fun vals done hd => AlJ.start (Nat.le_refl _) (fun a ha => hd a.al (al_lt (n := 11) rfl a ha))) ?_
  refine rj_vJ (fun done vals w hR hcl hdk hJ hdn hd => zmS rfl) (fun _ _ _ _ j => j.src (Keep.refl _) rfl) ?_
  refine rj_vJ (fun done vals w hR hcl hdk hJ hdn hd => zmI rfl) (fun _ _ _ _ j => j.src (Keep.refl _) rfl) ?_
  refine rj_vJ (fun done vals w hR hcl hdk hJ hdn hd => v_indexAddr (et := 33) (sz := 1) (k := i) zk zk (hd 0 rfl) (hd 1 rfl) (by first | rfl | omega) zo) (fun _ _ _ _ j => j.src (Keep.refl _) rfl) ?_
  replace HB6 := HB6.ext e103
  replace HB7 := HB7.ext e103
  replace HPq := HPq.ext e103
  replace HPr := HPr.ext e103
  refine rj_vJ (fun done vals w hR hcl hdk hJ hdn hd => v_load zk (hd 2 rfl) (by first | exact pv_1 (HPr.keep hR (by intro h; (try dsimp only at h); (try simp only [add_block] at h); first | omega)) | exact pv_1 (HPq.keep hR (by intro h; (try dsimp only at h); (try simp only [add_block] at h); first | omega)) | exact (HB7.keep hR dj4).cell rfl | exact (HB6.keep hR dj4).cell rfl | assumption)) (fun _ _ _ _ j => j.src (Keep.refl _) rfl) ?_
  refine rj_vJ (fun done vals w hR hcl hdk hJ hdn hd => zmS rfl) (fun _ _ _ _ j => j.src (Keep.refl _) rfl) ?_
  refine rj_vJ (fun done vals w hR hcl hdk hJ hdn hd => zmI rfl) (fun _ _ _ _ j => j.src (Keep.refl _) rfl) ?_
  refine rj_vJ (fun done vals w hR hcl hdk hJ hdn hd => v_indexAddr (et := 3) (sz := 1) (k := i) zk zk (hd 4 rfl) (hd 5 rfl) (by first | rfl | omega) zo) (fun _ _ _ _ j => j.src (Keep.refl _) rfl) ?_
  refine rj_vJ (fun done vals w hR hcl hdk hJ hdn hd => v_load zk (hd 6 rfl) (by first | exact pv_1 (HPr.keep hR (by intro h; (try dsimp only at h); (try simp only [add_block] at h); first | omega)) | exact pv_1 (HPq.keep hR (by intro h; (try dsimp only at h); (try simp only [add_block] at h); first | omega)) | exact (HB7.keep hR dj4).cell rfl | exact (HB6.keep hR dj4).cell rfl | assumption)) (fun _ _ _ _ j => j.src (Keep.refl _) rfl) ?_
  refine rj_vJ (fun done vals w hR hcl hdk hJ hdn hd => v_build (pl := [(0, 1), (1, 1), (2, 1), (3, 1)]) (z := .agg #[.slice none 0 0, .slice none 0 0, .bool false, .int .i64 0]) (zl := [.slice none 0 0, .slice none 0 0, .bool false, .int .i64 0]) (ps := [(0, .slice a5 f.length c5), (3, .int .i64 g)]) zk (by unfold kZero; kernel_rfl) rfl (by refine parts2 (v0 := .slice a5 f.length c5) (v1 := .int .i64 g) ?_ ?_; exact (hd 3 rfl); exact (hd 7 rfl)) (cells := [.slice a5 f.length c5, .slice none 0 0, .bool false, .int .i64 g]) rfl) (fun _ _ _ _ j => j.src (Keep.refl _) rfl) ?_
  refine rj_d (fun done vals w hR hcl hdk hJ hdn hd => to_alloc (z := .agg #[.slice none 0 0, .slice none 0 0, .bool false, .int .i64 0]) (by unfold kZero; kernel_rfl) fun b w1 hb hB e hz => ⟨Ext.keep e, hJ.al (i := 0) rfl rfl hdk hcl (fun m a hm he => alOne_al (i := 0) (m := m) rfl rfl hm he) (fun a ha => alSt_ne rfl ha (List.mem_of_getElem? (i := 0) rfl)) (fun s hs => by cases hs; exact ⟨_, rfl, rfl⟩) hb hB e⟩) ?_
  replace E := E.trans e103.keep
  replace HSf := HSf.ext e103
  replace HSg := HSg.ext e103
  replace HOx := HOx.ext e103
  replace EL1 := EL1.trans e103.keep
  replace HSx := HSx.ext e103
  refine rj_d (fun done vals w hR hcl hdk hJ hdn hd => by
    obtain ⟨b, hb, hn, hB⟩ := hJ.at (i := 0) rfl rfl hdk (hdn 9 rfl)
    exact to_storeA (n := 4) (hb : _ = Value.pointer (some ⟨b, 0, none⟩)) rfl (hd 8 rfl) zk rfl (by first | (simp [slice_one]; done) | (simp only [List.forall_mem_cons, List.cons_append, List.nil_append]; repeat' (first | exact rfl | apply And.intro | (intro u hu; cases hu; done)))) hB (of_decide_eq_true rfl) (fun w1 hB1 kk z => ⟨kk.mono (fun i _ h => by rw [h]; exact hn), hJ.st (i := 0) rfl rfl hdk (hdn 9 rfl) (fun m a hm he => alOne_st (i := 0) (m := m) rfl rfl hm rfl he) (fun a ha h => alSt_ne (a := _) rfl (List.mem_of_getElem? (i := 0) rfl) ha (by rw [h])) rfl (fun m a hm he => alOne_al (i := 0) (m := m) rfl rfl hm he) hb hB1 kk⟩)) ?_
  refine rj_nil (fun vals w104 k104 J104 => ?_)
  rintro _ - rfl _ - rfl _ - rfl _ - rfl _ - rfl _ - rfl _ - rfl _ - rfl _ - rfl v9 qv9 - _ - -
  have := k104.size
  obtain ⟨b9, hb9, zb9, HB9⟩ := J104.fin (i := 0) rfl
  try dsimp only at HB9
  have zl9 := HB9.lt
  obtain rfl := qv9.trans hb9
  refine fin_nilJ (n_then (c_seq (c_seq (wp_reg zd (l_v (zmI rfl) (l_v (v_add rfl rfl (by first | exact wr_i64 zo zo | rfl)) ?_))))))
  refine l_v (zmS rfl) (l_v (v_len (et := 33) zk rfl) ?_)
  refine l_v (v_lss rfl rfl) ?_
  replace E := E.step k104 dj3
  replace HSf := HSf.keep k104 dj1
  replace HSg := HSg.keep k104 dj1
  replace HB6 := HB6.keep k104 dj4
  replace HB7 := HB7.keep k104 dj4
  replace HOx := HOx.keep k104 (by intro i ho he; have he0 := he; have ho0 := ho; (try dsimp only [NoK] at he); (try simp only [Value.ownBlock, Option.some.injEq, reduceCtorEq] at ho); (try simp only [Value.ownBlock, Option.some.injEq, reduceCtorEq] at he); first | exact he.elim | exact ho.elim | omega | (have := zo_HOx _ ho0; omega)) (by intro i _ hi _ he; have he0 := he; have hi := hi; have he := he; (try dsimp only [NoK, AllB] at hi he); (try simp only [Value.ownBlock, Option.some.injEq, reduceCtorEq] at he); all_goals first | exact hi.elim | exact hi.1.elim | exact he.elim | omega | (rcases hi with hi | hi <;> omega) | (rcases he with he | he <;> omega))
  replace EL1 := EL1.step k104 dj3
  replace HPq := HPq.keep k104 (by intro h; (try dsimp only at h); (try simp only [add_block] at h); first | omega)
  replace HPr := HPr.keep k104 (by intro h; (try dsimp only at h); (try simp only [add_block] at h); first | omega)
  replace HSx := HSx.keep k104 dj1
  refine l_nil (n_then (c_cond rfl rfl (fun h31 => ?_) (fun h31 => ?_)))
  ·
   have hi1 : i + 1 < fs.length := by have := dtrue h31; omega
   obtain ⟨fn, hfn, _⟩ := getE (l := fs) (i := i + 1) hi1
   have hnd : fs.getD (i + 1) [] = fn := by simp [hfn]
   obtain ⟨q3, cs3, hq3, hF3, _, HPs, ⟨vn, rfl, HSn⟩⟩ := HSf.el hfn
   cases hq3
   obtain ⟨a8, c8, rfl⟩ := HSn.shape
   have hFs := hF3.2
   refine wp_reg zd (l_v (zmS rfl) (l_v (zmI rfl) (l_v (v_add rfl rfl (by first | exact wr_i64 zo zo | rfl)) ?_)))
   refine l_v (v_indexAddr (et := 33) (sz := 1) (k := i + 1) zk zk rfl rfl (by first | rfl | omega) (hi1)) ?_
   refine l_v (v_load zk rfl (by first | exact pv_1 HPs | exact HB9.cell rfl | exact pv_1 HPr | exact pv_1 HPq | exact HB7.cell rfl | exact HB6.cell rfl | assumption)) ?_
   refine l_v (v_fieldAddr (off := 1) (ft := 33) zk rfl) (l_to (to_store rfl rfl (zvS rfl) rfl zk HB9 dj5 ?_))
   rintro w105 HX105 k105 z105
   have := k105.size
   replace HB9 := HX105
   clear HX105
   try simp only [zS, Nat.zero_add, Nat.reduceAdd, List.drop_nil] at HB9
   refine l_v (v_fieldAddr (off := 2) (ft := 4) zk rfl) (l_to (to_store rfl rfl (zvB rfl) rfl zk HB9 dj5 ?_))
   rintro w106 HX106 k106 z106
   have := k106.size
   replace HB9 := HX106
   clear HX106
   try simp only [zS, Nat.zero_add, Nat.reduceAdd, List.drop_nil] at HB9
   replace HB6 := (HB6.keep k105 dj4).keep k106 dj4
   replace HB7 := (HB7.keep k105 dj4).keep k106 dj4
   replace HPq := (HPq.keep k105 (by intro h; (try dsimp only at h); (try simp only [add_block] at h); first | omega)).keep k106 (by intro h; (try dsimp only at h); (try simp only [add_block] at h); first | omega)
   replace HPr := (HPr.keep k105 (by intro h; (try dsimp only at h); (try simp only [add_block] at h); first | omega)).keep k106 (by intro h; (try dsimp only at h); (try simp only [add_block] at h); first | omega)
   replace HPs := (HPs.keep k105 (by intro h; (try dsimp only at h); (try simp only [add_block] at h); first | omega)).keep k106 (by intro h; (try dsimp only at h); (try simp only [add_block] at h); first | omega)
   refine l_nil (n_then (wp_reg zd (l_v (v_fieldAddr (off := 1) (ft := 22) zk rfl) (l_v (v_load zk rfl (by first | exact HPs 1 _ rfl | exact pv_1 HPs | exact HB9.pv 1 _ rfl | exact HPr 1 _ rfl | exact pv_1 HPr | exact HPq 1 _ rfl | exact pv_1 HPq | exact HB7.pv 1 _ rfl | exact HB6.pv 1 _ rfl | assumption)) ?_))))
   refine l_v (v_loadA zk rfl (by first | exact HPs | exact HB9.pv | exact HPr | exact HPq | exact HB7.pv | exact HB6.pv | assumption) rfl) ?_
   replace HSx := (HSx.keep k105 dj1).keep k106 dj1
   replace HSn := (HSn.keep k105 dj1).keep k106 dj1
   refine l_to (to_slice1 (t := tRg) (et := 63) (bytes := 64) zk zq (zvA rfl) (tRg_mk HSx HSn hgw) ?_)
   rintro b10 w10 zb10 HO10 e10 z10
   have := e10.size
   have zo_HO10 := fun (b : Nat) h => HO10.own_lt (b := b) h
   have hel : bldA fs gs i = (f, fn, true, g) := by rw [bldA, hfd, hgd, if_pos hi1, decide_eq_true hi1, hnd]
   replace HOx := ((HOx.keep k105 (by intro i ho he; have he0 := he; have ho0 := ho; (try dsimp only [NoK] at he); (try simp only [Value.ownBlock, Option.some.injEq, reduceCtorEq] at ho); (try simp only [Value.ownBlock, Option.some.injEq, reduceCtorEq] at he); first | exact he.elim | exact ho.elim | omega | (have := zo_HOx _ ho0; omega)) (by intro i _ hi _ he; have he0 := he; have hi := hi; have he := he; (try dsimp only [NoK, AllB] at hi he); (try simp only [Value.ownBlock, Option.some.injEq, reduceCtorEq] at he); all_goals first | exact hi.elim | exact hi.1.elim | exact he.elim | omega | (rcases hi with hi | hi <;> omega) | (rcases he with he | he <;> omega))).keep k106 (by intro i ho he; have he0 := he; have ho0 := ho; (try dsimp only [NoK] at he); (try simp only [Value.ownBlock, Option.some.injEq, reduceCtorEq] at ho); (try simp only [Value.ownBlock, Option.some.injEq, reduceCtorEq] at he); first | exact he.elim | exact ho.elim | omega | (have := zo_HOx _ ho0; omega)) (by intro i _ hi _ he; have he0 := he; have hi := hi; have he := he; (try dsimp only [NoK, AllB] at hi he); (try simp only [Value.ownBlock, Option.some.injEq, reduceCtorEq] at he); all_goals first | exact hi.elim | exact hi.1.elim | exact he.elim | omega | (rcases hi with hi | hi <;> omega) | (rcases he with he | he <;> omega))).ext e10
   have HOz := HOx.mono (F' := fun b => (F b ∧ b < w.heap.size) ∨ n4 ≤ b) fun b _ h => h.elim .inl fun h => .inr h.1
   have HS32 : SlV tRg w10 (fun b => (F b ∧ b < w.heap.size) ∨ n5 ≤ b) (.slice (some ⟨b10, 0, none⟩) 1 1) [(f, fn, true, g)] := HO10.view.mono fun b _ h => by rcases h with h | h; exact .inr zo; exact .inl h.1
   have zo_HOz := fun (b : Nat) h => HOz.own_lt (b := b) h
   have zo_HOz := zo_HOx
   refine l_to (to_append (et := 63) (bytes := 64) zk (zvS rfl) HOz (zvS rfl) HS32 (deepF fun b hb hb2 => ⟨hb2.elim .inl fun h => .inr zo, fun ho => by have := zo_HOx _ ho; exact hb2.elim (fun h => by omega) (fun h => by omega)⟩) (by first | omega | (simp; done) | (simp; omega)) (by simp only [maxLen]; first | omega | (simp; done) | (simp; omega)) zo ?_)
   rintro a9 n9 c9 w11 HO19 hn9 k9 h9 i9
   have := k9.size
   have hml : (List.range i).map (bldA fs gs) ++ [(f, fn, true, g)] = (List.range (i + 1)).map (bldA fs gs) := by rw [List.range_succ, List.map_append, ← hel]; rfl
   rw [hml] at HO19
   have zo_HO19 := fun (b : Nat) h => HO19.own_lt (b := b) h
   replace HB7 := (HB7.ext e10).keep k9 (by intro h; have he0 := h; (try dsimp only at h); (try simp only [Value.ownBlock, Option.some.injEq] at h); first | omega | (have := (HOz).own_lt he0; omega) | (have := zo_HOz _ he0; omega))
   refine l_v (v_fieldAddr (off := 1) (ft := 22) zk rfl) (l_to (to_store rfl rfl (zvS rfl) rfl zk HB7 dj5 ?_))
   rintro w107 HX107 k107 z107
   have := k107.size
   replace HB7 := HX107
   clear HX107
   try simp only [zS, Nat.zero_add, Nat.reduceAdd, List.drop_nil] at HB7
   refine l_nil (n_blk (n_then (wp_reg zd (l_v (zmI rfl) (l_v (v_add rfl rfl (by first | exact wr_i64 zo zo | rfl)) ?_)))))
   replace E := ((((E.step k105 dj3).step k106 dj3).trans e10.keep).step k9 (by intro i hi he; have he0 := he; (try dsimp only [NoK] at hi he ⊢); (try simp only [Value.ownBlock, Option.some.injEq] at he); first | exact he.elim | omega | exact he | (have := (HOz).own_lt he0; omega) | (have := zo_HOz _ he0; omega) | (have := (HOz).own_lt he0; rcases hi with hi | hi <;> omega))).step k107 dj3
   replace HSf := ((((HSf.keep k105 dj1).keep k106 dj1).ext e10).keep k9 (by intro i _ hi he; have he0 := he; (try dsimp only [NoK, AllB] at hi he); (try simp only [Value.ownBlock, Option.some.injEq] at he); first | exact hi.elim | exact he.elim | omega | (rcases hi with hi | hi <;> omega) | (rcases he with he | he <;> omega) | (have := (HOz).own_lt he0; omega) | (have := zo_HOz _ he0; omega) | (have := (HOz).own_lt he0; rcases hi with hi | hi <;> omega))).keep k107 dj1
   replace HSg := ((((HSg.keep k105 dj1).keep k106 dj1).ext e10).keep k9 (by intro i _ hi he; have he0 := he; (try dsimp only [NoK, AllB] at hi he); (try simp only [Value.ownBlock, Option.some.injEq] at he); first | exact hi.elim | exact he.elim | omega | (rcases hi with hi | hi <;> omega) | (rcases he with he | he <;> omega) | (have := (HOz).own_lt he0; omega) | (have := zo_HOz _ he0; omega) | (have := (HOz).own_lt he0; rcases hi with hi | hi <;> omega))).keep k107 dj1
   replace EL1 := ((((EL1.step k105 dj3).step k106 dj3).trans e10.keep).step k9 (by intro i hi he; have he0 := he; (try dsimp only [NoK] at hi he ⊢); (try simp only [Value.ownBlock, Option.some.injEq] at he); first | exact he.elim | omega | exact he | (have := (HOz).own_lt he0; omega) | (have := zo_HOz _ he0; omega) | (have := (HOz).own_lt he0; rcases hi with hi | hi <;> omega))).step k107 dj3
   replace HB6 := ((HB6.ext e10).keep k9 (by intro h; have he0 := h; (try dsimp only at h); (try simp only [Value.ownBlock, Option.some.injEq] at h); first | omega | (have := (HOz).own_lt he0; omega) | (have := zo_HOz _ he0; omega))).keep k107 dj4
   replace HPq := ((HPq.ext e10).keep k9 (by intro h; have he0 := h; (try dsimp only at h); (try simp only [Value.ownBlock, Option.some.injEq] at h); (try simp only [add_block] at h); (try simp only [add_block] at he0); first | omega | (have := (HOz).own_lt he0; omega) | (have := zo_HOz _ he0; omega))).keep k107 (by intro h; (try dsimp only at h); (try simp only [add_block] at h); first | omega)
   replace HPr := ((HPr.ext e10).keep k9 (by intro h; have he0 := h; (try dsimp only at h); (try simp only [Value.ownBlock, Option.some.injEq] at h); (try simp only [add_block] at h); (try simp only [add_block] at he0); first | omega | (have := (HOz).own_lt he0; omega) | (have := zo_HOz _ he0; omega))).keep k107 (by intro h; (try dsimp only at h); (try simp only [add_block] at h); first | omega)
   replace HSx := ((HSx.ext e10).keep k9 (by intro i _ hi he; have he0 := he; (try dsimp only [NoK, AllB] at hi he); (try simp only [Value.ownBlock, Option.some.injEq] at he); first | exact hi.elim | exact he.elim | omega | (rcases hi with hi | hi <;> omega) | (rcases he with he | he <;> omega) | (have := (HOz).own_lt he0; omega) | (have := zo_HOz _ he0; omega) | (have := (HOz).own_lt he0; rcases hi with hi | hi <;> omega))).keep k107 dj1
   replace HB9 := ((HB9.ext e10).keep k9 (by intro h; have he0 := h; (try dsimp only at h); (try simp only [Value.ownBlock, Option.some.injEq] at h); first | omega | (have := (HOz).own_lt he0; omega) | (have := zo_HOz _ he0; omega))).keep k107 dj4
   replace HPs := ((HPs.ext e10).keep k9 (by intro h; have he0 := h; (try dsimp only at h); (try simp only [Value.ownBlock, Option.some.injEq] at h); (try simp only [add_block] at h); (try simp only [add_block] at he0); first | omega | (have := (HOz).own_lt he0; omega) | (have := zo_HOz _ he0; omega))).keep k107 (by intro h; (try dsimp only at h); (try simp only [add_block] at h); first | omega)
   replace HSn := ((HSn.ext e10).keep k9 (by intro i _ hi he; have he0 := he; (try dsimp only [NoK, AllB] at hi he); (try simp only [Value.ownBlock, Option.some.injEq] at he); first | exact hi.elim | exact he.elim | omega | (rcases hi with hi | hi <;> omega) | (rcases he with he | he <;> omega) | (have := (HOz).own_lt he0; omega) | (have := zo_HOz _ he0; omega) | (have := (HOz).own_lt he0; rcases hi with hi | hi <;> omega))).keep k107 dj1
   replace HO19 := HO19.keep k107 (by intro i ho he; have he0 := he; have ho0 := ho; (try dsimp only [NoK] at he); (try simp only [Value.ownBlock, Option.some.injEq, reduceCtorEq] at ho); (try simp only [Value.ownBlock, Option.some.injEq, reduceCtorEq] at he); first | exact he.elim | exact ho.elim | omega | (have := zo_HO19 _ ho0; omega)) (by intro i _ hi _ he; have he0 := he; have hi := hi; have he := he; (try dsimp only [NoK, AllB] at hi he); (try simp only [Value.ownBlock, Option.some.injEq, reduceCtorEq] at he); all_goals first | exact hi.elim | exact hi.1.elim | exact he.elim | omega | (rcases hi with hi | hi <;> omega) | (rcases he with he | he <;> omega))
   refine l_v (zaI rfl) (l_nil (n_then (⟨(i + 1, .slice a9 n9 c9), _, rfl, by (repeat (first | exact Off.of_over _ _ _ | refine Off.upd ?_ zq _ | refine Off.overs ?_ zq _)), ⟨by first | rfl | exact congrArg (Value.int _) zo | (simp; done), trivial⟩, ⟨E, EL1, ?_⟩, ?_⟩)))
   ·
    exact ⟨by omega, HB7, HO19.mono fun b hb h => h.elim .inl fun h => .inr ⟨h, hb⟩⟩
   (dsimp only; omega)
  have hi1 : ¬ i + 1 < fs.length := by have := dfalse h31; omega
  refine c_skip (n_then (wp_reg zd (l_v (v_fieldAddr (off := 1) (ft := 22) zk rfl) (l_v (v_load zk rfl (by first | exact HB9.pv 1 _ rfl | exact HPr 1 _ rfl | exact pv_1 HPr | exact HPq 1 _ rfl | exact pv_1 HPq | exact HB7.pv 1 _ rfl | exact HB6.pv 1 _ rfl | assumption)) ?_))))
  refine l_v (v_loadA zk rfl (by first | exact HB9.pv | exact HPr | exact HPq | exact HB7.pv | exact HB6.pv | assumption) rfl) ?_
  refine l_to (to_slice1 (t := tRg) (et := 63) (bytes := 64) zk zq (zvA rfl) (tRg_mk HSx (SlV.nil tU8 _ _) hgw) ?_)
  rintro b10 w10 zb10 HO10 e10 z10
  have := e10.size
  have zo_HO10 := fun (b : Nat) h => HO10.own_lt (b := b) h
  have hel : bldA fs gs i = (f, [], false, g) := by rw [bldA, hfd, hgd, if_neg hi1, decide_eq_false hi1]
  replace HOx := HOx.ext e10
  have HOz := HOx.mono (F' := fun b => (F b ∧ b < w.heap.size) ∨ n4 ≤ b) fun b _ h => h.elim .inl fun h => .inr h.1
  have HS32 : SlV tRg w10 (fun b => (F b ∧ b < w.heap.size) ∨ n5 ≤ b) (.slice (some ⟨b10, 0, none⟩) 1 1) [(f, [], false, g)] := HO10.view.mono fun b _ h => by rcases h with h | h; exact .inr zo; exact .inl h.1
  have zo_HOz := fun (b : Nat) h => HOz.own_lt (b := b) h
  have zo_HOz := zo_HOx
  refine l_to (to_append (et := 63) (bytes := 64) zk (zvS rfl) HOz (zvS rfl) HS32 (deepF fun b hb hb2 => ⟨hb2.elim .inl fun h => .inr zo, fun ho => by have := zo_HOx _ ho; exact hb2.elim (fun h => by omega) (fun h => by omega)⟩) (by first | omega | (simp; done) | (simp; omega)) (by simp only [maxLen]; first | omega | (simp; done) | (simp; omega)) zo ?_)
  rintro a9 n9 c9 w11 HO19 hn9 k9 h9 i9
  have := k9.size
  have hml : (List.range i).map (bldA fs gs) ++ [(f, [], false, g)] = (List.range (i + 1)).map (bldA fs gs) := by rw [List.range_succ, List.map_append, ← hel]; rfl
  rw [hml] at HO19
  have zo_HO19 := fun (b : Nat) h => HO19.own_lt (b := b) h
  replace HB7 := (HB7.ext e10).keep k9 (by intro h; have he0 := h; (try dsimp only at h); (try simp only [Value.ownBlock, Option.some.injEq] at h); first | omega | (have := (HOz).own_lt he0; omega) | (have := zo_HOz _ he0; omega))
  refine l_v (v_fieldAddr (off := 1) (ft := 22) zk rfl) (l_to (to_store rfl rfl (zvS rfl) rfl zk HB7 dj5 ?_))
  rintro w108 HX108 k108 z108
  have := k108.size
  replace HB7 := HX108
  clear HX108
  try simp only [zS, Nat.zero_add, Nat.reduceAdd, List.drop_nil] at HB7
  refine l_nil (n_blk (n_then (wp_reg zd (l_v (zmI rfl) (l_v (v_add rfl rfl (by first | exact wr_i64 zo zo | rfl)) ?_)))))
  replace E := ((E.trans e10.keep).step k9 (by intro i hi he; have he0 := he; (try dsimp only [NoK] at hi he ⊢); (try simp only [Value.ownBlock, Option.some.injEq] at he); first | exact he.elim | omega | exact he | (have := (HOz).own_lt he0; omega) | (have := zo_HOz _ he0; omega) | (have := (HOz).own_lt he0; rcases hi with hi | hi <;> omega))).step k108 dj3
  replace HSf := ((HSf.ext e10).keep k9 (by intro i _ hi he; have he0 := he; (try dsimp only [NoK, AllB] at hi he); (try simp only [Value.ownBlock, Option.some.injEq] at he); first | exact hi.elim | exact he.elim | omega | (rcases hi with hi | hi <;> omega) | (rcases he with he | he <;> omega) | (have := (HOz).own_lt he0; omega) | (have := zo_HOz _ he0; omega) | (have := (HOz).own_lt he0; rcases hi with hi | hi <;> omega))).keep k108 dj1
  replace HSg := ((HSg.ext e10).keep k9 (by intro i _ hi he; have he0 := he; (try dsimp only [NoK, AllB] at hi he); (try simp only [Value.ownBlock, Option.some.injEq] at he); first | exact hi.elim | exact he.elim | omega | (rcases hi with hi | hi <;> omega) | (rcases he with he | he <;> omega) | (have := (HOz).own_lt he0; omega) | (have := zo_HOz _ he0; omega) | (have := (HOz).own_lt he0; rcases hi with hi | hi <;> omega))).keep k108 dj1
  replace HB6 := ((HB6.ext e10).keep k9 (by intro h; have he0 := h; (try dsimp only at h); (try simp only [Value.ownBlock, Option.some.injEq] at h); first | omega | (have := (HOz).own_lt he0; omega) | (have := zo_HOz _ he0; omega))).keep k108 dj4
  replace EL1 := ((EL1.trans e10.keep).step k9 (by intro i hi he; have he0 := he; (try dsimp only [NoK] at hi he ⊢); (try simp only [Value.ownBlock, Option.some.injEq] at he); first | exact he.elim | omega | exact he | (have := (HOz).own_lt he0; omega) | (have := zo_HOz _ he0; omega) | (have := (HOz).own_lt he0; rcases hi with hi | hi <;> omega))).step k108 dj3
  replace HPq := ((HPq.ext e10).keep k9 (by intro h; have he0 := h; (try dsimp only at h); (try simp only [Value.ownBlock, Option.some.injEq] at h); (try simp only [add_block] at h); (try simp only [add_block] at he0); first | omega | (have := (HOz).own_lt he0; omega) | (have := zo_HOz _ he0; omega))).keep k108 (by intro h; (try dsimp only at h); (try simp only [add_block] at h); first | omega)
  replace HPr := ((HPr.ext e10).keep k9 (by intro h; have he0 := h; (try dsimp only at h); (try simp only [Value.ownBlock, Option.some.injEq] at h); (try simp only [add_block] at h); (try simp only [add_block] at he0); first | omega | (have := (HOz).own_lt he0; omega) | (have := zo_HOz _ he0; omega))).keep k108 (by intro h; (try dsimp only at h); (try simp only [add_block] at h); first | omega)
  replace HSx := ((HSx.ext e10).keep k9 (by intro i _ hi he; have he0 := he; (try dsimp only [NoK, AllB] at hi he); (try simp only [Value.ownBlock, Option.some.injEq] at he); first | exact hi.elim | exact he.elim | omega | (rcases hi with hi | hi <;> omega) | (rcases he with he | he <;> omega) | (have := (HOz).own_lt he0; omega) | (have := zo_HOz _ he0; omega) | (have := (HOz).own_lt he0; rcases hi with hi | hi <;> omega))).keep k108 dj1
  replace HB9 := ((HB9.ext e10).keep k9 (by intro h; have he0 := h; (try dsimp only at h); (try simp only [Value.ownBlock, Option.some.injEq] at h); first | omega | (have := (HOz).own_lt he0; omega) | (have := zo_HOz _ he0; omega))).keep k108 dj4
  replace HO19 := HO19.keep k108 (by intro i ho he; have he0 := he; have ho0 := ho; (try dsimp only [NoK] at he); (try simp only [Value.ownBlock, Option.some.injEq, reduceCtorEq] at ho); (try simp only [Value.ownBlock, Option.some.injEq, reduceCtorEq] at he); first | exact he.elim | exact ho.elim | omega | (have := zo_HO19 _ ho0; omega)) (by intro i _ hi _ he; have he0 := he; have hi := hi; have he := he; (try dsimp only [NoK, AllB] at hi he); (try simp only [Value.ownBlock, Option.some.injEq, reduceCtorEq] at he); all_goals first | exact hi.elim | exact hi.1.elim | exact he.elim | omega | (rcases hi with hi | hi <;> omega) | (rcases he with he | he <;> omega))
  refine l_v (zaI rfl) (l_nil (n_then (⟨(i + 1, .slice a9 n9 c9), _, rfl, by (repeat (first | exact Off.of_over _ _ _ | refine Off.upd ?_ zq _ | refine Off.overs ?_ zq _)), ⟨by first | rfl | exact congrArg (Value.int _) zo | (simp; done), trivial⟩, ⟨E, EL1, ?_⟩, ?_⟩)))
  ·
   exact ⟨by omega, HB7, HO19.mono fun b hb h => h.elim .inl fun h => .inr ⟨h, hb⟩⟩
  (dsimp only; omega)
 have hi : i = fs.length := by have := dfalse hlt; omega
 subst hi
 obtain ⟨ax, cx, rfl⟩ := HOx.shape
 refine c_exit (x_then (x_then (x_hit (n_then (c_seq (wp_reg zd (l_v (v_loadA zk rfl (by first | exact HB7.pv | exact HB6.pv | assumption) rfl) ?_)))))))
 refine l_to (to_storeA (n := 2) rfl rfl (zvA rfl) zk rfl dj6 HB6 dj5 ?_)
 rintro w109 HX109 k109 z109
 have := k109.size
 replace HB6 := HX109
 clear HX109
 try simp only [zS, Nat.zero_add, Nat.reduceAdd, List.drop_nil] at HB6
 refine l_nil (n_then (c_ret (ret1c (n := 2) rfl zq rfl zk HB6.pv rfl ?_)))
 replace E := E.step k109 dj3
 replace HOx := HOx.keep k109 (by intro i ho he; have he0 := he; have ho0 := ho; (try dsimp only [NoK] at he); (try simp only [Value.ownBlock, Option.some.injEq, reduceCtorEq] at ho); (try simp only [Value.ownBlock, Option.some.injEq, reduceCtorEq] at he); first | exact he.elim | exact ho.elim | omega | (have := zo_HOx _ ho0; omega)) (by intro i _ hi _ he; have he0 := he; have hi := hi; have he := he; (try dsimp only [NoK, AllB] at hi he); (try simp only [Value.ownBlock, Option.some.injEq, reduceCtorEq] at he); all_goals first | exact hi.elim | exact hi.1.elim | exact he.elim | omega | (rcases hi with hi | hi <;> omega) | (rcases he with he | he <;> omega))
 refine ⟨AgV.mkMp (HOx.view.mono fun b _ h => ?_) ie, E⟩
 replace HB7 := HB7.keep k109 dj4
 rcases h with h | h
 ·
  exact .inr zo
 rcases h with h | h
 ·
  exact .inl h.1
 exact .inr zo
end Go.Proofs.Yteehplloacefmaa
