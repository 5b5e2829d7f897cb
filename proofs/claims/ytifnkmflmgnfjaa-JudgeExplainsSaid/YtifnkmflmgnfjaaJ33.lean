/- A part of the proof: steps and lemmas for the walks through the given program. -/
import Derived.Test.YtifnkmflmgnfjaaJ28
import Derived.Test.YtifnkmflmgnfjaaJEy
import Derived.Test.YtifnkmflmgnfjaaJv
namespace Go.Proofs.Ytifnkmflmgnfjaa
open Go.Vc
set_option linter.unusedVariables false
set_option linter.unusedSimpArgs false
set_option maxRecDepth 100000

theorem Order_k {w : World} {F : Nat → Prop} {v : Value} {l : List EvV} {os : List Nat} {m : MapV} (HSl : SlV tEv w F v l) (hn : l.length ≤ 100000) (h : jdg l = (0, 0, os, m)) : CallsR Try.prog 28 #[v] w (fun o w' => ∃ oa oc, o = .tuple #[.slice oa os.length oc, .int .i64 0] ∧ SlV (tInt .i64) w' AllB (.slice oa os.length oc) (intsN os) ∧ Ext w w') := by
  have h2 := Order_c HSl hn; rw [h] at h2; exact h2
theorem Map_k {w : World} {F : Nat → Prop} {v : Value} {l : List EvV} {os : List Nat} {m : MapV} (HSl : SlV tEv w F v l) (hn : l.length ≤ 100000) (h : jdg l = (0, 0, os, m)) : CallsR Try.prog 29 #[v] w (fun o w' => ∃ ma mc, o = .tuple #[.slice ma m.length mc, .int .i64 0] ∧ SlV tPr w' AllB (.slice ma m.length mc) m ∧ Ext w w') := by
  have h2 := Map_c HSl hn; rw [h] at h2; exact h2
theorem Check_l {w : World} {F : Nat → Prop} {v : Value} {l : List EvV} {e : Int} (HSl : SlV tEv w F v l) (hn : l.length ≤ 100000) (h : (jdg l).2.1 = e) : CallsR Try.prog 23 #[v] w (fun o w' => o = .tuple #[.int .i64 (jdg l).1, .int .i64 e] ∧ Ext w w') := by
  rw [← h]; exact Check_c HSl hn
theorem mQ_len : ∀ (Q : List QV) (m : MapV), (∀ q ∈ Q, okQ q) → (mQ m Q).length ≤ m.length + Q.length
  | [], m, _ => by simp [mQ]
  | q :: l, m, h => by
    have h1 := doM_len (m := m) (h q (by simp)).2.2.1
    have h2 := mQ_len l (doM m q.2.1).1 fun x hx => h x (by simp [hx])
    simp only [mQ, List.length_cons]
    omega
set_option maxHeartbeats 8000000 in
theorem JudgeExplains_c {w : World} {F G : Nat → Prop} {v u : Value} {l : List AkV} {cl : List Int} {at' : Int} (HSl : SlV tAk w F v l) (HSc : SlV (tInt .i64) w G u cl) (hat : I64' at') : CallsR Try.prog 9 #[v, u, .int .i64 at'] w (fun o w' => o = .bool true ∧ Ext w w') := by
 obtain ⟨al, cL, rfl⟩ := HSl.shape
 obtain ⟨ac, cC, rfl⟩ := HSc.shape
 have hmx := HSl.len_max
 have hmc := HSc.len_max
 obtain ⟨n0, hn0⟩ : ∃ n, n = w.heap.size := ⟨_, rfl⟩
 replace HSl := HSl.lt
 replace HSc := HSc.lt
 rw [← hn0] at HSl HSc
 refine enter 169 Try.func9 rfl rfl (by simp) ?_
 refine c_seq ?_
 have E := Keep.refl (K := NoK) w
 refine wp_reg zd (l_v (v_assign rfl) (l_nil (n_then (c_seq (c_seq (wp_reg zd (l_to (to_f0 zk (CallsR.mono (known_c) ?_)))))))))
 rintro _ w101 ⟨rfl, e101⟩
 have := e101.size
 refine l_v (v_not rfl) ?_
 replace E := E.trans e101.keep
 replace HSl := HSl.ext e101
 replace HSc := HSc.ext e101
 refine l_nil (n_then (c_cond rfl rfl (fun hk0 => ?_) (fun hk0 => ?_)))
 ·
  simp at hk0
 refine c_skip (n_then (c_seq (c_seq (wp_reg zd (l_v (zmS rfl) (l_v (v_len (et := 28) zk rfl) ?_))))))
 refine l_v (v_gtr rfl rfl) ?_
 refine l_nil (n_then (c_cond rfl rfl (fun hl24 => ?_) (fun hl24 => ?_)))
 ·
  refine c_seq (wp_reg zd (l_v (v_assign rfl) (l_nil (n_then (c_ret (r_then (ret1v rfl zq (zvB rfl) ?_)))))))
  exact ⟨rfl, E⟩
 have hl24 := dfalse hl24
 refine c_skip (n_then (c_seq (wp_reg zd (l_v (v_assign rfl) (l_nil (n_then (c_seq (wp_reg zd (l_v (v_assign rfl) ?_)))))))))
 refine l_nil (n_then (c_seq (wp_reg zd (l_v (v_assign rfl) (l_nil (n_then (c_seq (c_seq (wp_reg zd ?_)))))))))
 refine l_v (v_assign rfl) (l_nil (n_then (c_block (c_loop (τ := List QV × Option Addr × Nat × Option Addr × Nat × Option Addr × Nat) ([6, 7, 8, 9, 10, 11, 12, 13, 14, 30, 31, 32, 33, 34, 35, 36] ++ [37, 38, 39, 40, 41, 42, 43, 44, 45, 46, 47, 48, 49, 50, 51, 52] ++ [53, 54, 55, 56, 57, 58, 59, 60, 61, 62, 63, 64, 65, 66, 67, 68] ++ [69, 70, 71, 72, 73, 74, 75, 76, 77, 78, 79, 80, 81, 82, 83, 84] ++ [85, 86, 87, 88, 89, 90, 91, 92, 93, 94, 95, 96, 97, 98, 99, 100] ++ [101, 102]) (fun (Q, am, cm, ae, ce, ao, co) => [(7, .slice am (mQ [] Q).length cm), (8, .slice ae (2 * Q.length) ce), (9, .slice ao Q.length co), (10, .int .i64 (Q.length : Int))]) (fun (Q, am, cm, ae, ce, ao, co) W => Ext w W ∧ Keep (fun b => n0 ≤ b) w101 W ∧ Q.length ≤ l.length ∧ (∀ q ∈ Q, okQ q) ∧ ownQ [] Q ∧ SlV tPr W (fun b => n0 ≤ b ∧ (Value.slice ae (2 * Q.length) ce).ownBlock ≠ some b ∧ (Value.slice ao Q.length co).ownBlock ≠ some b) (.slice am (mQ [] Q).length cm) (mQ [] Q) ∧ OwV tEv 44 W n0 (fun b => (F b ∧ b < n0) ∨ (n0 ≤ b ∧ (Value.slice ae (2 * Q.length) ce).ownBlock ≠ some b ∧ (Value.slice ao Q.length co).ownBlock ≠ some b)) (.slice ae (2 * Q.length) ce) (evQ 0 Q) ∧ OwV (tInt .i64) 3 W n0 NoK (.slice ao Q.length co) (intsN (List.range' 0 Q.length)) ∧ (∀ b, (Value.slice ae (2 * Q.length) ce).ownBlock = some b → (Value.slice ao Q.length co).ownBlock ≠ some b)) (fun (Q, am, cm, ae, ce, ao, co) => l.length - Q.length) ([], none, 0, none, 0, none, 0) (by exact ⟨rfl, rfl, rfl, rfl, trivial⟩) (by exact ⟨E, Keep.refl _, Nat.zero_le _, (fun q h => by cases h), trivial, SlV.nil _ _ _, OwV.nil _ _ _ _ _, OwV.nil _ _ _ _ _, (fun b h => by cases h)⟩) ?_))))
 rintro ⟨Q, am, cm, ae, ce, ao, co⟩ w102 j ⟨E, EL1, h1, hok, hown, HSm, HOx, HOo, hxo⟩
 have := EL1.size
 have zo_HOx := fun (b : Nat) h => HOx.own_lt (b := b) h
 have zo_HOo := fun (b : Nat) h => HOo.own_lt (b := b) h
 refine c_seq (c_seq (wp_reg zd (l_v (zmI rfl) (l_v (zmS rfl) (l_v (v_len (et := 28) zk rfl) ?_)))))
 refine l_v (v_lss rfl rfl) ?_
 replace HSl := HSl.keep EL1 dj1
 replace HSc := HSc.keep EL1 dj1
 refine l_nil (n_then (c_cond rfl rfl (fun hlt => ?_) (fun hlt => ?_)))
 ·
  have hlt := dtrue hlt
  obtain ⟨i, hQl⟩ : ∃ i, Q.length = i := ⟨_, rfl⟩
  simp only [hQl] at h1 HSm HOx HOo hxo hlt ⊢
  have hil24 : i < l.length := by omega
  have hmQ := mQ_len Q [] hok
  simp only [List.length_nil] at hmQ
  obtain ⟨n7, hn7⟩ : ∃ n, n = w102.heap.size := ⟨_, rfl⟩
  obtain ⟨X, hX⟩ : ∃ X : Nat → Prop, ∀ b, X b ↔ (Value.slice ae (2 * i) ce).ownBlock = some b := ⟨_, fun b => Iff.rfl⟩
  obtain ⟨O, hO⟩ : ∃ X : Nat → Prop, ∀ b, X b ↔ (Value.slice ao i co).ownBlock = some b := ⟨_, fun b => Iff.rfl⟩
  have zX : ∀ b, X b → n0 ≤ b ∧ b < n7 := fun b h => by have := HOx.own_lt ((hX b).1 h); omega
  have zO : ∀ b, O b → n0 ≤ b ∧ b < n7 := fun b h => by have := HOo.own_lt ((hO b).1 h); omega
  replace hxo : ∀ b, X b → ¬ O b := fun b h k => hxo b ((hX b).1 h) ((hO b).1 k)
  replace HSm := HSm.mono (F' := fun b => (n0 ≤ b ∧ ¬ X b ∧ ¬ O b) ∧ b < n7) fun b hb h => ⟨⟨h.1, fun k => h.2.1 ((hX b).1 k), fun k => h.2.2 ((hO b).1 k)⟩, by omega⟩
  replace HOx := HOx.mono (F' := fun b => (F b ∧ b < n0) ∨ ((n0 ≤ b ∧ ¬ X b ∧ ¬ O b) ∧ b < n7)) fun b hb h => h.imp (fun h => h) (fun h => ⟨⟨h.1, fun k => h.2.1 ((hX b).1 k), fun k => h.2.2 ((hO b).1 k)⟩, by omega⟩)
  obtain ⟨a, hx, _⟩ := getE (l := l) (i := i) hil24
  obtain ⟨q, cs, hqq, hF, _, HPq, hr⟩ := HSl.el hx
  subst hqq
  obtain ⟨g1, f1, g2, f2, g3, f3, g4, f4, rfl, _⟩ := tAk_cells hr
  have HGa : AgV tAk w102 _ (.agg #[_, _, _, _, _, _, _]) a := ⟨_, rfl, hr⟩
  have zo_HOx := fun (b : Nat) h => HOx.own_lt (b := b) h
  have zo_HOo := fun (b : Nat) h => HOo.own_lt (b := b) h
  refine c_skip (n_then (c_seq (c_block (c_seq (c_seq (wp_reg zd (l_v (zmS rfl) (l_v (zmI rfl) (l_v (v_indexAddr (et := 28) (sz := 7) (k := i) zk zk rfl rfl (by first | rfl | omega) zo) ?_)))))))))
  refine l_v (v_loadA zk rfl (by first | exact HPq | assumption) rfl) ?_
  refine l_to (to_f2 zk (zvA rfl) (zvI rfl) (CallsR.mono (LongAsk_k HGa) ?_))
  rintro _ w103 ⟨rfl, e103⟩
  have := e103.size
  refine l_v (zmB rfl) (l_g1 rfl rfl (fun hG => zmS rfl) (l_g1 rfl rfl (fun hG => zmI rfl) (l_g1 rfl rfl (fun hG => v_indexAddr (et := 28) (sz := 7) (k := i) zk zk (gd hG rfl) (gd hG rfl) (by first | rfl | omega) zo) ?_)))
  replace HPq := HPq.ext e103
  refine l_g1 rfl rfl (fun hG => v_loadA zk (gd hG rfl) (by first | exact HPq | assumption) rfl) ?_
  replace HGa := HGa.ext e103
  refine l_g1f rfl rfl (fun hG => to_f1 zk (gd hG rfl) (refMayAsk_c HGa)) ?_
  rintro w104 e104
  have := e104.size
  refine l_g1 rfl rfl (fun hG => v_not (gd hG rfl)) ?_
  refine l_v (v_or rfl rfl) ?_
  replace E := (E.trans e103.keep).trans e104.keep
  replace HSl := (HSl.ext e103).ext e104
  replace HSc := (HSc.ext e103).ext e104
  replace EL1 := (EL1.trans e103.keep).trans e104.keep
  replace HSm := (HSm.ext e103).ext e104
  replace HOx := (HOx.ext e103).ext e104
  replace HOo := (HOo.ext e103).ext e104
  replace HPq := HPq.ext e104
  replace HGa := HGa.ext e104
  refine l_nil (n_then (c_cond rfl rfl (fun hc2 => ?_) (fun hc2 => ?_)))
  ·
   refine c_seq (wp_reg zd (l_v (v_assign rfl) (l_nil (n_then (c_ret (r_then (r_blk (r_then (r_then ?_)))))))))
   refine r_blk (r_then (ret1v rfl zq (zvB rfl) ?_))
   exact ⟨rfl, E⟩
  have hma : mayAk a = true := by cases h : mayAk a <;> simp_all
  refine c_skip (n_then (c_seq (wp_reg zd (l_v (v_assign rfl) (l_nil (n_then (c_seq (c_seq (wp_reg zd ?_)))))))))
  refine l_v (zmI rfl) (l_v (zmS rfl) (l_v (v_len (et := 3) zk rfl) ?_))
  refine l_v (v_lss rfl rfl) ?_
  refine l_nil (n_then (c_cond rfl rfl (fun hc3 => ?_) (fun hc3 => ?_)))
  ·
   have hc3 := dtrue hc3
   obtain ⟨y, hy, _⟩ := getE (l := cl) (i := i) zo
   obtain ⟨qc, csc, hqc, hFc, _, HPc, hrc⟩ := HSc.el hy
   subst hqc
   obtain ⟨rfl, _⟩ := hrc
   obtain ⟨z, hz0, hz3, hz⟩ := and3 y
   refine wp_reg zd (l_v (zmS rfl) (l_v (zmI rfl) (l_v (v_indexAddr (et := 3) (sz := 1) (k := i) zk zk rfl rfl (by first | rfl | omega) zo) ?_)))
   refine l_v (v_load zk rfl (by first | exact pv_1 HPc | exact pv_1 HPq | assumption)) ?_
   refine l_v (v_band (t := z) rfl rfl (hz)) ?_
   have hmm := mQ_may Q [] rfl hok
   obtain ⟨n8, hn8⟩ : ∃ n, n = w104.heap.size := ⟨_, rfl⟩
   refine l_v (v_add rfl rfl (by first | exact wr_i64 zo zo | rfl)) ?_
   refine l_v (zaI rfl) (l_nil (n_then (c_seq (wp_reg zd (l_v (zmS rfl) (l_v (zmS rfl) (l_v (zmI rfl) (l_v (v_indexAddr (et := 28) (sz := 7) (k := i) zk zk rfl rfl (by first | rfl | omega) zo) ?_))))))))
   refine l_v (v_loadA zk rfl (by first | exact HPq | assumption) rfl) ?_
   refine l_to (to_f2 zk (zvS rfl) (zvA rfl) (CallsR.mono (Do_c (F := fun b => (F b ∧ b < n0) ∨ ((n0 ≤ b ∧ ¬ X b ∧ ¬ O b) ∧ b < n8)) (HSm.mono fun b _ h => .inr ⟨h.1, by omega⟩) (HGa.mono fun b _ h => .inl h) hmm zo hma) ?_))
   rintro _ w7 ⟨u, x, rfl, HSu, HGx, e7⟩
   have := e7.size
   obtain ⟨u1, u2, rfl⟩ := HSu.shape
   obtain ⟨x1, y1, x2, y2, rfl, _⟩ := HGx.an
   have HSp : SlV tPr _ _ _ (doM (mQ [] Q) a).1 := Imp.sl (Imp.pair Imp.by Imp.by) HSu
   obtain ⟨n9, hn9⟩ : ∃ n, n = w7.heap.size := ⟨_, rfl⟩
   replace HSp := HSp.mono (F' := fun b => n8 ≤ b ∧ b < n9) fun b hb h => ⟨by omega, by omega⟩
   replace E := E.trans e7.keep
   replace HSl := HSl.ext e7
   replace HSc := HSc.ext e7
   replace EL1 := EL1.trans e7.keep
   replace HPq := HPq.ext e7
   replace HGa := HGa.ext e7
   replace HSm := HSm.ext e7
   replace HOx := HOx.ext e7
   replace HOo := HOo.ext e7
   replace HGx := HGx.mono (F' := fun b => (F b ∧ b < n0) ∨ ((n0 ≤ b ∧ ¬ X b ∧ ¬ O b) ∧ b < n8) ∨ (n8 ≤ b ∧ b < n9)) fun b hb h => by
    rcases h with (h | h) | h
    ·
     exact .inl h
    ·
     exact .inr (.inl h)
    exact .inr (.inr ⟨by omega, by omega⟩)
   refine l_v (zmT rfl) (l_v (v_extract (t := .slice _ _ _) rfl rfl) (l_v (v_extract (t := .agg _) rfl rfl) (l_v (v_extract (t := .int _ _) rfl rfl) (l_to (to_alloc (z := (.agg #[.int .i64 0, .slice none 0 0, .slice none 0 0])) (by unfold kZero; kernel_rfl) ?_)))))
   rintro b13 w13 zb13 HB13 e13 z13
   have := e13.size
   try simp only [Value.cells] at HB13
   refine l_v (zaS rfl) (l_to (to_storeA (n := 3) rfl rfl (zvA rfl) zk rfl dj6 HB13 dj5 ?_))
   rintro w105 HX105 k105 z105
   have := k105.size
   replace HB13 := HX105
   clear HX105
   try simp only [zS, Nat.zero_add, Nat.reduceAdd, List.drop_nil] at HB13
   refine l_v (zaI rfl) (l_nil (n_then (c_seq (c_seq (wp_regd (NoK) zk zd zd ?_)))))
   refine rt_v (fun vals w hR hd => zmI rfl) ?_
   refine rt_vf (fun vals w hR hd => to_f1 zk (hd 0 rfl) (num_c)) ?_
   refine rt_v (fun vals w hR hd => v_neq (hd 1 rfl) rfl) ?_
   refine rt_v (fun vals w hR hd => v_move (t := .bool _) (hd 2 rfl)) ?_
   refine rt_g1 rfl (fun vals w hd => hd 3 rfl) (fun vals w hR hd hG => zmS rfl) ?_
   refine rt_g1 rfl (fun vals w hd => hd 3 rfl) (fun vals w hR hd hG => zmS rfl) ?_
   refine rt_g1 rfl (fun vals w hd => hd 3 rfl) (fun vals w hR hd hG => zmI rfl) ?_
   refine rt_g1 rfl (fun vals w hd => hd 3 rfl) (fun vals w hR hd hG => v_indexAddr (et := 28) (sz := 7) (k := i) zk zk (gd hG (hd 5 rfl)) (gd hG (hd 6 rfl)) (by first | rfl | omega) zo) ?_
   replace HPq := (HPq.ext e13).keep k105 (by intro h; (try dsimp only at h); (try simp only [add_block] at h); first | omega)
   refine rt_g1 rfl (fun vals w hd => hd 3 rfl) (fun vals w hR hd hG => v_loadA zk (gd hG (hd 7 rfl)) (by first | exact (HB13.ext hR).pv | exact (HPq.ext hR) | assumption) rfl) ?_
   refine rt_g1 rfl (fun vals w hd => hd 3 rfl) (fun vals w hR hd hG => v_loadA zk rfl (by first | exact (HB13.ext hR).pv | exact (HPq.ext hR) | assumption) rfl) ?_
   replace HGa := (HGa.ext e13).keep k105 dj1
   replace HSm := (HSm.ext e13).keep k105 dj1
   replace HGx := (HGx.ext e13).keep k105 dj1
   refine rt_g1f rfl (fun vals w hd => hd 3 rfl) (fun vals w hR hd hG => to_f3 zk (gd hG (hd 4 rfl)) (gd hG (hd 8 rfl)) (gd hG (hd 9 rfl)) (Fits_c (F := AllB) ((HSm.ext hR).mono fun _ _ _ => trivial) ((HGa.ext hR).mono fun _ _ _ => trivial) (HGx.ext hR) zo)) ?_
   refine rt_g1 rfl (fun vals w hd => hd 3 rfl) (fun vals w hR hd hG => v_not (gd hG (hd 10 rfl))) ?_
   refine rt_v (fun vals w hR hd => v_or (hd 3 rfl) (hd 11 rfl)) ?_
   refine rt_nil (fun w106 e106 => ?_)
   replace HSl := (HSl.ext e13).keep k105 dj1
   replace HSc := (HSc.ext e13).keep k105 dj1
   replace HOx := (HOx.ext e13).keep k105 (by intro i ho he; have he0 := he; have ho0 := ho; (try dsimp only [NoK] at he); (try simp only [Value.ownBlock, Option.some.injEq, reduceCtorEq] at ho); (try simp only [Value.ownBlock, Option.some.injEq, reduceCtorEq] at he); first | exact he.elim | exact ho.elim | omega | (have := zo_HOx _ ho0; omega)) (by intro i _ hi _ he; have he0 := he; have hi := hi; have he := he; (try dsimp only [NoK, AllB] at hi he); (try simp only [Value.ownBlock, Option.some.injEq, reduceCtorEq] at he); all_goals first | exact hi.elim | exact hi.1.elim | exact he.elim | omega | (rcases hi with hi | hi <;> omega) | (rcases he with he | he <;> omega))
   replace HOo := (HOo.ext e13).keep k105 (by intro i ho he; have he0 := he; have ho0 := ho; (try dsimp only [NoK] at he); (try simp only [Value.ownBlock, Option.some.injEq, reduceCtorEq] at ho); (try simp only [Value.ownBlock, Option.some.injEq, reduceCtorEq] at he); first | exact he.elim | exact ho.elim | omega | (have := zo_HOo _ ho0; omega)) (by intro i _ hi _ he; have he0 := he; have hi := hi; have he := he; (try dsimp only [NoK, AllB] at hi he); (try simp only [Value.ownBlock, Option.some.injEq, reduceCtorEq] at he); all_goals first | exact hi.elim | exact hi.1.elim | exact he.elim | omega | (rcases hi with hi | hi <;> omega) | (rcases he with he | he <;> omega))
   replace HSp := (HSp.ext e13).keep k105 dj1
   rintro _ rfl _ rfl _ rfl _ rfl _ rfl _ rfl _ rfl _ rfl _ rfl _ rfl _ rfl _ rfl _ rfl
   have := e106.size
   replace E := ((E.trans e13.keep).step k105 dj3).trans e106.keep
   replace EL1 := ((EL1.trans e13.keep).step k105 dj3).trans e106.keep
   replace HSl := HSl.ext e106
   replace HSc := HSc.ext e106
   replace HPq := HPq.ext e106
   replace HGa := HGa.ext e106
   replace HSm := HSm.ext e106
   replace HOx := HOx.ext e106
   replace HOo := HOo.ext e106
   replace HSp := HSp.ext e106
   replace HGx := HGx.ext e106
   replace HB13 := HB13.ext e106
   refine fin_nil (n_then (c_cond rfl rfl (fun hc6 => ?_) (fun hc6 => ?_)))
   ·
    rw [fitsM_own hmm hma] at hc6; simp at hc6
   have hQi : (evQ 0 Q).length = 2 * i := by rw [evQ_len, hQl]
   have hil : (intsN (List.range' 0 i)).length = i := by simp [intsN]
   have hsnoc : intsN (List.range' 0 i) ++ [(i : Int)] = intsN (List.range' 0 (i + 1)) := by rw [List.range'_1_concat]; simp [intsN]
   refine c_skip (n_then (c_seq (wp_reg zd (l_v (zmS rfl) (l_v (zaS rfl) (l_nil (n_then (c_seq (wp_reg zd ?_)))))))))
   refine l_v (zmS rfl) (l_v (zmI rfl) (l_to (to_slice1 (t := tInt .i64) (et := 3) (bytes := 8) zk zq (zvI rfl) ((show (tInt .i64).rep _ NoK [.int .i64 (i : Int)] (i : Int) from ⟨rfl, wf_of_i64 ⟨by omega, by omega⟩⟩)) ?_)))
   rintro b14 w14 zb14 HO14 e14 z14
   have := e14.size
   have zo_HO14 := fun (b : Nat) h => HO14.own_lt (b := b) h
   replace HOo := HOo.ext e14
   refine l_to (to_append (et := 3) (bytes := 8) zk (zvS rfl) HOo (zvS rfl) HO14.view ((fun cs z h => h)) (by first | omega | (simp; done) | (simp; omega)) (by simp only [maxLen]; first | omega | (simp; done) | (simp; omega)) zo ?_)
   rintro a15 n15 c15 w15 HO15 hn15 k15 h15 i15
   have := k15.size
   rw [hsnoc] at HO15
   obtain rfl : n15 = i + 1 := by rw [hn15, List.length_append, hil]; rfl
   have zo_HO15 := fun (b : Nat) h => HO15.own_lt (b := b) h
   have hz15 : ∀ b, (Value.slice a15 (i + 1) c15).ownBlock = some b → b < w15.heap.size ∧ (O b ∨ n9 < b) := fun b h => ⟨(HO15.own_lt h).2, (h15 b h).elim (fun h => .inl ((hO b).2 h)) (fun h => .inr zo)⟩
   replace E := (E.trans e14.keep).step k15 (by intro i hi he; have he0 := he; (try dsimp only [NoK] at hi he ⊢); (try simp only [Value.ownBlock, Option.some.injEq] at he); first | exact he.elim | omega | exact he | (have := (HOo).own_lt he0; omega) | (have := zo_HOo _ he0; omega) | (have := (HOo).own_lt he0; rcases hi with hi | hi <;> omega) | (first | exact hxo _ ((hX _).2 ho0) ((hO _).2 he0) | (rcases hi with h | h | h; exact absurd h.1.2.2 (fun k => k ((hO _).2 he0)); (have := zO _ ((hO _).2 he0); omega); (have := zO _ ((hO _).2 he0); omega)) | (rcases hi with h | h | h; (have := zO _ ((hO _).2 he0); omega); exact h.1.2.2 ((hO _).2 he0); (have := zO _ ((hO _).2 he0); omega)) | (rcases hi with h | h; (have := zO _ ((hO _).2 he0); omega); exact h.1.2.2 ((hO _).2 he0)) | exact hi.1.2.2 ((hO _).2 he0) | (have := zO _ ((hO _).2 he0); omega)))
   replace HSl := (HSl.ext e14).keep k15 (by intro i _ hi he; have he0 := he; (try dsimp only [NoK, AllB] at hi he); (try simp only [Value.ownBlock, Option.some.injEq] at he); first | exact hi.elim | exact he.elim | omega | (rcases hi with hi | hi <;> omega) | (rcases he with he | he <;> omega) | (have := (HOo).own_lt he0; omega) | (have := zo_HOo _ he0; omega) | (have := (HOo).own_lt he0; rcases hi with hi | hi <;> omega) | (first | exact hxo _ ((hX _).2 ho0) ((hO _).2 he0) | (rcases hi with h | h | h; exact absurd h.1.2.2 (fun k => k ((hO _).2 he0)); (have := zO _ ((hO _).2 he0); omega); (have := zO _ ((hO _).2 he0); omega)) | (rcases hi with h | h | h; (have := zO _ ((hO _).2 he0); omega); exact h.1.2.2 ((hO _).2 he0); (have := zO _ ((hO _).2 he0); omega)) | (rcases hi with h | h; (have := zO _ ((hO _).2 he0); omega); exact h.1.2.2 ((hO _).2 he0)) | exact hi.1.2.2 ((hO _).2 he0) | (have := zO _ ((hO _).2 he0); omega)))
   replace HSc := (HSc.ext e14).keep k15 (by intro i _ hi he; have he0 := he; (try dsimp only [NoK, AllB] at hi he); (try simp only [Value.ownBlock, Option.some.injEq] at he); first | exact hi.elim | exact he.elim | omega | (rcases hi with hi | hi <;> omega) | (rcases he with he | he <;> omega) | (have := (HOo).own_lt he0; omega) | (have := zo_HOo _ he0; omega) | (have := (HOo).own_lt he0; rcases hi with hi | hi <;> omega) | (first | exact hxo _ ((hX _).2 ho0) ((hO _).2 he0) | (rcases hi with h | h | h; exact absurd h.1.2.2 (fun k => k ((hO _).2 he0)); (have := zO _ ((hO _).2 he0); omega); (have := zO _ ((hO _).2 he0); omega)) | (rcases hi with h | h | h; (have := zO _ ((hO _).2 he0); omega); exact h.1.2.2 ((hO _).2 he0); (have := zO _ ((hO _).2 he0); omega)) | (rcases hi with h | h; (have := zO _ ((hO _).2 he0); omega); exact h.1.2.2 ((hO _).2 he0)) | exact hi.1.2.2 ((hO _).2 he0) | (have := zO _ ((hO _).2 he0); omega)))
   replace EL1 := (EL1.trans e14.keep).step k15 (by intro i hi he; have he0 := he; (try dsimp only [NoK] at hi he ⊢); (try simp only [Value.ownBlock, Option.some.injEq] at he); first | exact he.elim | omega | exact he | (have := (HOo).own_lt he0; omega) | (have := zo_HOo _ he0; omega) | (have := (HOo).own_lt he0; rcases hi with hi | hi <;> omega) | (first | exact hxo _ ((hX _).2 ho0) ((hO _).2 he0) | (rcases hi with h | h | h; exact absurd h.1.2.2 (fun k => k ((hO _).2 he0)); (have := zO _ ((hO _).2 he0); omega); (have := zO _ ((hO _).2 he0); omega)) | (rcases hi with h | h | h; (have := zO _ ((hO _).2 he0); omega); exact h.1.2.2 ((hO _).2 he0); (have := zO _ ((hO _).2 he0); omega)) | (rcases hi with h | h; (have := zO _ ((hO _).2 he0); omega); exact h.1.2.2 ((hO _).2 he0)) | exact hi.1.2.2 ((hO _).2 he0) | (have := zO _ ((hO _).2 he0); omega)))
   replace HPq := (HPq.ext e14).keep k15 (by intro h; have he0 := h; (try dsimp only at h); (try simp only [Value.ownBlock, Option.some.injEq] at h); (try simp only [add_block] at h); (try simp only [add_block] at he0); first | omega | (have := (HOo).own_lt he0; omega) | (have := zo_HOo _ he0; omega) | (have he := he0; first | exact hxo _ ((hX _).2 ho0) ((hO _).2 he0) | (rcases hi with h | h | h; exact absurd h.1.2.2 (fun k => k ((hO _).2 he0)); (have := zO _ ((hO _).2 he0); omega); (have := zO _ ((hO _).2 he0); omega)) | (rcases hi with h | h | h; (have := zO _ ((hO _).2 he0); omega); exact h.1.2.2 ((hO _).2 he0); (have := zO _ ((hO _).2 he0); omega)) | (rcases hi with h | h; (have := zO _ ((hO _).2 he0); omega); exact h.1.2.2 ((hO _).2 he0)) | exact hi.1.2.2 ((hO _).2 he0) | (have := zO _ ((hO _).2 he0); omega)))
   replace HGa := (HGa.ext e14).keep k15 (by intro i _ hi he; have he0 := he; (try dsimp only [NoK, AllB] at hi he); (try simp only [Value.ownBlock, Option.some.injEq] at he); first | exact hi.elim | exact he.elim | omega | (rcases hi with hi | hi <;> omega) | (rcases he with he | he <;> omega) | (have := (HOo).own_lt he0; omega) | (have := zo_HOo _ he0; omega) | (have := (HOo).own_lt he0; rcases hi with hi | hi <;> omega) | (first | exact hxo _ ((hX _).2 ho0) ((hO _).2 he0) | (rcases hi with h | h | h; exact absurd h.1.2.2 (fun k => k ((hO _).2 he0)); (have := zO _ ((hO _).2 he0); omega); (have := zO _ ((hO _).2 he0); omega)) | (rcases hi with h | h | h; (have := zO _ ((hO _).2 he0); omega); exact h.1.2.2 ((hO _).2 he0); (have := zO _ ((hO _).2 he0); omega)) | (rcases hi with h | h; (have := zO _ ((hO _).2 he0); omega); exact h.1.2.2 ((hO _).2 he0)) | exact hi.1.2.2 ((hO _).2 he0) | (have := zO _ ((hO _).2 he0); omega)))
   replace HOx := (HOx.ext e14).keep k15 (by intro i ho he; have he0 := he; have ho0 := ho; (try dsimp only [NoK] at he); (try simp only [Value.ownBlock, Option.some.injEq, reduceCtorEq] at ho); (try simp only [Value.ownBlock, Option.some.injEq, reduceCtorEq] at he); first | exact he.elim | exact ho.elim | omega | (have := zo_HOx _ ho0; omega) | (have := (HOo).own_lt he0; omega) | (have := zo_HOo _ he0; omega) | (first | exact hxo _ ((hX _).2 ho0) ((hO _).2 he0) | (rcases hi with h | h | h; exact absurd h.1.2.2 (fun k => k ((hO _).2 he0)); (have := zO _ ((hO _).2 he0); omega); (have := zO _ ((hO _).2 he0); omega)) | (rcases hi with h | h | h; (have := zO _ ((hO _).2 he0); omega); exact h.1.2.2 ((hO _).2 he0); (have := zO _ ((hO _).2 he0); omega)) | (rcases hi with h | h; (have := zO _ ((hO _).2 he0); omega); exact h.1.2.2 ((hO _).2 he0)) | exact hi.1.2.2 ((hO _).2 he0) | (have := zO _ ((hO _).2 he0); omega)) | (have := zo_HOx _ ho0; have := (HOo).own_lt he0; omega)) (by intro i _ hi _ he; have he0 := he; have hi := hi; have he := he; (try dsimp only [NoK, AllB] at hi he); (try simp only [Value.ownBlock, Option.some.injEq, reduceCtorEq] at he); all_goals first | exact hi.elim | exact hi.1.elim | exact he.elim | omega | (rcases hi with hi | hi <;> omega) | (rcases he with he | he <;> omega) | (have := (HOo).own_lt he0; omega) | (have := zo_HOo _ he0; omega) | (have := (HOo).own_lt he0; rcases hi with hi | hi <;> omega) | (first | exact hxo _ ((hX _).2 ho0) ((hO _).2 he0) | (rcases hi with h | h | h; exact absurd h.1.2.2 (fun k => k ((hO _).2 he0)); (have := zO _ ((hO _).2 he0); omega); (have := zO _ ((hO _).2 he0); omega)) | (rcases hi with h | h | h; (have := zO _ ((hO _).2 he0); omega); exact h.1.2.2 ((hO _).2 he0); (have := zO _ ((hO _).2 he0); omega)) | (rcases hi with h | h; (have := zO _ ((hO _).2 he0); omega); exact h.1.2.2 ((hO _).2 he0)) | exact hi.1.2.2 ((hO _).2 he0) | (have := zO _ ((hO _).2 he0); omega)))
   replace HSp := (HSp.ext e14).keep k15 (by intro i _ hi he; have he0 := he; (try dsimp only [NoK, AllB] at hi he); (try simp only [Value.ownBlock, Option.some.injEq] at he); first | exact hi.elim | exact he.elim | omega | (rcases hi with hi | hi <;> omega) | (rcases he with he | he <;> omega) | (have := (HOo).own_lt he0; omega) | (have := zo_HOo _ he0; omega) | (have := (HOo).own_lt he0; rcases hi with hi | hi <;> omega) | (first | exact hxo _ ((hX _).2 ho0) ((hO _).2 he0) | (rcases hi with h | h | h; exact absurd h.1.2.2 (fun k => k ((hO _).2 he0)); (have := zO _ ((hO _).2 he0); omega); (have := zO _ ((hO _).2 he0); omega)) | (rcases hi with h | h | h; (have := zO _ ((hO _).2 he0); omega); exact h.1.2.2 ((hO _).2 he0); (have := zO _ ((hO _).2 he0); omega)) | (rcases hi with h | h; (have := zO _ ((hO _).2 he0); omega); exact h.1.2.2 ((hO _).2 he0)) | exact hi.1.2.2 ((hO _).2 he0) | (have := zO _ ((hO _).2 he0); omega)))
   replace HGx := (HGx.ext e14).keep k15 (by intro i _ hi he; have he0 := he; (try dsimp only [NoK, AllB] at hi he); (try simp only [Value.ownBlock, Option.some.injEq] at he); first | exact hi.elim | exact he.elim | omega | (rcases hi with hi | hi <;> omega) | (rcases he with he | he <;> omega) | (have := (HOo).own_lt he0; omega) | (have := zo_HOo _ he0; omega) | (have := (HOo).own_lt he0; rcases hi with hi | hi <;> omega) | (first | exact hxo _ ((hX _).2 ho0) ((hO _).2 he0) | (rcases hi with h | h | h; exact absurd h.1.2.2 (fun k => k ((hO _).2 he0)); (have := zO _ ((hO _).2 he0); omega); (have := zO _ ((hO _).2 he0); omega)) | (rcases hi with h | h | h; (have := zO _ ((hO _).2 he0); omega); exact h.1.2.2 ((hO _).2 he0); (have := zO _ ((hO _).2 he0); omega)) | (rcases hi with h | h; (have := zO _ ((hO _).2 he0); omega); exact h.1.2.2 ((hO _).2 he0)) | exact hi.1.2.2 ((hO _).2 he0) | (have := zO _ ((hO _).2 he0); omega)))
   replace HB13 := (HB13.ext e14).keep k15 (by intro h; have he0 := h; (try dsimp only at h); (try simp only [Value.ownBlock, Option.some.injEq] at h); first | omega | (have := (HOo).own_lt he0; omega) | (have := zo_HOo _ he0; omega) | (have he := he0; first | exact hxo _ ((hX _).2 ho0) ((hO _).2 he0) | (rcases hi with h | h | h; exact absurd h.1.2.2 (fun k => k ((hO _).2 he0)); (have := zO _ ((hO _).2 he0); omega); (have := zO _ ((hO _).2 he0); omega)) | (rcases hi with h | h | h; (have := zO _ ((hO _).2 he0); omega); exact h.1.2.2 ((hO _).2 he0); (have := zO _ ((hO _).2 he0); omega)) | (rcases hi with h | h; (have := zO _ ((hO _).2 he0); omega); exact h.1.2.2 ((hO _).2 he0)) | exact hi.1.2.2 ((hO _).2 he0) | (have := zO _ ((hO _).2 he0); omega)))
   replace HO14 := HO14.keep k15 (by intro i ho he; have he0 := he; have ho0 := ho; (try dsimp only [NoK] at he); (try simp only [Value.ownBlock, Option.some.injEq, reduceCtorEq] at ho); (try simp only [Value.ownBlock, Option.some.injEq, reduceCtorEq] at he); first | exact he.elim | exact ho.elim | omega | (have := zo_HO14 _ ho0; omega) | (have := (HOo).own_lt he0; omega) | (have := zo_HOo _ he0; omega) | (first | exact hxo _ ((hX _).2 ho0) ((hO _).2 he0) | (rcases hi with h | h | h; exact absurd h.1.2.2 (fun k => k ((hO _).2 he0)); (have := zO _ ((hO _).2 he0); omega); (have := zO _ ((hO _).2 he0); omega)) | (rcases hi with h | h | h; (have := zO _ ((hO _).2 he0); omega); exact h.1.2.2 ((hO _).2 he0); (have := zO _ ((hO _).2 he0); omega)) | (rcases hi with h | h; (have := zO _ ((hO _).2 he0); omega); exact h.1.2.2 ((hO _).2 he0)) | exact hi.1.2.2 ((hO _).2 he0) | (have := zO _ ((hO _).2 he0); omega)) | (have := zo_HO14 _ ho0; have := (HOo).own_lt he0; omega)) (by intro i _ hi _ he; have he0 := he; have hi := hi; have he := he; (try dsimp only [NoK, AllB] at hi he); (try simp only [Value.ownBlock, Option.some.injEq, reduceCtorEq] at he); all_goals first | exact hi.elim | exact hi.1.elim | exact he.elim | omega | (rcases hi with hi | hi <;> omega) | (rcases he with he | he <;> omega) | (have := (HOo).own_lt he0; omega) | (have := zo_HOo _ he0; omega) | (have := (HOo).own_lt he0; rcases hi with hi | hi <;> omega) | (first | exact hxo _ ((hX _).2 ho0) ((hO _).2 he0) | (rcases hi with h | h | h; exact absurd h.1.2.2 (fun k => k ((hO _).2 he0)); (have := zO _ ((hO _).2 he0); omega); (have := zO _ ((hO _).2 he0); omega)) | (rcases hi with h | h | h; (have := zO _ ((hO _).2 he0); omega); exact h.1.2.2 ((hO _).2 he0); (have := zO _ ((hO _).2 he0); omega)) | (rcases hi with h | h; (have := zO _ ((hO _).2 he0); omega); exact h.1.2.2 ((hO _).2 he0)) | exact hi.1.2.2 ((hO _).2 he0) | (have := zO _ ((hO _).2 he0); omega)))
   obtain ⟨nb, hnb⟩ : ∃ n, n = w15.heap.size := ⟨_, rfl⟩
   refine l_v (zaS rfl) (l_nil (n_then (wp_any zk ?_)))
   have e107 : Ext w15 { w15 with drawn := w15.drawn + 1 } := Keep.drawn _ _
   generalize hw107 : ({ w15 with drawn := w15.drawn + 1 } : World) = w107 at e107 ⊢
   clear hw107
   have := e107.size
   refine r_cut 15 rfl zd zd zd ?_
   refine wp_regdW (NoK) zd zd ?_
   refine rt_v (fun vals w hR hd => zmS rfl) ?_
   refine rt_v (fun vals w hR hd => zmI rfl) ?_
   refine rt_v (fun vals w hR hd => zmI rfl) ?_
   refine rt_v (fun vals w hR hd => v_add (hd 2 rfl) rfl (by first | exact wr_i64 zo zo | rfl)) ?_
   refine rt_v (fun vals w hR hd => zmS rfl) ?_
   refine rt_v (fun vals w hR hd => zmI rfl) ?_
   refine rt_v (fun vals w hR hd => v_indexAddr (et := 28) (sz := 7) (k := i) zk zk (hd 4 rfl) (hd 5 rfl) (by first | rfl | omega) zo) ?_
   replace HPq := HPq.ext e107
   replace HB13 := HB13.ext e107
   refine rt_v (fun vals w hR hd => v_loadA zk (hd 6 rfl) (by first | exact (HB13.ext hR).pv | exact (HPq.ext hR) | assumption) rfl) ?_
   refine rt_v (fun vals w hR hd => v_build (pl := [(0, 1), (1, 1), (2, 1), (3, 7), (10, 3)]) (z := .agg #[.int .i64 0, .int .i64 0, .int .i64 0, .int .i64 0, .slice none 0 0, .slice none 0 0, .slice none 0 0, .slice none 0 0, .bool false, .int .i64 0, .int .i64 0, .slice none 0 0, .slice none 0 0]) (zl := [.int .i64 0, .int .i64 0, .int .i64 0, .int .i64 0, .slice none 0 0, .slice none 0 0, .slice none 0 0, .slice none 0 0, .bool false, .int .i64 0, .int .i64 0, .slice none 0 0, .slice none 0 0]) (ps := [(0, .int .i64 1), (1, .int .i64 (1 + z)), (2, .int .i64 ((i : Int) + 1)), (3, .agg #[.int .i64 a.1, .slice g1 a.2.1.length f1, .slice g2 a.2.2.1.length f2, .slice g3 a.2.2.2.1.length f3, .slice g4 a.2.2.2.2.1.length f4, .bool a.2.2.2.2.2.1, .int .i64 a.2.2.2.2.2.2])]) zk (by unfold kZero; kernel_rfl) rfl (by refine parts4 (v0 := .int .i64 1) (v1 := .int .i64 (1 + z)) (v2 := .int .i64 ((i : Int) + 1)) (v3 := .agg #[.int .i64 a.1, .slice g1 a.2.1.length f1, .slice g2 a.2.2.1.length f2, .slice g3 a.2.2.2.1.length f3, .slice g4 a.2.2.2.2.1.length f4, .bool a.2.2.2.2.2.1, .int .i64 a.2.2.2.2.2.2]) ?_ ?_ ?_ ?_; exact rfl; exact (hd 1 rfl); exact (hd 3 rfl); exact (hd 7 rfl)) (cells := [.int .i64 1, .int .i64 (1 + z), .int .i64 ((i : Int) + 1), .int .i64 a.1, .slice g1 a.2.1.length f1, .slice g2 a.2.2.1.length f2, .slice g3 a.2.2.2.1.length f3, .slice g4 a.2.2.2.2.1.length f4, .bool a.2.2.2.2.2.1, .int .i64 a.2.2.2.2.2.2, .int .i64 0, .slice none 0 0, .slice none 0 0]) rfl) ?_
   refine rt_v (fun vals w hR hd => zmI rfl) ?_
   refine rt_v (fun vals w hR hd => zmI rfl) ?_
   refine rt_v (fun vals w hR hd => v_add (hd 10 rfl) rfl (by first | exact wr_i64 zo zo | rfl)) ?_
   refine rt_v (fun vals w hR hd => v_loadA zk rfl (by first | exact (HB13.ext hR).pv | exact (HPq.ext hR) | assumption) rfl) ?_
   refine rt_v (fun vals w hR hd => v_build (pl := [(0, 1), (1, 1), (2, 1), (3, 7), (10, 3)]) (z := .agg #[.int .i64 0, .int .i64 0, .int .i64 0, .int .i64 0, .slice none 0 0, .slice none 0 0, .slice none 0 0, .slice none 0 0, .bool false, .int .i64 0, .int .i64 0, .slice none 0 0, .slice none 0 0]) (zl := [.int .i64 0, .int .i64 0, .int .i64 0, .int .i64 0, .slice none 0 0, .slice none 0 0, .slice none 0 0, .slice none 0 0, .bool false, .int .i64 0, .int .i64 0, .slice none 0 0, .slice none 0 0]) (ps := [(0, .int .i64 2), (1, .int .i64 (1 + z)), (2, .int .i64 ((i : Int) + 1)), (4, .agg #[.int .i64 (doM (mQ [] Q) a).2.1, .slice x1 (doM (mQ [] Q) a).2.2.1.length y1, .slice x2 (doM (mQ [] Q) a).2.2.2.length y2])]) zk (by unfold kZero; kernel_rfl) rfl (by refine parts4 (v0 := .int .i64 2) (v1 := .int .i64 (1 + z)) (v2 := .int .i64 ((i : Int) + 1)) (v3 := .agg #[.int .i64 (doM (mQ [] Q) a).2.1, .slice x1 (doM (mQ [] Q) a).2.2.1.length y1, .slice x2 (doM (mQ [] Q) a).2.2.2.length y2]) ?_ ?_ ?_ ?_; exact rfl; exact (hd 9 rfl); exact (hd 11 rfl); exact (hd 12 rfl)) (cells := [.int .i64 2, .int .i64 (1 + z), .int .i64 ((i : Int) + 1), .int .i64 0, .slice none 0 0, .slice none 0 0, .slice none 0 0, .slice none 0 0, .bool false, .int .i64 0, .int .i64 (doM (mQ [] Q) a).2.1, .slice x1 (doM (mQ [] Q) a).2.2.1.length y1, .slice x2 (doM (mQ [] Q) a).2.2.2.length y2]) rfl) ?_
   replace HGa := HGa.ext e107
   replace HGx := HGx.ext e107
   refine rt_to (fun v W => SlV tEv W (fun b => (F b ∧ b < n0) ∨ ((n0 ≤ b ∧ ¬ X b ∧ ¬ O b) ∧ b < n8) ∨ (n8 ≤ b ∧ b < n9) ∨ nb ≤ b) v [(1, (1 + z), (i : Int) + 1, a, an0), (2, (1 + z), (i : Int) + 1, ak0, (doM (mQ [] Q) a).2)]) (fun v w w' h k => h.ext k) (fun vals w hR hd => to_sliceAg (t := tEv) (F := fun b => (F b ∧ b < n0) ∨ ((n0 ≤ b ∧ ¬ X b ∧ ¬ O b) ∧ b < n8) ∨ (n8 ≤ b ∧ b < n9)) (xs := [(1, (1 + z), (i : Int) + 1, a, an0), (2, (1 + z), (i : Int) + 1, ak0, (doM (mQ [] Q) a).2)]) (vs := [_, _]) (et := 44) (bytes := 200) (zl := (List.replicate 2 ([.int .i64 0, .int .i64 0, .int .i64 0, .int .i64 0, .slice none 0 0, .slice none 0 0, .slice none 0 0, .slice none 0 0, .bool false, .int .i64 0, .int .i64 0, .slice none 0 0, .slice none 0 0] : List Value)).flatten) zk zq zq (by unfold kZeros; kernel_rfl) rfl (parts2 (hd 8 rfl) (hd 13 rfl)) rfl ⟨⟨_, rfl, tEv_mk (AgV.cells ((HGa.ext hR).mono fun b _ h => .inl h)) (tAn_mk (SlV.nil _ _ _) (SlV.nil _ _ _) ⟨by decide, by decide⟩) ⟨by decide, by decide⟩ ⟨by omega, by omega⟩ ⟨by omega, by omega⟩⟩, ⟨_, rfl, tEv_mk (tAk_mk (SlV.nil _ _ _) (SlV.nil _ _ _) (SlV.nil _ _ _) (SlV.nil _ _ _) ⟨by decide, by decide⟩ ⟨by decide, by decide⟩) (AgV.cells (HGx.ext hR)) ⟨by decide, by decide⟩ ⟨by omega, by omega⟩ ⟨by omega, by omega⟩⟩, trivial⟩ (fun b w1 hb HO e z => ⟨e, HO.view.mono fun b _ hb => by have := hR.size; exact hb.elim (fun h => .inr (.inr (.inr zo))) (fun h => h.1.elim .inl (fun h => .inr (h.elim .inl (fun h => .inr (.inl h)))))⟩)) ?_
   refine rt_nil (fun w108 e108 => ?_)
   rintro _ rfl _ rfl _ rfl _ rfl _ rfl _ rfl _ rfl _ rfl _ rfl _ rfl _ rfl _ rfl _ rfl _ rfl v35 HS35
   have := e108.size
   have HS35 : SlV tEv _ (fun b => (F b ∧ b < n0) ∨ ((n0 ≤ b ∧ ¬ X b ∧ ¬ O b) ∧ b < n8) ∨ (n8 ≤ b ∧ b < n9) ∨ nb ≤ b) v35 [(1, (1 + z), (i : Int) + 1, a, an0), (2, (1 + z), (i : Int) + 1, ak0, (doM (mQ [] Q) a).2)] := HS35
   obtain ⟨a35, c35, rfl⟩ := HS35.shape
   refine fin_nil (n_then (r_cut 1 rfl zd zd zd ?_))
   refine r_one zd rfl ?_
   obtain ⟨na, hna⟩ : ∃ n, n = w108.heap.size := ⟨_, rfl⟩
   replace HOx := (HOx.ext e107).ext e108
   have HOy := HOx.mono (F' := fun b => (F b ∧ b < n0) ∨ ((n0 ≤ b ∧ ¬ X b ∧ ¬ O b) ∧ b < n8) ∨ (n8 ≤ b ∧ b < n9) ∨ (nb ≤ b ∧ b < na)) fun b hb h => h.imp (fun h => h) (fun h => .inl ⟨h.1, by omega⟩)
   have zo_HOy := zo_HOx
   have zo_HOy := fun (b : Nat) h => HOy.own_lt (b := b) h
   refine l_to (to_append (et := 44) (bytes := 200) zk (zvS rfl) HOy (zvS rfl) HS35 (deepF fun b hb hb2 => ⟨hb2.imp (fun h => h) (fun h => h.imp (fun h => h) (fun h => h.imp (fun h => h) (fun h => ⟨h, by omega⟩))), fun ho => by have := zX _ ((hX _).2 ho); exact hb2.elim (fun h => by omega) (fun h => h.elim (fun h => h.1.2.1 ((hX _).2 ho)) (fun h => h.elim (fun h => by omega) (fun h => by omega)))⟩) (by first | omega | (simp; done) | (simp; omega)) (by simp only [maxLen]; first | omega | (simp; done) | (simp; omega)) zo ?_)
   rintro a29 n29 c29 w29 HO29 hn29 k29 h29 i29
   have := k29.size
   have hev : evQ 0 Q ++ [(1, (1 + z), (i : Int) + 1, a, an0), (2, (1 + z), (i : Int) + 1, ak0, (doM (mQ [] Q) a).2)] = evQ 0 (Q ++ [((1 + z), a, (doM (mQ [] Q) a).2)]) := by rw [evQ_snoc, hQl]
   rw [hev] at HO29
   obtain rfl : n29 = 2 * (i + 1) := by have h := hn29; simp only [List.length_append, List.length_cons, List.length_nil, hQi] at h; omega
   have zo_HO29 := fun (b : Nat) h => HO29.own_lt (b := b) h
   refine l_nil (n_then (r_one zd rfl ?_))
   have hz29 : ∀ b, (Value.slice a29 (2 * (i + 1)) c29).ownBlock = some b → X b ∨ na ≤ b := fun b h => (h29 b h).elim (fun h => .inl ((hX b).2 h)) (fun h => .inr zo)
   have hQ1 : (Q ++ [(((1 + z), a, (doM (mQ [] Q) a).2) : QV)]).length = i + 1 := by simp [hQl]
   have hdn := doM_an hmm hma
   refine l_v (zaS rfl) (l_nil (n_blk (n_then (wp_reg zd (l_v (zmI rfl) (l_v (v_add rfl rfl (by first | exact wr_i64 zo zo | rfl)) ?_))))))
   replace E := ((E.trans e107.keep).trans e108.keep).step k29 (by intro i hi he; have he0 := he; (try dsimp only [NoK] at hi he ⊢); (try simp only [Value.ownBlock, Option.some.injEq] at he); first | exact he.elim | omega | exact he | (have := (HOy).own_lt he0; omega) | (have := zo_HOy _ he0; omega) | (have := (HOy).own_lt he0; rcases hi with hi | hi <;> omega) | (first | (have := zX _ ((hX _).2 he0); omega) | exact (hz15 _ ho0).2.elim (fun k => hxo _ ((hX _).2 he0) k) (fun k => by have := zX _ ((hX _).2 he0); omega) | (rcases hi with h | h | h; (have := zX _ ((hX _).2 he0); omega); exact h.1.2.1 ((hX _).2 he0); (have := zX _ ((hX _).2 he0); omega)) | (rcases hi with h | h | h | h; (have := zX _ ((hX _).2 he0); omega); exact h.1.2.1 ((hX _).2 he0); (have := zX _ ((hX _).2 he0); omega); (have := zX _ ((hX _).2 he0); omega))))
   replace HSl := ((HSl.ext e107).ext e108).keep k29 (by intro i _ hi he; have he0 := he; (try dsimp only [NoK, AllB] at hi he); (try simp only [Value.ownBlock, Option.some.injEq] at he); first | exact hi.elim | exact he.elim | omega | (rcases hi with hi | hi <;> omega) | (rcases he with he | he <;> omega) | (have := (HOy).own_lt he0; omega) | (have := zo_HOy _ he0; omega) | (have := (HOy).own_lt he0; rcases hi with hi | hi <;> omega) | (first | (have := zX _ ((hX _).2 he0); omega) | exact (hz15 _ ho0).2.elim (fun k => hxo _ ((hX _).2 he0) k) (fun k => by have := zX _ ((hX _).2 he0); omega) | (rcases hi with h | h | h; (have := zX _ ((hX _).2 he0); omega); exact h.1.2.1 ((hX _).2 he0); (have := zX _ ((hX _).2 he0); omega)) | (rcases hi with h | h | h | h; (have := zX _ ((hX _).2 he0); omega); exact h.1.2.1 ((hX _).2 he0); (have := zX _ ((hX _).2 he0); omega); (have := zX _ ((hX _).2 he0); omega))))
   replace HSc := ((HSc.ext e107).ext e108).keep k29 (by intro i _ hi he; have he0 := he; (try dsimp only [NoK, AllB] at hi he); (try simp only [Value.ownBlock, Option.some.injEq] at he); first | exact hi.elim | exact he.elim | omega | (rcases hi with hi | hi <;> omega) | (rcases he with he | he <;> omega) | (have := (HOy).own_lt he0; omega) | (have := zo_HOy _ he0; omega) | (have := (HOy).own_lt he0; rcases hi with hi | hi <;> omega) | (first | (have := zX _ ((hX _).2 he0); omega) | exact (hz15 _ ho0).2.elim (fun k => hxo _ ((hX _).2 he0) k) (fun k => by have := zX _ ((hX _).2 he0); omega) | (rcases hi with h | h | h; (have := zX _ ((hX _).2 he0); omega); exact h.1.2.1 ((hX _).2 he0); (have := zX _ ((hX _).2 he0); omega)) | (rcases hi with h | h | h | h; (have := zX _ ((hX _).2 he0); omega); exact h.1.2.1 ((hX _).2 he0); (have := zX _ ((hX _).2 he0); omega); (have := zX _ ((hX _).2 he0); omega))))
   replace EL1 := ((EL1.trans e107.keep).trans e108.keep).step k29 (by intro i hi he; have he0 := he; (try dsimp only [NoK] at hi he ⊢); (try simp only [Value.ownBlock, Option.some.injEq] at he); first | exact he.elim | omega | exact he | (have := (HOy).own_lt he0; omega) | (have := zo_HOy _ he0; omega) | (have := (HOy).own_lt he0; rcases hi with hi | hi <;> omega) | (first | (have := zX _ ((hX _).2 he0); omega) | exact (hz15 _ ho0).2.elim (fun k => hxo _ ((hX _).2 he0) k) (fun k => by have := zX _ ((hX _).2 he0); omega) | (rcases hi with h | h | h; (have := zX _ ((hX _).2 he0); omega); exact h.1.2.1 ((hX _).2 he0); (have := zX _ ((hX _).2 he0); omega)) | (rcases hi with h | h | h | h; (have := zX _ ((hX _).2 he0); omega); exact h.1.2.1 ((hX _).2 he0); (have := zX _ ((hX _).2 he0); omega); (have := zX _ ((hX _).2 he0); omega))))
   replace HSp := ((HSp.ext e107).ext e108).keep k29 (by intro i _ hi he; have he0 := he; (try dsimp only [NoK, AllB] at hi he); (try simp only [Value.ownBlock, Option.some.injEq] at he); first | exact hi.elim | exact he.elim | omega | (rcases hi with hi | hi <;> omega) | (rcases he with he | he <;> omega) | (have := (HOy).own_lt he0; omega) | (have := zo_HOy _ he0; omega) | (have := (HOy).own_lt he0; rcases hi with hi | hi <;> omega) | (first | (have := zX _ ((hX _).2 he0); omega) | exact (hz15 _ ho0).2.elim (fun k => hxo _ ((hX _).2 he0) k) (fun k => by have := zX _ ((hX _).2 he0); omega) | (rcases hi with h | h | h; (have := zX _ ((hX _).2 he0); omega); exact h.1.2.1 ((hX _).2 he0); (have := zX _ ((hX _).2 he0); omega)) | (rcases hi with h | h | h | h; (have := zX _ ((hX _).2 he0); omega); exact h.1.2.1 ((hX _).2 he0); (have := zX _ ((hX _).2 he0); omega); (have := zX _ ((hX _).2 he0); omega))))
   replace HO15 := ((HO15.ext e107).ext e108).keep k29 (by intro i ho he; have he0 := he; have ho0 := ho; (try dsimp only [NoK] at he); (try simp only [Value.ownBlock, Option.some.injEq, reduceCtorEq] at ho); (try simp only [Value.ownBlock, Option.some.injEq, reduceCtorEq] at he); first | exact he.elim | exact ho.elim | omega | (have := zo_HO15 _ ho0; omega) | (have := (HOy).own_lt he0; omega) | (have := zo_HOy _ he0; omega) | (first | (have := zX _ ((hX _).2 he0); omega) | exact (hz15 _ ho0).2.elim (fun k => hxo _ ((hX _).2 he0) k) (fun k => by have := zX _ ((hX _).2 he0); omega) | (rcases hi with h | h | h; (have := zX _ ((hX _).2 he0); omega); exact h.1.2.1 ((hX _).2 he0); (have := zX _ ((hX _).2 he0); omega)) | (rcases hi with h | h | h | h; (have := zX _ ((hX _).2 he0); omega); exact h.1.2.1 ((hX _).2 he0); (have := zX _ ((hX _).2 he0); omega); (have := zX _ ((hX _).2 he0); omega))) | (have := zo_HO15 _ ho0; have := (HOy).own_lt he0; omega)) (by intro i _ hi _ he; have he0 := he; have hi := hi; have he := he; (try dsimp only [NoK, AllB] at hi he); (try simp only [Value.ownBlock, Option.some.injEq, reduceCtorEq] at he); all_goals first | exact hi.elim | exact hi.1.elim | exact he.elim | omega | (rcases hi with hi | hi <;> omega) | (rcases he with he | he <;> omega) | (have := (HOy).own_lt he0; omega) | (have := zo_HOy _ he0; omega) | (have := (HOy).own_lt he0; rcases hi with hi | hi <;> omega) | (first | (have := zX _ ((hX _).2 he0); omega) | exact (hz15 _ ho0).2.elim (fun k => hxo _ ((hX _).2 he0) k) (fun k => by have := zX _ ((hX _).2 he0); omega) | (rcases hi with h | h | h; (have := zX _ ((hX _).2 he0); omega); exact h.1.2.1 ((hX _).2 he0); (have := zX _ ((hX _).2 he0); omega)) | (rcases hi with h | h | h | h; (have := zX _ ((hX _).2 he0); omega); exact h.1.2.1 ((hX _).2 he0); (have := zX _ ((hX _).2 he0); omega); (have := zX _ ((hX _).2 he0); omega))))
   replace HPq := (HPq.ext e108).keep k29 (by intro h; have he0 := h; (try dsimp only at h); (try simp only [Value.ownBlock, Option.some.injEq] at h); (try simp only [add_block] at h); (try simp only [add_block] at he0); first | omega | (have := (HOy).own_lt he0; omega) | (have := zo_HOy _ he0; omega) | (have he := he0; first | (have := zX _ ((hX _).2 he0); omega) | exact (hz15 _ ho0).2.elim (fun k => hxo _ ((hX _).2 he0) k) (fun k => by have := zX _ ((hX _).2 he0); omega) | (rcases hi with h | h | h; (have := zX _ ((hX _).2 he0); omega); exact h.1.2.1 ((hX _).2 he0); (have := zX _ ((hX _).2 he0); omega)) | (rcases hi with h | h | h | h; (have := zX _ ((hX _).2 he0); omega); exact h.1.2.1 ((hX _).2 he0); (have := zX _ ((hX _).2 he0); omega); (have := zX _ ((hX _).2 he0); omega))))
   replace HGa := (HGa.ext e108).keep k29 (by intro i _ hi he; have he0 := he; (try dsimp only [NoK, AllB] at hi he); (try simp only [Value.ownBlock, Option.some.injEq] at he); first | exact hi.elim | exact he.elim | omega | (rcases hi with hi | hi <;> omega) | (rcases he with he | he <;> omega) | (have := (HOy).own_lt he0; omega) | (have := zo_HOy _ he0; omega) | (have := (HOy).own_lt he0; rcases hi with hi | hi <;> omega) | (first | (have := zX _ ((hX _).2 he0); omega) | exact (hz15 _ ho0).2.elim (fun k => hxo _ ((hX _).2 he0) k) (fun k => by have := zX _ ((hX _).2 he0); omega) | (rcases hi with h | h | h; (have := zX _ ((hX _).2 he0); omega); exact h.1.2.1 ((hX _).2 he0); (have := zX _ ((hX _).2 he0); omega)) | (rcases hi with h | h | h | h; (have := zX _ ((hX _).2 he0); omega); exact h.1.2.1 ((hX _).2 he0); (have := zX _ ((hX _).2 he0); omega); (have := zX _ ((hX _).2 he0); omega))))
   replace HGx := (HGx.ext e108).keep k29 (by intro i _ hi he; have he0 := he; (try dsimp only [NoK, AllB] at hi he); (try simp only [Value.ownBlock, Option.some.injEq] at he); first | exact hi.elim | exact he.elim | omega | (rcases hi with hi | hi <;> omega) | (rcases he with he | he <;> omega) | (have := (HOy).own_lt he0; omega) | (have := zo_HOy _ he0; omega) | (have := (HOy).own_lt he0; rcases hi with hi | hi <;> omega) | (first | (have := zX _ ((hX _).2 he0); omega) | exact (hz15 _ ho0).2.elim (fun k => hxo _ ((hX _).2 he0) k) (fun k => by have := zX _ ((hX _).2 he0); omega) | (rcases hi with h | h | h; (have := zX _ ((hX _).2 he0); omega); exact h.1.2.1 ((hX _).2 he0); (have := zX _ ((hX _).2 he0); omega)) | (rcases hi with h | h | h | h; (have := zX _ ((hX _).2 he0); omega); exact h.1.2.1 ((hX _).2 he0); (have := zX _ ((hX _).2 he0); omega); (have := zX _ ((hX _).2 he0); omega))))
   replace HB13 := (HB13.ext e108).keep k29 (by intro h; have he0 := h; (try dsimp only at h); (try simp only [Value.ownBlock, Option.some.injEq] at h); first | omega | (have := (HOy).own_lt he0; omega) | (have := zo_HOy _ he0; omega) | (have he := he0; first | (have := zX _ ((hX _).2 he0); omega) | exact (hz15 _ ho0).2.elim (fun k => hxo _ ((hX _).2 he0) k) (fun k => by have := zX _ ((hX _).2 he0); omega) | (rcases hi with h | h | h; (have := zX _ ((hX _).2 he0); omega); exact h.1.2.1 ((hX _).2 he0); (have := zX _ ((hX _).2 he0); omega)) | (rcases hi with h | h | h | h; (have := zX _ ((hX _).2 he0); omega); exact h.1.2.1 ((hX _).2 he0); (have := zX _ ((hX _).2 he0); omega); (have := zX _ ((hX _).2 he0); omega))))
   replace HS35 := HS35.keep k29 (by intro i _ hi he; have he0 := he; (try dsimp only [NoK, AllB] at hi he); (try simp only [Value.ownBlock, Option.some.injEq] at he); first | exact hi.elim | exact he.elim | omega | (rcases hi with hi | hi <;> omega) | (rcases he with he | he <;> omega) | (have := (HOy).own_lt he0; omega) | (have := zo_HOy _ he0; omega) | (have := (HOy).own_lt he0; rcases hi with hi | hi <;> omega) | (first | (have := zX _ ((hX _).2 he0); omega) | exact (hz15 _ ho0).2.elim (fun k => hxo _ ((hX _).2 he0) k) (fun k => by have := zX _ ((hX _).2 he0); omega) | (rcases hi with h | h | h; (have := zX _ ((hX _).2 he0); omega); exact h.1.2.1 ((hX _).2 he0); (have := zX _ ((hX _).2 he0); omega)) | (rcases hi with h | h | h | h; (have := zX _ ((hX _).2 he0); omega); exact h.1.2.1 ((hX _).2 he0); (have := zX _ ((hX _).2 he0); omega); (have := zX _ ((hX _).2 he0); omega))))
   refine l_v (zaI rfl) (l_nil (n_then (⟨(Q ++ [((1 + z), a, (doM (mQ [] Q) a).2)], u1, u2, a29, c29, a15, c15), _, rfl, by (repeat' (first | exact Off.of_over _ _ _ | refine Off.upd ?_ zq _ | refine Off.overs ?_ zq _)), ⟨by first | rfl | exact congrArg (Value.int _) zo | (simp; done) | (simp only [hQ1, mQ_snoc]; rfl), by first | rfl | exact congrArg (Value.int _) zo | (simp; done) | (simp only [hQ1, mQ_snoc]; rfl), by first | rfl | exact congrArg (Value.int _) zo | (simp; done) | (simp only [hQ1, mQ_snoc]; rfl), by first | rfl | exact congrArg (Value.int _) zo | (simp; done) | (simp only [hQ1, mQ_snoc]; rfl), trivial⟩, ⟨E, EL1, ?_⟩, ?_⟩)))
   ·
    simp only [hQ1]
    refine ⟨by omega, ?_, ownQ_snoc _ _ _ hown rfl, ?_, HO29.mono fun b hb h => ?_, HO15, fun b g1 g2 => ?_⟩
    ·
     intro q hq
     rcases List.mem_append.1 hq with h | h
     ·
      exact hok q h
     obtain rfl := List.mem_singleton.1 h
     exact ⟨by dsimp only; omega, by dsimp only; omega, hma, hdn.1⟩
    ·
     rw [mQ_snoc]
     refine HSp.mono fun b hb h => ⟨by omega, fun ho => ?_, fun ho => ?_⟩
     ·
      exact (hz29 b ho).elim (fun k => by have := zX b k; omega) (fun k => by omega)
     exact (hz15 b ho).2.elim (fun k => by have := zO b k; omega) (fun k => by omega)
    ·
     refine h.imp (fun h => h) (fun h => ⟨by rcases h with h | h | h <;> omega, fun ho => ?_, fun ho => ?_⟩)
     ·
      rcases h with h | h | h
      ·
       exact (hz29 b ho).elim h.1.2.1 (fun k => by omega)
      ·
       exact (hz29 b ho).elim (fun k => by have := zX b k; omega) (fun k => by omega)
      exact (hz29 b ho).elim (fun k => by have := zX b k; omega) (fun k => by omega)
     have h5 := hz15 b ho
     rcases h with h | h | h
     ·
      exact h5.2.elim h.1.2.2 (fun k => by omega)
     ·
      exact h5.2.elim (fun k => by have := zO b k; omega) (fun k => by omega)
     omega
    have h5 := hz15 b g2
    exact (hz29 b g1).elim (fun k => h5.2.elim (fun h => hxo b k h) (fun h => by have := zX b k; omega)) (fun k => by omega)
   (dsimp only; omega)
  have hmm := mQ_may Q [] rfl hok
  obtain ⟨n8, hn8⟩ : ∃ n, n = w104.heap.size := ⟨_, rfl⟩
  refine c_skip (n_then (c_seq (wp_reg zd (l_v (zmS rfl) (l_v (zmS rfl) (l_v (zmI rfl) (l_v (v_indexAddr (et := 28) (sz := 7) (k := i) zk zk rfl rfl (by first | rfl | omega) zo) ?_)))))))
  refine l_v (v_loadA zk rfl (by first | exact HPq | assumption) rfl) ?_
  refine l_to (to_f2 zk (zvS rfl) (zvA rfl) (CallsR.mono (Do_c (F := fun b => (F b ∧ b < n0) ∨ ((n0 ≤ b ∧ ¬ X b ∧ ¬ O b) ∧ b < n8)) (HSm.mono fun b _ h => .inr ⟨h.1, by omega⟩) (HGa.mono fun b _ h => .inl h) hmm zo hma) ?_))
  rintro _ w7 ⟨u, x, rfl, HSu, HGx, e7⟩
  have := e7.size
  obtain ⟨u1, u2, rfl⟩ := HSu.shape
  obtain ⟨x1, y1, x2, y2, rfl, _⟩ := HGx.an
  have HSp : SlV tPr _ _ _ (doM (mQ [] Q) a).1 := Imp.sl (Imp.pair Imp.by Imp.by) HSu
  obtain ⟨n9, hn9⟩ : ∃ n, n = w7.heap.size := ⟨_, rfl⟩
  replace HSp := HSp.mono (F' := fun b => n8 ≤ b ∧ b < n9) fun b hb h => ⟨by omega, by omega⟩
  replace E := E.trans e7.keep
  replace HSl := HSl.ext e7
  replace HSc := HSc.ext e7
  replace EL1 := EL1.trans e7.keep
  replace HPq := HPq.ext e7
  replace HGa := HGa.ext e7
  replace HSm := HSm.ext e7
  replace HOx := HOx.ext e7
  replace HOo := HOo.ext e7
  replace HGx := HGx.mono (F' := fun b => (F b ∧ b < n0) ∨ ((n0 ≤ b ∧ ¬ X b ∧ ¬ O b) ∧ b < n8) ∨ (n8 ≤ b ∧ b < n9)) fun b hb h => by
   rcases h with (h | h) | h
   ·
    exact .inl h
   ·
    exact .inr (.inl h)
   exact .inr (.inr ⟨by omega, by omega⟩)
  refine l_v (zmT rfl) (l_v (v_extract (t := .slice _ _ _) rfl rfl) (l_v (v_extract (t := .agg _) rfl rfl) (l_v (v_extract (t := .int _ _) rfl rfl) (l_to (to_alloc (z := (.agg #[.int .i64 0, .slice none 0 0, .slice none 0 0])) (by unfold kZero; kernel_rfl) ?_)))))
  rintro b13 w13 zb13 HB13 e13 z13
  have := e13.size
  try simp only [Value.cells] at HB13
  refine l_v (zaS rfl) (l_to (to_storeA (n := 3) rfl rfl (zvA rfl) zk rfl dj6 HB13 dj5 ?_))
  rintro w109 HX109 k109 z109
  have := k109.size
  replace HB13 := HX109
  clear HX109
  try simp only [zS, Nat.zero_add, Nat.reduceAdd, List.drop_nil] at HB13
  refine l_v (zaI rfl) (l_nil (n_then (c_seq (c_seq (wp_regd (NoK) zk zd zd ?_)))))
  refine rt_v (fun vals w hR hd => zmI rfl) ?_
  refine rt_vf (fun vals w hR hd => to_f1 zk (hd 0 rfl) (num_c)) ?_
  refine rt_v (fun vals w hR hd => v_neq (hd 1 rfl) rfl) ?_
  refine rt_v (fun vals w hR hd => v_move (t := .bool _) (hd 2 rfl)) ?_
  refine rt_g1 rfl (fun vals w hd => hd 3 rfl) (fun vals w hR hd hG => zmS rfl) ?_
  refine rt_g1 rfl (fun vals w hd => hd 3 rfl) (fun vals w hR hd hG => zmS rfl) ?_
  refine rt_g1 rfl (fun vals w hd => hd 3 rfl) (fun vals w hR hd hG => zmI rfl) ?_
  refine rt_g1 rfl (fun vals w hd => hd 3 rfl) (fun vals w hR hd hG => v_indexAddr (et := 28) (sz := 7) (k := i) zk zk (gd hG (hd 5 rfl)) (gd hG (hd 6 rfl)) (by first | rfl | omega) zo) ?_
  replace HPq := (HPq.ext e13).keep k109 (by intro h; have he0 := h; (try dsimp only at h); (try simp only [Value.ownBlock, Option.some.injEq] at h); (try simp only [add_block] at h); (try simp only [add_block] at he0); first | omega | (have he := he0; first | (have := zX _ ((hX _).2 he0); omega) | exact (hz15 _ ho0).2.elim (fun k => hxo _ ((hX _).2 he0) k) (fun k => by have := zX _ ((hX _).2 he0); omega) | (rcases hi with h | h | h; (have := zX _ ((hX _).2 he0); omega); exact h.1.2.1 ((hX _).2 he0); (have := zX _ ((hX _).2 he0); omega)) | (rcases hi with h | h | h | h; (have := zX _ ((hX _).2 he0); omega); exact h.1.2.1 ((hX _).2 he0); (have := zX _ ((hX _).2 he0); omega); (have := zX _ ((hX _).2 he0); omega))))
  refine rt_g1 rfl (fun vals w hd => hd 3 rfl) (fun vals w hR hd hG => v_loadA zk (gd hG (hd 7 rfl)) (by first | exact (HB13.ext hR).pv | exact (HPq.ext hR) | assumption) rfl) ?_
  refine rt_g1 rfl (fun vals w hd => hd 3 rfl) (fun vals w hR hd hG => v_loadA zk rfl (by first | exact (HB13.ext hR).pv | exact (HPq.ext hR) | assumption) rfl) ?_
  replace HGa := (HGa.ext e13).keep k109 (by intro i _ hi he; have he0 := he; (try dsimp only [NoK, AllB] at hi he); (try simp only [Value.ownBlock, Option.some.injEq] at he); first | exact hi.elim | exact he.elim | omega | (rcases hi with hi | hi <;> omega) | (rcases he with he | he <;> omega) | (first | (have := zX _ ((hX _).2 he0); omega) | exact (hz15 _ ho0).2.elim (fun k => hxo _ ((hX _).2 he0) k) (fun k => by have := zX _ ((hX _).2 he0); omega) | (rcases hi with h | h | h; (have := zX _ ((hX _).2 he0); omega); exact h.1.2.1 ((hX _).2 he0); (have := zX _ ((hX _).2 he0); omega)) | (rcases hi with h | h | h | h; (have := zX _ ((hX _).2 he0); omega); exact h.1.2.1 ((hX _).2 he0); (have := zX _ ((hX _).2 he0); omega); (have := zX _ ((hX _).2 he0); omega))))
  replace HSm := (HSm.ext e13).keep k109 (by intro i _ hi he; have he0 := he; (try dsimp only [NoK, AllB] at hi he); (try simp only [Value.ownBlock, Option.some.injEq] at he); first | exact hi.elim | exact he.elim | omega | (rcases hi with hi | hi <;> omega) | (rcases he with he | he <;> omega) | (first | (have := zX _ ((hX _).2 he0); omega) | exact (hz15 _ ho0).2.elim (fun k => hxo _ ((hX _).2 he0) k) (fun k => by have := zX _ ((hX _).2 he0); omega) | (rcases hi with h | h | h; (have := zX _ ((hX _).2 he0); omega); exact h.1.2.1 ((hX _).2 he0); (have := zX _ ((hX _).2 he0); omega)) | (rcases hi with h | h | h | h; (have := zX _ ((hX _).2 he0); omega); exact h.1.2.1 ((hX _).2 he0); (have := zX _ ((hX _).2 he0); omega); (have := zX _ ((hX _).2 he0); omega))))
  replace HGx := (HGx.ext e13).keep k109 (by intro i _ hi he; have he0 := he; (try dsimp only [NoK, AllB] at hi he); (try simp only [Value.ownBlock, Option.some.injEq] at he); first | exact hi.elim | exact he.elim | omega | (rcases hi with hi | hi <;> omega) | (rcases he with he | he <;> omega) | (first | (have := zX _ ((hX _).2 he0); omega) | exact (hz15 _ ho0).2.elim (fun k => hxo _ ((hX _).2 he0) k) (fun k => by have := zX _ ((hX _).2 he0); omega) | (rcases hi with h | h | h; (have := zX _ ((hX _).2 he0); omega); exact h.1.2.1 ((hX _).2 he0); (have := zX _ ((hX _).2 he0); omega)) | (rcases hi with h | h | h | h; (have := zX _ ((hX _).2 he0); omega); exact h.1.2.1 ((hX _).2 he0); (have := zX _ ((hX _).2 he0); omega); (have := zX _ ((hX _).2 he0); omega))))
  refine rt_g1f rfl (fun vals w hd => hd 3 rfl) (fun vals w hR hd hG => to_f3 zk (gd hG (hd 4 rfl)) (gd hG (hd 8 rfl)) (gd hG (hd 9 rfl)) (Fits_c (F := AllB) ((HSm.ext hR).mono fun _ _ _ => trivial) ((HGa.ext hR).mono fun _ _ _ => trivial) (HGx.ext hR) zo)) ?_
  refine rt_g1 rfl (fun vals w hd => hd 3 rfl) (fun vals w hR hd hG => v_not (gd hG (hd 10 rfl))) ?_
  refine rt_v (fun vals w hR hd => v_or (hd 3 rfl) (hd 11 rfl)) ?_
  refine rt_nil (fun w110 e110 => ?_)
  replace E := (E.trans e13.keep).step k109 (by intro i hi he; have he0 := he; (try dsimp only [NoK] at hi he ⊢); (try simp only [Value.ownBlock, Option.some.injEq] at he); first | exact he.elim | omega | exact he | (first | (have := zX _ ((hX _).2 he0); omega) | exact (hz15 _ ho0).2.elim (fun k => hxo _ ((hX _).2 he0) k) (fun k => by have := zX _ ((hX _).2 he0); omega) | (rcases hi with h | h | h; (have := zX _ ((hX _).2 he0); omega); exact h.1.2.1 ((hX _).2 he0); (have := zX _ ((hX _).2 he0); omega)) | (rcases hi with h | h | h | h; (have := zX _ ((hX _).2 he0); omega); exact h.1.2.1 ((hX _).2 he0); (have := zX _ ((hX _).2 he0); omega); (have := zX _ ((hX _).2 he0); omega))))
  replace HSl := (HSl.ext e13).keep k109 (by intro i _ hi he; have he0 := he; (try dsimp only [NoK, AllB] at hi he); (try simp only [Value.ownBlock, Option.some.injEq] at he); first | exact hi.elim | exact he.elim | omega | (rcases hi with hi | hi <;> omega) | (rcases he with he | he <;> omega) | (first | (have := zX _ ((hX _).2 he0); omega) | exact (hz15 _ ho0).2.elim (fun k => hxo _ ((hX _).2 he0) k) (fun k => by have := zX _ ((hX _).2 he0); omega) | (rcases hi with h | h | h; (have := zX _ ((hX _).2 he0); omega); exact h.1.2.1 ((hX _).2 he0); (have := zX _ ((hX _).2 he0); omega)) | (rcases hi with h | h | h | h; (have := zX _ ((hX _).2 he0); omega); exact h.1.2.1 ((hX _).2 he0); (have := zX _ ((hX _).2 he0); omega); (have := zX _ ((hX _).2 he0); omega))))
  replace HSc := (HSc.ext e13).keep k109 (by intro i _ hi he; have he0 := he; (try dsimp only [NoK, AllB] at hi he); (try simp only [Value.ownBlock, Option.some.injEq] at he); first | exact hi.elim | exact he.elim | omega | (rcases hi with hi | hi <;> omega) | (rcases he with he | he <;> omega) | (first | (have := zX _ ((hX _).2 he0); omega) | exact (hz15 _ ho0).2.elim (fun k => hxo _ ((hX _).2 he0) k) (fun k => by have := zX _ ((hX _).2 he0); omega) | (rcases hi with h | h | h; (have := zX _ ((hX _).2 he0); omega); exact h.1.2.1 ((hX _).2 he0); (have := zX _ ((hX _).2 he0); omega)) | (rcases hi with h | h | h | h; (have := zX _ ((hX _).2 he0); omega); exact h.1.2.1 ((hX _).2 he0); (have := zX _ ((hX _).2 he0); omega); (have := zX _ ((hX _).2 he0); omega))))
  replace EL1 := (EL1.trans e13.keep).step k109 (by intro i hi he; have he0 := he; (try dsimp only [NoK] at hi he ⊢); (try simp only [Value.ownBlock, Option.some.injEq] at he); first | exact he.elim | omega | exact he | (first | (have := zX _ ((hX _).2 he0); omega) | exact (hz15 _ ho0).2.elim (fun k => hxo _ ((hX _).2 he0) k) (fun k => by have := zX _ ((hX _).2 he0); omega) | (rcases hi with h | h | h; (have := zX _ ((hX _).2 he0); omega); exact h.1.2.1 ((hX _).2 he0); (have := zX _ ((hX _).2 he0); omega)) | (rcases hi with h | h | h | h; (have := zX _ ((hX _).2 he0); omega); exact h.1.2.1 ((hX _).2 he0); (have := zX _ ((hX _).2 he0); omega); (have := zX _ ((hX _).2 he0); omega))))
  replace HOx := (HOx.ext e13).keep k109 (by intro i ho he; have he0 := he; have ho0 := ho; (try dsimp only [NoK] at he); (try simp only [Value.ownBlock, Option.some.injEq, reduceCtorEq] at ho); (try simp only [Value.ownBlock, Option.some.injEq, reduceCtorEq] at he); first | exact he.elim | exact ho.elim | omega | (have := zo_HOx _ ho0; omega) | (first | (have := zX _ ((hX _).2 he0); omega) | exact (hz15 _ ho0).2.elim (fun k => hxo _ ((hX _).2 he0) k) (fun k => by have := zX _ ((hX _).2 he0); omega) | (rcases hi with h | h | h; (have := zX _ ((hX _).2 he0); omega); exact h.1.2.1 ((hX _).2 he0); (have := zX _ ((hX _).2 he0); omega)) | (rcases hi with h | h | h | h; (have := zX _ ((hX _).2 he0); omega); exact h.1.2.1 ((hX _).2 he0); (have := zX _ ((hX _).2 he0); omega); (have := zX _ ((hX _).2 he0); omega)))) (by intro i _ hi _ he; have he0 := he; have hi := hi; have he := he; (try dsimp only [NoK, AllB] at hi he); (try simp only [Value.ownBlock, Option.some.injEq, reduceCtorEq] at he); all_goals first | exact hi.elim | exact hi.1.elim | exact he.elim | omega | (rcases hi with hi | hi <;> omega) | (rcases he with he | he <;> omega) | (first | (have := zX _ ((hX _).2 he0); omega) | exact (hz15 _ ho0).2.elim (fun k => hxo _ ((hX _).2 he0) k) (fun k => by have := zX _ ((hX _).2 he0); omega) | (rcases hi with h | h | h; (have := zX _ ((hX _).2 he0); omega); exact h.1.2.1 ((hX _).2 he0); (have := zX _ ((hX _).2 he0); omega)) | (rcases hi with h | h | h | h; (have := zX _ ((hX _).2 he0); omega); exact h.1.2.1 ((hX _).2 he0); (have := zX _ ((hX _).2 he0); omega); (have := zX _ ((hX _).2 he0); omega))))
  replace HOo := (HOo.ext e13).keep k109 (by intro i ho he; have he0 := he; have ho0 := ho; (try dsimp only [NoK] at he); (try simp only [Value.ownBlock, Option.some.injEq, reduceCtorEq] at ho); (try simp only [Value.ownBlock, Option.some.injEq, reduceCtorEq] at he); first | exact he.elim | exact ho.elim | omega | (have := zo_HOo _ ho0; omega) | (first | (have := zX _ ((hX _).2 he0); omega) | exact (hz15 _ ho0).2.elim (fun k => hxo _ ((hX _).2 he0) k) (fun k => by have := zX _ ((hX _).2 he0); omega) | (rcases hi with h | h | h; (have := zX _ ((hX _).2 he0); omega); exact h.1.2.1 ((hX _).2 he0); (have := zX _ ((hX _).2 he0); omega)) | (rcases hi with h | h | h | h; (have := zX _ ((hX _).2 he0); omega); exact h.1.2.1 ((hX _).2 he0); (have := zX _ ((hX _).2 he0); omega); (have := zX _ ((hX _).2 he0); omega)))) (by intro i _ hi _ he; have he0 := he; have hi := hi; have he := he; (try dsimp only [NoK, AllB] at hi he); (try simp only [Value.ownBlock, Option.some.injEq, reduceCtorEq] at he); all_goals first | exact hi.elim | exact hi.1.elim | exact he.elim | omega | (rcases hi with hi | hi <;> omega) | (rcases he with he | he <;> omega) | (first | (have := zX _ ((hX _).2 he0); omega) | exact (hz15 _ ho0).2.elim (fun k => hxo _ ((hX _).2 he0) k) (fun k => by have := zX _ ((hX _).2 he0); omega) | (rcases hi with h | h | h; (have := zX _ ((hX _).2 he0); omega); exact h.1.2.1 ((hX _).2 he0); (have := zX _ ((hX _).2 he0); omega)) | (rcases hi with h | h | h | h; (have := zX _ ((hX _).2 he0); omega); exact h.1.2.1 ((hX _).2 he0); (have := zX _ ((hX _).2 he0); omega); (have := zX _ ((hX _).2 he0); omega))))
  replace HSp := (HSp.ext e13).keep k109 (by intro i _ hi he; have he0 := he; (try dsimp only [NoK, AllB] at hi he); (try simp only [Value.ownBlock, Option.some.injEq] at he); first | exact hi.elim | exact he.elim | omega | (rcases hi with hi | hi <;> omega) | (rcases he with he | he <;> omega) | (first | (have := zX _ ((hX _).2 he0); omega) | exact (hz15 _ ho0).2.elim (fun k => hxo _ ((hX _).2 he0) k) (fun k => by have := zX _ ((hX _).2 he0); omega) | (rcases hi with h | h | h; (have := zX _ ((hX _).2 he0); omega); exact h.1.2.1 ((hX _).2 he0); (have := zX _ ((hX _).2 he0); omega)) | (rcases hi with h | h | h | h; (have := zX _ ((hX _).2 he0); omega); exact h.1.2.1 ((hX _).2 he0); (have := zX _ ((hX _).2 he0); omega); (have := zX _ ((hX _).2 he0); omega))))
  rintro _ rfl _ rfl _ rfl _ rfl _ rfl _ rfl _ rfl _ rfl _ rfl _ rfl _ rfl _ rfl _ rfl
  have := e110.size
  replace E := E.trans e110.keep
  replace HSl := HSl.ext e110
  replace HSc := HSc.ext e110
  replace EL1 := EL1.trans e110.keep
  replace HPq := HPq.ext e110
  replace HGa := HGa.ext e110
  replace HSm := HSm.ext e110
  replace HOx := HOx.ext e110
  replace HOo := HOo.ext e110
  replace HSp := HSp.ext e110
  replace HGx := HGx.ext e110
  replace HB13 := HB13.ext e110
  refine fin_nil (n_then (c_cond rfl rfl (fun hc6 => ?_) (fun hc6 => ?_)))
  ·
   rw [fitsM_own hmm hma] at hc6; simp at hc6
  have hQi : (evQ 0 Q).length = 2 * i := by rw [evQ_len, hQl]
  have hil : (intsN (List.range' 0 i)).length = i := by simp [intsN]
  have hsnoc : intsN (List.range' 0 i) ++ [(i : Int)] = intsN (List.range' 0 (i + 1)) := by rw [List.range'_1_concat]; simp [intsN]
  refine c_skip (n_then (c_seq (wp_reg zd (l_v (zmS rfl) (l_v (zaS rfl) (l_nil (n_then (c_seq (wp_reg zd ?_)))))))))
  refine l_v (zmS rfl) (l_v (zmI rfl) (l_to (to_slice1 (t := tInt .i64) (et := 3) (bytes := 8) zk zq (zvI rfl) ((show (tInt .i64).rep _ NoK [.int .i64 (i : Int)] (i : Int) from ⟨rfl, wf_of_i64 ⟨by omega, by omega⟩⟩)) ?_)))
  rintro b14 w14 zb14 HO14 e14 z14
  have := e14.size
  have zo_HO14 := fun (b : Nat) h => HO14.own_lt (b := b) h
  replace HOo := HOo.ext e14
  refine l_to (to_append (et := 3) (bytes := 8) zk (zvS rfl) HOo (zvS rfl) HO14.view ((fun cs z h => h)) (by first | omega | (simp; done) | (simp; omega)) (by simp only [maxLen]; first | omega | (simp; done) | (simp; omega)) zo ?_)
  rintro a15 n15 c15 w15 HO15 hn15 k15 h15 i15
  have := k15.size
  rw [hsnoc] at HO15
  obtain rfl : n15 = i + 1 := by rw [hn15, List.length_append, hil]; rfl
  have zo_HO15 := fun (b : Nat) h => HO15.own_lt (b := b) h
  have hz15 : ∀ b, (Value.slice a15 (i + 1) c15).ownBlock = some b → b < w15.heap.size ∧ (O b ∨ n9 < b) := fun b h => ⟨(HO15.own_lt h).2, (h15 b h).elim (fun h => .inl ((hO b).2 h)) (fun h => .inr zo)⟩
  replace E := (E.trans e14.keep).step k15 (by intro i hi he; have he0 := he; (try dsimp only [NoK] at hi he ⊢); (try simp only [Value.ownBlock, Option.some.injEq] at he); first | exact he.elim | omega | exact he | (have := (HOo).own_lt he0; omega) | (have := zo_HOo _ he0; omega) | (have := (HOo).own_lt he0; rcases hi with hi | hi <;> omega) | (first | exact hxo _ ((hX _).2 ho0) ((hO _).2 he0) | (rcases hi with h | h | h; exact absurd h.1.2.2 (fun k => k ((hO _).2 he0)); (have := zO _ ((hO _).2 he0); omega); (have := zO _ ((hO _).2 he0); omega)) | (rcases hi with h | h | h; (have := zO _ ((hO _).2 he0); omega); exact h.1.2.2 ((hO _).2 he0); (have := zO _ ((hO _).2 he0); omega)) | (rcases hi with h | h; (have := zO _ ((hO _).2 he0); omega); exact h.1.2.2 ((hO _).2 he0)) | exact hi.1.2.2 ((hO _).2 he0) | (have := zO _ ((hO _).2 he0); omega)))
  replace HSl := (HSl.ext e14).keep k15 (by intro i _ hi he; have he0 := he; (try dsimp only [NoK, AllB] at hi he); (try simp only [Value.ownBlock, Option.some.injEq] at he); first | exact hi.elim | exact he.elim | omega | (rcases hi with hi | hi <;> omega) | (rcases he with he | he <;> omega) | (have := (HOo).own_lt he0; omega) | (have := zo_HOo _ he0; omega) | (have := (HOo).own_lt he0; rcases hi with hi | hi <;> omega) | (first | exact hxo _ ((hX _).2 ho0) ((hO _).2 he0) | (rcases hi with h | h | h; exact absurd h.1.2.2 (fun k => k ((hO _).2 he0)); (have := zO _ ((hO _).2 he0); omega); (have := zO _ ((hO _).2 he0); omega)) | (rcases hi with h | h | h; (have := zO _ ((hO _).2 he0); omega); exact h.1.2.2 ((hO _).2 he0); (have := zO _ ((hO _).2 he0); omega)) | (rcases hi with h | h; (have := zO _ ((hO _).2 he0); omega); exact h.1.2.2 ((hO _).2 he0)) | exact hi.1.2.2 ((hO _).2 he0) | (have := zO _ ((hO _).2 he0); omega)))
  replace HSc := (HSc.ext e14).keep k15 (by intro i _ hi he; have he0 := he; (try dsimp only [NoK, AllB] at hi he); (try simp only [Value.ownBlock, Option.some.injEq] at he); first | exact hi.elim | exact he.elim | omega | (rcases hi with hi | hi <;> omega) | (rcases he with he | he <;> omega) | (have := (HOo).own_lt he0; omega) | (have := zo_HOo _ he0; omega) | (have := (HOo).own_lt he0; rcases hi with hi | hi <;> omega) | (first | exact hxo _ ((hX _).2 ho0) ((hO _).2 he0) | (rcases hi with h | h | h; exact absurd h.1.2.2 (fun k => k ((hO _).2 he0)); (have := zO _ ((hO _).2 he0); omega); (have := zO _ ((hO _).2 he0); omega)) | (rcases hi with h | h | h; (have := zO _ ((hO _).2 he0); omega); exact h.1.2.2 ((hO _).2 he0); (have := zO _ ((hO _).2 he0); omega)) | (rcases hi with h | h; (have := zO _ ((hO _).2 he0); omega); exact h.1.2.2 ((hO _).2 he0)) | exact hi.1.2.2 ((hO _).2 he0) | (have := zO _ ((hO _).2 he0); omega)))
  replace EL1 := (EL1.trans e14.keep).step k15 (by intro i hi he; have he0 := he; (try dsimp only [NoK] at hi he ⊢); (try simp only [Value.ownBlock, Option.some.injEq] at he); first | exact he.elim | omega | exact he | (have := (HOo).own_lt he0; omega) | (have := zo_HOo _ he0; omega) | (have := (HOo).own_lt he0; rcases hi with hi | hi <;> omega) | (first | exact hxo _ ((hX _).2 ho0) ((hO _).2 he0) | (rcases hi with h | h | h; exact absurd h.1.2.2 (fun k => k ((hO _).2 he0)); (have := zO _ ((hO _).2 he0); omega); (have := zO _ ((hO _).2 he0); omega)) | (rcases hi with h | h | h; (have := zO _ ((hO _).2 he0); omega); exact h.1.2.2 ((hO _).2 he0); (have := zO _ ((hO _).2 he0); omega)) | (rcases hi with h | h; (have := zO _ ((hO _).2 he0); omega); exact h.1.2.2 ((hO _).2 he0)) | exact hi.1.2.2 ((hO _).2 he0) | (have := zO _ ((hO _).2 he0); omega)))
  replace HPq := (HPq.ext e14).keep k15 (by intro h; have he0 := h; (try dsimp only at h); (try simp only [Value.ownBlock, Option.some.injEq] at h); (try simp only [add_block] at h); (try simp only [add_block] at he0); first | omega | (have := (HOo).own_lt he0; omega) | (have := zo_HOo _ he0; omega) | (have he := he0; first | exact hxo _ ((hX _).2 ho0) ((hO _).2 he0) | (rcases hi with h | h | h; exact absurd h.1.2.2 (fun k => k ((hO _).2 he0)); (have := zO _ ((hO _).2 he0); omega); (have := zO _ ((hO _).2 he0); omega)) | (rcases hi with h | h | h; (have := zO _ ((hO _).2 he0); omega); exact h.1.2.2 ((hO _).2 he0); (have := zO _ ((hO _).2 he0); omega)) | (rcases hi with h | h; (have := zO _ ((hO _).2 he0); omega); exact h.1.2.2 ((hO _).2 he0)) | exact hi.1.2.2 ((hO _).2 he0) | (have := zO _ ((hO _).2 he0); omega)))
  replace HGa := (HGa.ext e14).keep k15 (by intro i _ hi he; have he0 := he; (try dsimp only [NoK, AllB] at hi he); (try simp only [Value.ownBlock, Option.some.injEq] at he); first | exact hi.elim | exact he.elim | omega | (rcases hi with hi | hi <;> omega) | (rcases he with he | he <;> omega) | (have := (HOo).own_lt he0; omega) | (have := zo_HOo _ he0; omega) | (have := (HOo).own_lt he0; rcases hi with hi | hi <;> omega) | (first | exact hxo _ ((hX _).2 ho0) ((hO _).2 he0) | (rcases hi with h | h | h; exact absurd h.1.2.2 (fun k => k ((hO _).2 he0)); (have := zO _ ((hO _).2 he0); omega); (have := zO _ ((hO _).2 he0); omega)) | (rcases hi with h | h | h; (have := zO _ ((hO _).2 he0); omega); exact h.1.2.2 ((hO _).2 he0); (have := zO _ ((hO _).2 he0); omega)) | (rcases hi with h | h; (have := zO _ ((hO _).2 he0); omega); exact h.1.2.2 ((hO _).2 he0)) | exact hi.1.2.2 ((hO _).2 he0) | (have := zO _ ((hO _).2 he0); omega)))
  replace HOx := (HOx.ext e14).keep k15 (by intro i ho he; have he0 := he; have ho0 := ho; (try dsimp only [NoK] at he); (try simp only [Value.ownBlock, Option.some.injEq, reduceCtorEq] at ho); (try simp only [Value.ownBlock, Option.some.injEq, reduceCtorEq] at he); first | exact he.elim | exact ho.elim | omega | (have := zo_HOx _ ho0; omega) | (have := (HOo).own_lt he0; omega) | (have := zo_HOo _ he0; omega) | (first | exact hxo _ ((hX _).2 ho0) ((hO _).2 he0) | (rcases hi with h | h | h; exact absurd h.1.2.2 (fun k => k ((hO _).2 he0)); (have := zO _ ((hO _).2 he0); omega); (have := zO _ ((hO _).2 he0); omega)) | (rcases hi with h | h | h; (have := zO _ ((hO _).2 he0); omega); exact h.1.2.2 ((hO _).2 he0); (have := zO _ ((hO _).2 he0); omega)) | (rcases hi with h | h; (have := zO _ ((hO _).2 he0); omega); exact h.1.2.2 ((hO _).2 he0)) | exact hi.1.2.2 ((hO _).2 he0) | (have := zO _ ((hO _).2 he0); omega)) | (have := zo_HOx _ ho0; have := (HOo).own_lt he0; omega)) (by intro i _ hi _ he; have he0 := he; have hi := hi; have he := he; (try dsimp only [NoK, AllB] at hi he); (try simp only [Value.ownBlock, Option.some.injEq, reduceCtorEq] at he); all_goals first | exact hi.elim | exact hi.1.elim | exact he.elim | omega | (rcases hi with hi | hi <;> omega) | (rcases he with he | he <;> omega) | (have := (HOo).own_lt he0; omega) | (have := zo_HOo _ he0; omega) | (have := (HOo).own_lt he0; rcases hi with hi | hi <;> omega) | (first | exact hxo _ ((hX _).2 ho0) ((hO _).2 he0) | (rcases hi with h | h | h; exact absurd h.1.2.2 (fun k => k ((hO _).2 he0)); (have := zO _ ((hO _).2 he0); omega); (have := zO _ ((hO _).2 he0); omega)) | (rcases hi with h | h | h; (have := zO _ ((hO _).2 he0); omega); exact h.1.2.2 ((hO _).2 he0); (have := zO _ ((hO _).2 he0); omega)) | (rcases hi with h | h; (have := zO _ ((hO _).2 he0); omega); exact h.1.2.2 ((hO _).2 he0)) | exact hi.1.2.2 ((hO _).2 he0) | (have := zO _ ((hO _).2 he0); omega)))
  replace HSp := (HSp.ext e14).keep k15 (by intro i _ hi he; have he0 := he; (try dsimp only [NoK, AllB] at hi he); (try simp only [Value.ownBlock, Option.some.injEq] at he); first | exact hi.elim | exact he.elim | omega | (rcases hi with hi | hi <;> omega) | (rcases he with he | he <;> omega) | (have := (HOo).own_lt he0; omega) | (have := zo_HOo _ he0; omega) | (have := (HOo).own_lt he0; rcases hi with hi | hi <;> omega) | (first | exact hxo _ ((hX _).2 ho0) ((hO _).2 he0) | (rcases hi with h | h | h; exact absurd h.1.2.2 (fun k => k ((hO _).2 he0)); (have := zO _ ((hO _).2 he0); omega); (have := zO _ ((hO _).2 he0); omega)) | (rcases hi with h | h | h; (have := zO _ ((hO _).2 he0); omega); exact h.1.2.2 ((hO _).2 he0); (have := zO _ ((hO _).2 he0); omega)) | (rcases hi with h | h; (have := zO _ ((hO _).2 he0); omega); exact h.1.2.2 ((hO _).2 he0)) | exact hi.1.2.2 ((hO _).2 he0) | (have := zO _ ((hO _).2 he0); omega)))
  replace HGx := (HGx.ext e14).keep k15 (by intro i _ hi he; have he0 := he; (try dsimp only [NoK, AllB] at hi he); (try simp only [Value.ownBlock, Option.some.injEq] at he); first | exact hi.elim | exact he.elim | omega | (rcases hi with hi | hi <;> omega) | (rcases he with he | he <;> omega) | (have := (HOo).own_lt he0; omega) | (have := zo_HOo _ he0; omega) | (have := (HOo).own_lt he0; rcases hi with hi | hi <;> omega) | (first | exact hxo _ ((hX _).2 ho0) ((hO _).2 he0) | (rcases hi with h | h | h; exact absurd h.1.2.2 (fun k => k ((hO _).2 he0)); (have := zO _ ((hO _).2 he0); omega); (have := zO _ ((hO _).2 he0); omega)) | (rcases hi with h | h | h; (have := zO _ ((hO _).2 he0); omega); exact h.1.2.2 ((hO _).2 he0); (have := zO _ ((hO _).2 he0); omega)) | (rcases hi with h | h; (have := zO _ ((hO _).2 he0); omega); exact h.1.2.2 ((hO _).2 he0)) | exact hi.1.2.2 ((hO _).2 he0) | (have := zO _ ((hO _).2 he0); omega)))
  replace HB13 := (HB13.ext e14).keep k15 (by intro h; have he0 := h; (try dsimp only at h); (try simp only [Value.ownBlock, Option.some.injEq] at h); first | omega | (have := (HOo).own_lt he0; omega) | (have := zo_HOo _ he0; omega) | (have he := he0; first | exact hxo _ ((hX _).2 ho0) ((hO _).2 he0) | (rcases hi with h | h | h; exact absurd h.1.2.2 (fun k => k ((hO _).2 he0)); (have := zO _ ((hO _).2 he0); omega); (have := zO _ ((hO _).2 he0); omega)) | (rcases hi with h | h | h; (have := zO _ ((hO _).2 he0); omega); exact h.1.2.2 ((hO _).2 he0); (have := zO _ ((hO _).2 he0); omega)) | (rcases hi with h | h; (have := zO _ ((hO _).2 he0); omega); exact h.1.2.2 ((hO _).2 he0)) | exact hi.1.2.2 ((hO _).2 he0) | (have := zO _ ((hO _).2 he0); omega)))
  replace HO14 := HO14.keep k15 (by intro i ho he; have he0 := he; have ho0 := ho; (try dsimp only [NoK] at he); (try simp only [Value.ownBlock, Option.some.injEq, reduceCtorEq] at ho); (try simp only [Value.ownBlock, Option.some.injEq, reduceCtorEq] at he); first | exact he.elim | exact ho.elim | omega | (have := zo_HO14 _ ho0; omega) | (have := (HOo).own_lt he0; omega) | (have := zo_HOo _ he0; omega) | (first | exact hxo _ ((hX _).2 ho0) ((hO _).2 he0) | (rcases hi with h | h | h; exact absurd h.1.2.2 (fun k => k ((hO _).2 he0)); (have := zO _ ((hO _).2 he0); omega); (have := zO _ ((hO _).2 he0); omega)) | (rcases hi with h | h | h; (have := zO _ ((hO _).2 he0); omega); exact h.1.2.2 ((hO _).2 he0); (have := zO _ ((hO _).2 he0); omega)) | (rcases hi with h | h; (have := zO _ ((hO _).2 he0); omega); exact h.1.2.2 ((hO _).2 he0)) | exact hi.1.2.2 ((hO _).2 he0) | (have := zO _ ((hO _).2 he0); omega)) | (have := zo_HO14 _ ho0; have := (HOo).own_lt he0; omega)) (by intro i _ hi _ he; have he0 := he; have hi := hi; have he := he; (try dsimp only [NoK, AllB] at hi he); (try simp only [Value.ownBlock, Option.some.injEq, reduceCtorEq] at he); all_goals first | exact hi.elim | exact hi.1.elim | exact he.elim | omega | (rcases hi with hi | hi <;> omega) | (rcases he with he | he <;> omega) | (have := (HOo).own_lt he0; omega) | (have := zo_HOo _ he0; omega) | (have := (HOo).own_lt he0; rcases hi with hi | hi <;> omega) | (first | exact hxo _ ((hX _).2 ho0) ((hO _).2 he0) | (rcases hi with h | h | h; exact absurd h.1.2.2 (fun k => k ((hO _).2 he0)); (have := zO _ ((hO _).2 he0); omega); (have := zO _ ((hO _).2 he0); omega)) | (rcases hi with h | h | h; (have := zO _ ((hO _).2 he0); omega); exact h.1.2.2 ((hO _).2 he0); (have := zO _ ((hO _).2 he0); omega)) | (rcases hi with h | h; (have := zO _ ((hO _).2 he0); omega); exact h.1.2.2 ((hO _).2 he0)) | exact hi.1.2.2 ((hO _).2 he0) | (have := zO _ ((hO _).2 he0); omega)))
  obtain ⟨nb, hnb⟩ : ∃ n, n = w15.heap.size := ⟨_, rfl⟩
  refine l_v (zaS rfl) (l_nil (n_then (wp_any zk ?_)))
  have e111 : Ext w15 { w15 with drawn := w15.drawn + 1 } := Keep.drawn _ _
  generalize hw111 : ({ w15 with drawn := w15.drawn + 1 } : World) = w111 at e111 ⊢
  clear hw111
  have := e111.size
  refine r_cut 15 rfl zd zd zd ?_
  refine wp_regdW (NoK) zd zd ?_
  refine rt_v (fun vals w hR hd => zmS rfl) ?_
  refine rt_v (fun vals w hR hd => zmI rfl) ?_
  refine rt_v (fun vals w hR hd => zmI rfl) ?_
  refine rt_v (fun vals w hR hd => v_add (hd 2 rfl) rfl (by first | exact wr_i64 zo zo | rfl)) ?_
  refine rt_v (fun vals w hR hd => zmS rfl) ?_
  refine rt_v (fun vals w hR hd => zmI rfl) ?_
  refine rt_v (fun vals w hR hd => v_indexAddr (et := 28) (sz := 7) (k := i) zk zk (hd 4 rfl) (hd 5 rfl) (by first | rfl | omega) zo) ?_
  replace HPq := HPq.ext e111
  replace HB13 := HB13.ext e111
  refine rt_v (fun vals w hR hd => v_loadA zk (hd 6 rfl) (by first | exact (HB13.ext hR).pv | exact (HPq.ext hR) | assumption) rfl) ?_
  refine rt_v (fun vals w hR hd => v_build (pl := [(0, 1), (1, 1), (2, 1), (3, 7), (10, 3)]) (z := .agg #[.int .i64 0, .int .i64 0, .int .i64 0, .int .i64 0, .slice none 0 0, .slice none 0 0, .slice none 0 0, .slice none 0 0, .bool false, .int .i64 0, .int .i64 0, .slice none 0 0, .slice none 0 0]) (zl := [.int .i64 0, .int .i64 0, .int .i64 0, .int .i64 0, .slice none 0 0, .slice none 0 0, .slice none 0 0, .slice none 0 0, .bool false, .int .i64 0, .int .i64 0, .slice none 0 0, .slice none 0 0]) (ps := [(0, .int .i64 1), (1, .int .i64 1), (2, .int .i64 ((i : Int) + 1)), (3, .agg #[.int .i64 a.1, .slice g1 a.2.1.length f1, .slice g2 a.2.2.1.length f2, .slice g3 a.2.2.2.1.length f3, .slice g4 a.2.2.2.2.1.length f4, .bool a.2.2.2.2.2.1, .int .i64 a.2.2.2.2.2.2])]) zk (by unfold kZero; kernel_rfl) rfl (by refine parts4 (v0 := .int .i64 1) (v1 := .int .i64 1) (v2 := .int .i64 ((i : Int) + 1)) (v3 := .agg #[.int .i64 a.1, .slice g1 a.2.1.length f1, .slice g2 a.2.2.1.length f2, .slice g3 a.2.2.2.1.length f3, .slice g4 a.2.2.2.2.1.length f4, .bool a.2.2.2.2.2.1, .int .i64 a.2.2.2.2.2.2]) ?_ ?_ ?_ ?_; exact rfl; exact (hd 1 rfl); exact (hd 3 rfl); exact (hd 7 rfl)) (cells := [.int .i64 1, .int .i64 1, .int .i64 ((i : Int) + 1), .int .i64 a.1, .slice g1 a.2.1.length f1, .slice g2 a.2.2.1.length f2, .slice g3 a.2.2.2.1.length f3, .slice g4 a.2.2.2.2.1.length f4, .bool a.2.2.2.2.2.1, .int .i64 a.2.2.2.2.2.2, .int .i64 0, .slice none 0 0, .slice none 0 0]) rfl) ?_
  refine rt_v (fun vals w hR hd => zmI rfl) ?_
  refine rt_v (fun vals w hR hd => zmI rfl) ?_
  refine rt_v (fun vals w hR hd => v_add (hd 10 rfl) rfl (by first | exact wr_i64 zo zo | rfl)) ?_
  refine rt_v (fun vals w hR hd => v_loadA zk rfl (by first | exact (HB13.ext hR).pv | exact (HPq.ext hR) | assumption) rfl) ?_
  refine rt_v (fun vals w hR hd => v_build (pl := [(0, 1), (1, 1), (2, 1), (3, 7), (10, 3)]) (z := .agg #[.int .i64 0, .int .i64 0, .int .i64 0, .int .i64 0, .slice none 0 0, .slice none 0 0, .slice none 0 0, .slice none 0 0, .bool false, .int .i64 0, .int .i64 0, .slice none 0 0, .slice none 0 0]) (zl := [.int .i64 0, .int .i64 0, .int .i64 0, .int .i64 0, .slice none 0 0, .slice none 0 0, .slice none 0 0, .slice none 0 0, .bool false, .int .i64 0, .int .i64 0, .slice none 0 0, .slice none 0 0]) (ps := [(0, .int .i64 2), (1, .int .i64 1), (2, .int .i64 ((i : Int) + 1)), (4, .agg #[.int .i64 (doM (mQ [] Q) a).2.1, .slice x1 (doM (mQ [] Q) a).2.2.1.length y1, .slice x2 (doM (mQ [] Q) a).2.2.2.length y2])]) zk (by unfold kZero; kernel_rfl) rfl (by refine parts4 (v0 := .int .i64 2) (v1 := .int .i64 1) (v2 := .int .i64 ((i : Int) + 1)) (v3 := .agg #[.int .i64 (doM (mQ [] Q) a).2.1, .slice x1 (doM (mQ [] Q) a).2.2.1.length y1, .slice x2 (doM (mQ [] Q) a).2.2.2.length y2]) ?_ ?_ ?_ ?_; exact rfl; exact (hd 9 rfl); exact (hd 11 rfl); exact (hd 12 rfl)) (cells := [.int .i64 2, .int .i64 1, .int .i64 ((i : Int) + 1), .int .i64 0, .slice none 0 0, .slice none 0 0, .slice none 0 0, .slice none 0 0, .bool false, .int .i64 0, .int .i64 (doM (mQ [] Q) a).2.1, .slice x1 (doM (mQ [] Q) a).2.2.1.length y1, .slice x2 (doM (mQ [] Q) a).2.2.2.length y2]) rfl) ?_
  replace HGa := HGa.ext e111
  replace HGx := HGx.ext e111
  refine rt_to (fun v W => SlV tEv W (fun b => (F b ∧ b < n0) ∨ ((n0 ≤ b ∧ ¬ X b ∧ ¬ O b) ∧ b < n8) ∨ (n8 ≤ b ∧ b < n9) ∨ nb ≤ b) v [(1, 1, (i : Int) + 1, a, an0), (2, 1, (i : Int) + 1, ak0, (doM (mQ [] Q) a).2)]) (fun v w w' h k => h.ext k) (fun vals w hR hd => to_sliceAg (t := tEv) (F := fun b => (F b ∧ b < n0) ∨ ((n0 ≤ b ∧ ¬ X b ∧ ¬ O b) ∧ b < n8) ∨ (n8 ≤ b ∧ b < n9)) (xs := [(1, 1, (i : Int) + 1, a, an0), (2, 1, (i : Int) + 1, ak0, (doM (mQ [] Q) a).2)]) (vs := [_, _]) (et := 44) (bytes := 200) (zl := (List.replicate 2 ([.int .i64 0, .int .i64 0, .int .i64 0, .int .i64 0, .slice none 0 0, .slice none 0 0, .slice none 0 0, .slice none 0 0, .bool false, .int .i64 0, .int .i64 0, .slice none 0 0, .slice none 0 0] : List Value)).flatten) zk zq zq (by unfold kZeros; kernel_rfl) rfl (parts2 (hd 8 rfl) (hd 13 rfl)) rfl ⟨⟨_, rfl, tEv_mk (AgV.cells ((HGa.ext hR).mono fun b _ h => .inl h)) (tAn_mk (SlV.nil _ _ _) (SlV.nil _ _ _) ⟨by decide, by decide⟩) ⟨by decide, by decide⟩ ⟨by omega, by omega⟩ ⟨by omega, by omega⟩⟩, ⟨_, rfl, tEv_mk (tAk_mk (SlV.nil _ _ _) (SlV.nil _ _ _) (SlV.nil _ _ _) (SlV.nil _ _ _) ⟨by decide, by decide⟩ ⟨by decide, by decide⟩) (AgV.cells (HGx.ext hR)) ⟨by decide, by decide⟩ ⟨by omega, by omega⟩ ⟨by omega, by omega⟩⟩, trivial⟩ (fun b w1 hb HO e z => ⟨e, HO.view.mono fun b _ hb => by have := hR.size; exact hb.elim (fun h => .inr (.inr (.inr zo))) (fun h => h.1.elim .inl (fun h => .inr (h.elim .inl (fun h => .inr (.inl h)))))⟩)) ?_
  refine rt_nil (fun w112 e112 => ?_)
  rintro _ rfl _ rfl _ rfl _ rfl _ rfl _ rfl _ rfl _ rfl _ rfl _ rfl _ rfl _ rfl _ rfl _ rfl v35 HS35
  have := e112.size
  have HS35 : SlV tEv _ (fun b => (F b ∧ b < n0) ∨ ((n0 ≤ b ∧ ¬ X b ∧ ¬ O b) ∧ b < n8) ∨ (n8 ≤ b ∧ b < n9) ∨ nb ≤ b) v35 [(1, 1, (i : Int) + 1, a, an0), (2, 1, (i : Int) + 1, ak0, (doM (mQ [] Q) a).2)] := HS35
  obtain ⟨a35, c35, rfl⟩ := HS35.shape
  refine fin_nil (n_then (r_cut 1 rfl zd zd zd ?_))
  refine r_one zd rfl ?_
  obtain ⟨na, hna⟩ : ∃ n, n = w112.heap.size := ⟨_, rfl⟩
  replace HOx := (HOx.ext e111).ext e112
  have HOy := HOx.mono (F' := fun b => (F b ∧ b < n0) ∨ ((n0 ≤ b ∧ ¬ X b ∧ ¬ O b) ∧ b < n8) ∨ (n8 ≤ b ∧ b < n9) ∨ (nb ≤ b ∧ b < na)) fun b hb h => h.imp (fun h => h) (fun h => .inl ⟨h.1, by omega⟩)
  have zo_HOy := zo_HOx
  have zo_HOy := fun (b : Nat) h => HOy.own_lt (b := b) h
  refine l_to (to_append (et := 44) (bytes := 200) zk (zvS rfl) HOy (zvS rfl) HS35 (deepF fun b hb hb2 => ⟨hb2.imp (fun h => h) (fun h => h.imp (fun h => h) (fun h => h.imp (fun h => h) (fun h => ⟨h, by omega⟩))), fun ho => by have := zX _ ((hX _).2 ho); exact hb2.elim (fun h => by omega) (fun h => h.elim (fun h => h.1.2.1 ((hX _).2 ho)) (fun h => h.elim (fun h => by omega) (fun h => by omega)))⟩) (by first | omega | (simp; done) | (simp; omega)) (by simp only [maxLen]; first | omega | (simp; done) | (simp; omega)) zo ?_)
  rintro a29 n29 c29 w29 HO29 hn29 k29 h29 i29
  have := k29.size
  have hev : evQ 0 Q ++ [(1, 1, (i : Int) + 1, a, an0), (2, 1, (i : Int) + 1, ak0, (doM (mQ [] Q) a).2)] = evQ 0 (Q ++ [(1, a, (doM (mQ [] Q) a).2)]) := by rw [evQ_snoc, hQl]
  rw [hev] at HO29
  obtain rfl : n29 = 2 * (i + 1) := by have h := hn29; simp only [List.length_append, List.length_cons, List.length_nil, hQi] at h; omega
  have zo_HO29 := fun (b : Nat) h => HO29.own_lt (b := b) h
  refine l_nil (n_then (r_one zd rfl ?_))
  have hz29 : ∀ b, (Value.slice a29 (2 * (i + 1)) c29).ownBlock = some b → X b ∨ na ≤ b := fun b h => (h29 b h).elim (fun h => .inl ((hX b).2 h)) (fun h => .inr zo)
  have hQ1 : (Q ++ [((1, a, (doM (mQ [] Q) a).2) : QV)]).length = i + 1 := by simp [hQl]
  have hdn := doM_an hmm hma
  refine l_v (zaS rfl) (l_nil (n_blk (n_then (wp_reg zd (l_v (zmI rfl) (l_v (v_add rfl rfl (by first | exact wr_i64 zo zo | rfl)) ?_))))))
  replace E := ((E.trans e111.keep).trans e112.keep).step k29 (by intro i hi he; have he0 := he; (try dsimp only [NoK] at hi he ⊢); (try simp only [Value.ownBlock, Option.some.injEq] at he); first | exact he.elim | omega | exact he | (have := (HOy).own_lt he0; omega) | (have := zo_HOy _ he0; omega) | (have := (HOy).own_lt he0; rcases hi with hi | hi <;> omega) | (first | (have := zX _ ((hX _).2 he0); omega) | exact (hz15 _ ho0).2.elim (fun k => hxo _ ((hX _).2 he0) k) (fun k => by have := zX _ ((hX _).2 he0); omega) | (rcases hi with h | h | h; (have := zX _ ((hX _).2 he0); omega); exact h.1.2.1 ((hX _).2 he0); (have := zX _ ((hX _).2 he0); omega)) | (rcases hi with h | h | h | h; (have := zX _ ((hX _).2 he0); omega); exact h.1.2.1 ((hX _).2 he0); (have := zX _ ((hX _).2 he0); omega); (have := zX _ ((hX _).2 he0); omega))))
  replace HSl := ((HSl.ext e111).ext e112).keep k29 (by intro i _ hi he; have he0 := he; (try dsimp only [NoK, AllB] at hi he); (try simp only [Value.ownBlock, Option.some.injEq] at he); first | exact hi.elim | exact he.elim | omega | (rcases hi with hi | hi <;> omega) | (rcases he with he | he <;> omega) | (have := (HOy).own_lt he0; omega) | (have := zo_HOy _ he0; omega) | (have := (HOy).own_lt he0; rcases hi with hi | hi <;> omega) | (first | (have := zX _ ((hX _).2 he0); omega) | exact (hz15 _ ho0).2.elim (fun k => hxo _ ((hX _).2 he0) k) (fun k => by have := zX _ ((hX _).2 he0); omega) | (rcases hi with h | h | h; (have := zX _ ((hX _).2 he0); omega); exact h.1.2.1 ((hX _).2 he0); (have := zX _ ((hX _).2 he0); omega)) | (rcases hi with h | h | h | h; (have := zX _ ((hX _).2 he0); omega); exact h.1.2.1 ((hX _).2 he0); (have := zX _ ((hX _).2 he0); omega); (have := zX _ ((hX _).2 he0); omega))))
  replace HSc := ((HSc.ext e111).ext e112).keep k29 (by intro i _ hi he; have he0 := he; (try dsimp only [NoK, AllB] at hi he); (try simp only [Value.ownBlock, Option.some.injEq] at he); first | exact hi.elim | exact he.elim | omega | (rcases hi with hi | hi <;> omega) | (rcases he with he | he <;> omega) | (have := (HOy).own_lt he0; omega) | (have := zo_HOy _ he0; omega) | (have := (HOy).own_lt he0; rcases hi with hi | hi <;> omega) | (first | (have := zX _ ((hX _).2 he0); omega) | exact (hz15 _ ho0).2.elim (fun k => hxo _ ((hX _).2 he0) k) (fun k => by have := zX _ ((hX _).2 he0); omega) | (rcases hi with h | h | h; (have := zX _ ((hX _).2 he0); omega); exact h.1.2.1 ((hX _).2 he0); (have := zX _ ((hX _).2 he0); omega)) | (rcases hi with h | h | h | h; (have := zX _ ((hX _).2 he0); omega); exact h.1.2.1 ((hX _).2 he0); (have := zX _ ((hX _).2 he0); omega); (have := zX _ ((hX _).2 he0); omega))))
  replace EL1 := ((EL1.trans e111.keep).trans e112.keep).step k29 (by intro i hi he; have he0 := he; (try dsimp only [NoK] at hi he ⊢); (try simp only [Value.ownBlock, Option.some.injEq] at he); first | exact he.elim | omega | exact he | (have := (HOy).own_lt he0; omega) | (have := zo_HOy _ he0; omega) | (have := (HOy).own_lt he0; rcases hi with hi | hi <;> omega) | (first | (have := zX _ ((hX _).2 he0); omega) | exact (hz15 _ ho0).2.elim (fun k => hxo _ ((hX _).2 he0) k) (fun k => by have := zX _ ((hX _).2 he0); omega) | (rcases hi with h | h | h; (have := zX _ ((hX _).2 he0); omega); exact h.1.2.1 ((hX _).2 he0); (have := zX _ ((hX _).2 he0); omega)) | (rcases hi with h | h | h | h; (have := zX _ ((hX _).2 he0); omega); exact h.1.2.1 ((hX _).2 he0); (have := zX _ ((hX _).2 he0); omega); (have := zX _ ((hX _).2 he0); omega))))
  replace HSp := ((HSp.ext e111).ext e112).keep k29 (by intro i _ hi he; have he0 := he; (try dsimp only [NoK, AllB] at hi he); (try simp only [Value.ownBlock, Option.some.injEq] at he); first | exact hi.elim | exact he.elim | omega | (rcases hi with hi | hi <;> omega) | (rcases he with he | he <;> omega) | (have := (HOy).own_lt he0; omega) | (have := zo_HOy _ he0; omega) | (have := (HOy).own_lt he0; rcases hi with hi | hi <;> omega) | (first | (have := zX _ ((hX _).2 he0); omega) | exact (hz15 _ ho0).2.elim (fun k => hxo _ ((hX _).2 he0) k) (fun k => by have := zX _ ((hX _).2 he0); omega) | (rcases hi with h | h | h; (have := zX _ ((hX _).2 he0); omega); exact h.1.2.1 ((hX _).2 he0); (have := zX _ ((hX _).2 he0); omega)) | (rcases hi with h | h | h | h; (have := zX _ ((hX _).2 he0); omega); exact h.1.2.1 ((hX _).2 he0); (have := zX _ ((hX _).2 he0); omega); (have := zX _ ((hX _).2 he0); omega))))
  replace HO15 := ((HO15.ext e111).ext e112).keep k29 (by intro i ho he; have he0 := he; have ho0 := ho; (try dsimp only [NoK] at he); (try simp only [Value.ownBlock, Option.some.injEq, reduceCtorEq] at ho); (try simp only [Value.ownBlock, Option.some.injEq, reduceCtorEq] at he); first | exact he.elim | exact ho.elim | omega | (have := zo_HO15 _ ho0; omega) | (have := (HOy).own_lt he0; omega) | (have := zo_HOy _ he0; omega) | (first | (have := zX _ ((hX _).2 he0); omega) | exact (hz15 _ ho0).2.elim (fun k => hxo _ ((hX _).2 he0) k) (fun k => by have := zX _ ((hX _).2 he0); omega) | (rcases hi with h | h | h; (have := zX _ ((hX _).2 he0); omega); exact h.1.2.1 ((hX _).2 he0); (have := zX _ ((hX _).2 he0); omega)) | (rcases hi with h | h | h | h; (have := zX _ ((hX _).2 he0); omega); exact h.1.2.1 ((hX _).2 he0); (have := zX _ ((hX _).2 he0); omega); (have := zX _ ((hX _).2 he0); omega))) | (have := zo_HO15 _ ho0; have := (HOy).own_lt he0; omega)) (by intro i _ hi _ he; have he0 := he; have hi := hi; have he := he; (try dsimp only [NoK, AllB] at hi he); (try simp only [Value.ownBlock, Option.some.injEq, reduceCtorEq] at he); all_goals first | exact hi.elim | exact hi.1.elim | exact he.elim | omega | (rcases hi with hi | hi <;> omega) | (rcases he with he | he <;> omega) | (have := (HOy).own_lt he0; omega) | (have := zo_HOy _ he0; omega) | (have := (HOy).own_lt he0; rcases hi with hi | hi <;> omega) | (first | (have := zX _ ((hX _).2 he0); omega) | exact (hz15 _ ho0).2.elim (fun k => hxo _ ((hX _).2 he0) k) (fun k => by have := zX _ ((hX _).2 he0); omega) | (rcases hi with h | h | h; (have := zX _ ((hX _).2 he0); omega); exact h.1.2.1 ((hX _).2 he0); (have := zX _ ((hX _).2 he0); omega)) | (rcases hi with h | h | h | h; (have := zX _ ((hX _).2 he0); omega); exact h.1.2.1 ((hX _).2 he0); (have := zX _ ((hX _).2 he0); omega); (have := zX _ ((hX _).2 he0); omega))))
  replace HPq := (HPq.ext e112).keep k29 (by intro h; have he0 := h; (try dsimp only at h); (try simp only [Value.ownBlock, Option.some.injEq] at h); (try simp only [add_block] at h); (try simp only [add_block] at he0); first | omega | (have := (HOy).own_lt he0; omega) | (have := zo_HOy _ he0; omega) | (have he := he0; first | (have := zX _ ((hX _).2 he0); omega) | exact (hz15 _ ho0).2.elim (fun k => hxo _ ((hX _).2 he0) k) (fun k => by have := zX _ ((hX _).2 he0); omega) | (rcases hi with h | h | h; (have := zX _ ((hX _).2 he0); omega); exact h.1.2.1 ((hX _).2 he0); (have := zX _ ((hX _).2 he0); omega)) | (rcases hi with h | h | h | h; (have := zX _ ((hX _).2 he0); omega); exact h.1.2.1 ((hX _).2 he0); (have := zX _ ((hX _).2 he0); omega); (have := zX _ ((hX _).2 he0); omega))))
  replace HGa := (HGa.ext e112).keep k29 (by intro i _ hi he; have he0 := he; (try dsimp only [NoK, AllB] at hi he); (try simp only [Value.ownBlock, Option.some.injEq] at he); first | exact hi.elim | exact he.elim | omega | (rcases hi with hi | hi <;> omega) | (rcases he with he | he <;> omega) | (have := (HOy).own_lt he0; omega) | (have := zo_HOy _ he0; omega) | (have := (HOy).own_lt he0; rcases hi with hi | hi <;> omega) | (first | (have := zX _ ((hX _).2 he0); omega) | exact (hz15 _ ho0).2.elim (fun k => hxo _ ((hX _).2 he0) k) (fun k => by have := zX _ ((hX _).2 he0); omega) | (rcases hi with h | h | h; (have := zX _ ((hX _).2 he0); omega); exact h.1.2.1 ((hX _).2 he0); (have := zX _ ((hX _).2 he0); omega)) | (rcases hi with h | h | h | h; (have := zX _ ((hX _).2 he0); omega); exact h.1.2.1 ((hX _).2 he0); (have := zX _ ((hX _).2 he0); omega); (have := zX _ ((hX _).2 he0); omega))))
  replace HGx := (HGx.ext e112).keep k29 (by intro i _ hi he; have he0 := he; (try dsimp only [NoK, AllB] at hi he); (try simp only [Value.ownBlock, Option.some.injEq] at he); first | exact hi.elim | exact he.elim | omega | (rcases hi with hi | hi <;> omega) | (rcases he with he | he <;> omega) | (have := (HOy).own_lt he0; omega) | (have := zo_HOy _ he0; omega) | (have := (HOy).own_lt he0; rcases hi with hi | hi <;> omega) | (first | (have := zX _ ((hX _).2 he0); omega) | exact (hz15 _ ho0).2.elim (fun k => hxo _ ((hX _).2 he0) k) (fun k => by have := zX _ ((hX _).2 he0); omega) | (rcases hi with h | h | h; (have := zX _ ((hX _).2 he0); omega); exact h.1.2.1 ((hX _).2 he0); (have := zX _ ((hX _).2 he0); omega)) | (rcases hi with h | h | h | h; (have := zX _ ((hX _).2 he0); omega); exact h.1.2.1 ((hX _).2 he0); (have := zX _ ((hX _).2 he0); omega); (have := zX _ ((hX _).2 he0); omega))))
  replace HB13 := (HB13.ext e112).keep k29 (by intro h; have he0 := h; (try dsimp only at h); (try simp only [Value.ownBlock, Option.some.injEq] at h); first | omega | (have := (HOy).own_lt he0; omega) | (have := zo_HOy _ he0; omega) | (have he := he0; first | (have := zX _ ((hX _).2 he0); omega) | exact (hz15 _ ho0).2.elim (fun k => hxo _ ((hX _).2 he0) k) (fun k => by have := zX _ ((hX _).2 he0); omega) | (rcases hi with h | h | h; (have := zX _ ((hX _).2 he0); omega); exact h.1.2.1 ((hX _).2 he0); (have := zX _ ((hX _).2 he0); omega)) | (rcases hi with h | h | h | h; (have := zX _ ((hX _).2 he0); omega); exact h.1.2.1 ((hX _).2 he0); (have := zX _ ((hX _).2 he0); omega); (have := zX _ ((hX _).2 he0); omega))))
  replace HS35 := HS35.keep k29 (by intro i _ hi he; have he0 := he; (try dsimp only [NoK, AllB] at hi he); (try simp only [Value.ownBlock, Option.some.injEq] at he); first | exact hi.elim | exact he.elim | omega | (rcases hi with hi | hi <;> omega) | (rcases he with he | he <;> omega) | (have := (HOy).own_lt he0; omega) | (have := zo_HOy _ he0; omega) | (have := (HOy).own_lt he0; rcases hi with hi | hi <;> omega) | (first | (have := zX _ ((hX _).2 he0); omega) | exact (hz15 _ ho0).2.elim (fun k => hxo _ ((hX _).2 he0) k) (fun k => by have := zX _ ((hX _).2 he0); omega) | (rcases hi with h | h | h; (have := zX _ ((hX _).2 he0); omega); exact h.1.2.1 ((hX _).2 he0); (have := zX _ ((hX _).2 he0); omega)) | (rcases hi with h | h | h | h; (have := zX _ ((hX _).2 he0); omega); exact h.1.2.1 ((hX _).2 he0); (have := zX _ ((hX _).2 he0); omega); (have := zX _ ((hX _).2 he0); omega))))
  refine l_v (zaI rfl) (l_nil (n_then (⟨(Q ++ [(1, a, (doM (mQ [] Q) a).2)], u1, u2, a29, c29, a15, c15), _, rfl, by (repeat' (first | exact Off.of_over _ _ _ | refine Off.upd ?_ zq _ | refine Off.overs ?_ zq _)), ⟨by first | rfl | exact congrArg (Value.int _) zo | (simp; done) | (simp only [hQ1, mQ_snoc]; rfl), by first | rfl | exact congrArg (Value.int _) zo | (simp; done) | (simp only [hQ1, mQ_snoc]; rfl), by first | rfl | exact congrArg (Value.int _) zo | (simp; done) | (simp only [hQ1, mQ_snoc]; rfl), by first | rfl | exact congrArg (Value.int _) zo | (simp; done) | (simp only [hQ1, mQ_snoc]; rfl), trivial⟩, ⟨E, EL1, ?_⟩, ?_⟩)))
  ·
   simp only [hQ1]
   refine ⟨by omega, ?_, ownQ_snoc _ _ _ hown rfl, ?_, HO29.mono fun b hb h => ?_, HO15, fun b g1 g2 => ?_⟩
   ·
    intro q hq
    rcases List.mem_append.1 hq with h | h
    ·
     exact hok q h
    obtain rfl := List.mem_singleton.1 h
    exact ⟨by dsimp only; omega, by dsimp only; omega, hma, hdn.1⟩
   ·
    rw [mQ_snoc]
    refine HSp.mono fun b hb h => ⟨by omega, fun ho => ?_, fun ho => ?_⟩
    ·
     exact (hz29 b ho).elim (fun k => by have := zX b k; omega) (fun k => by omega)
    exact (hz15 b ho).2.elim (fun k => by have := zO b k; omega) (fun k => by omega)
   ·
    refine h.imp (fun h => h) (fun h => ⟨by rcases h with h | h | h <;> omega, fun ho => ?_, fun ho => ?_⟩)
    ·
     rcases h with h | h | h
     ·
      exact (hz29 b ho).elim h.1.2.1 (fun k => by omega)
     ·
      exact (hz29 b ho).elim (fun k => by have := zX b k; omega) (fun k => by omega)
     exact (hz29 b ho).elim (fun k => by have := zX b k; omega) (fun k => by omega)
    have h5 := hz15 b ho
    rcases h with h | h | h
    ·
     exact h5.2.elim h.1.2.2 (fun k => by omega)
    ·
     exact h5.2.elim (fun k => by have := zO b k; omega) (fun k => by omega)
    omega
   have h5 := hz15 b g2
   exact (hz29 b g1).elim (fun k => h5.2.elim (fun h => hxo b k h) (fun h => by have := zX b k; omega)) (fun k => by omega)
  (dsimp only; omega)
 have hlen : Q.length = l.length := by have := dfalse hlt; omega
 have hl32 : Q.length ≤ 32 := by omega
 have hel : (evQ 0 Q).length = 2 * Q.length := evQ_len Q 0
 have hjd := jdg_own hok hown hl32
 have HSe := HOx.view.mono (F' := AllB) fun _ _ _ => trivial
 have HSo := HOo.view.mono (F' := AllB) fun _ _ _ => trivial
 refine c_exit (x_then (x_then (x_hit (n_then (c_seq (wp_reg zd (l_v (zmS rfl) (l_to (to_f1 zk (zvS rfl) (CallsR.mono (Order_k HSe zo hjd) ?_))))))))))
 rintro _ w41 ⟨oa, oc, rfl, HSq, e41⟩
 have := e41.size
 refine l_v (zmT rfl) (l_v (v_extract (t := .slice _ _ _) rfl rfl) (l_v (v_extract (t := .int _ _) rfl rfl) (l_v (zaS rfl) (l_v (zaI rfl) (l_nil (n_then (c_seq (wp_reg zd (l_v (zmS rfl) ?_)))))))))
 replace HSe := HSe.ext e41
 refine l_to (to_f1 zk (zvS rfl) (CallsR.mono (Map_k HSe zo hjd) ?_))
 rintro _ w42 ⟨ma, mc, rfl, HSn, e42⟩
 have := e42.size
 refine l_v (zmT rfl) (l_v (v_extract (t := .slice _ _ _) rfl rfl) (l_v (v_extract (t := .int _ _) rfl rfl) (l_v (zaS rfl) (l_v (zaI rfl) (l_nil (n_then (c_seq (c_seq (wp_reg zd ?_)))))))))
 refine l_v (zmI rfl) (l_to (to_f1 zk (zvI rfl) (CallsR.mono (num_c) ?_)))
 rintro _ w113 ⟨rfl, e113⟩
 have := e113.size
 refine l_v (zmI rfl) (l_to (to_f1 zk (zvI rfl) (CallsR.mono (num_c) ?_)))
 rintro _ w114 ⟨rfl, e114⟩
 have := e114.size
 refine l_v (v_add rfl rfl (by first | exact wr_i64 zo zo | rfl)) ?_
 refine l_v (v_neq rfl rfl) ?_
 replace HSo := (((HSo.ext e41).ext e42).ext e113).ext e114
 replace HSq := ((HSq.ext e42).ext e113).ext e114
 refine l_v (zmB rfl) (l_g1 rfl rfl (fun hG => zmS rfl) (l_g1 rfl rfl (fun hG => zmS rfl) (l_g1f rfl rfl (fun hG => to_f2 zk (gd hG rfl) (gd hG rfl) (ints_c HSq HSo)) ?_)))
 rintro w115 e115
 have := e115.size
 refine l_g1 rfl rfl (fun hG => v_not (gd hG rfl)) ?_
 refine l_v (v_or rfl rfl) ?_
 replace HSm := ((((HSm.ext e41).ext e42).ext e113).ext e114).ext e115
 replace HSn := ((HSn.ext e113).ext e114).ext e115
 refine l_v (zmB rfl) (l_g1 rfl rfl (fun hG => zmS rfl) (l_g1 rfl rfl (fun hG => zmS rfl) (l_g1f rfl rfl (fun hG => to_f2 zk (gd hG rfl) (gd hG rfl) (SameMap_c HSn HSm)) ?_)))
 rintro w116 e116
 have := e116.size
 refine l_g1 rfl rfl (fun hG => v_not (gd hG rfl)) ?_
 refine l_v (v_or rfl rfl) ?_
 replace E := (((((E.trans e41.keep).trans e42.keep).trans e113.keep).trans e114.keep).trans e115.keep).trans e116.keep
 replace HSl := (((((HSl.ext e41).ext e42).ext e113).ext e114).ext e115).ext e116
 replace HSc := (((((HSc.ext e41).ext e42).ext e113).ext e114).ext e115).ext e116
 replace HOx := (((((HOx.ext e41).ext e42).ext e113).ext e114).ext e115).ext e116
 replace HSe := ((((HSe.ext e42).ext e113).ext e114).ext e115).ext e116
 replace HSo := (HSo.ext e115).ext e116
 replace HSq := (HSq.ext e115).ext e116
 replace HSm := HSm.ext e116
 replace HSn := HSn.ext e116
 refine l_nil (n_then (c_cond rfl rfl (fun hc4 => ?_) (fun hc4 => ?_)))
 ·
  simp at hc4
 refine c_skip (n_then (c_seq (c_seq (wp_reg zd (l_v (zmS rfl) (l_v (v_len (et := 44) zk rfl) ?_))))))
 refine l_v (v_eql rfl rfl) ?_
 refine l_nil (n_then (c_cond rfl rfl (fun hz0 => ?_) (fun hz0 => ?_)))
 ·
  refine c_seq (wp_reg zd (l_v (v_assign rfl) (l_nil (n_then (c_ret (r_then (ret1v rfl zq (zvB rfl) ?_)))))))
  exact ⟨rfl, E⟩
 have hz0 := dfalse hz0
 have hcx := HOx.cap
 obtain ⟨be, rfl, _, _⟩ := HOx.addr (fun h => by have := congrArg List.length h; rw [hel] at this; simp at this; omega)
 have HSt : SlV tEv w116 AllB (.slice (some ⟨be, 0, none⟩) (2 * Q.length - 1) ce) ((evQ 0 Q).take (2 * Q.length - 1)) := (HOx.pre (m := 2 * Q.length - 1) zo).view.mono fun _ _ _ => trivial
 have htk := jdg_tk hok hown hl32 zo
 refine c_skip (n_then (c_seq (wp_reg zd (l_v (zmS rfl) (l_v (zmS rfl) (l_v (v_len (et := 44) zk rfl) ?_))))))
 refine l_v (v_sub rfl rfl (by first | exact wr_i64 zo zo | rfl)) ?_
 refine l_v (v_slicePre (et := 44) (sz := 13) (h := 2 * Q.length - 1) zk zk rfl rfl (by first | rfl | omega) zo) ?_
 refine l_to (to_f1 zk (zvS rfl) (CallsR.mono (Check_l HSt (by rw [List.length_take]; omega) htk) ?_))
 rintro _ w117 ⟨rfl, e117⟩
 have := e117.size
 refine l_v (zmT rfl) (l_v (v_extract (t := .int _ _) rfl rfl) (l_v (v_extract (t := .int _ _) rfl rfl) (l_v (zaI rfl) (l_v (zaI rfl) (l_nil (n_then (c_seq (c_seq (wp_reg zd ?_)))))))))
 refine l_v (zmI rfl) (l_to (to_f1 zk (zvI rfl) (CallsR.mono (num_c) ?_)))
 rintro _ w118 ⟨rfl, e118⟩
 have := e118.size
 refine l_v (v_neq rfl rfl) ?_
 replace E := (E.trans e117.keep).trans e118.keep
 replace HSl := (HSl.ext e117).ext e118
 replace HSc := (HSc.ext e117).ext e118
 replace HSm := (HSm.ext e117).ext e118
 replace HSe := (HSe.ext e117).ext e118
 replace HSo := (HSo.ext e117).ext e118
 replace HSq := (HSq.ext e117).ext e118
 replace HSn := (HSn.ext e117).ext e118
 replace HSt := (HSt.ext e117).ext e118
 refine l_nil (n_then (c_cond rfl rfl (fun hc5 => ?_) (fun hc5 => ?_)))
 ·
  simp at hc5
 refine c_skip (n_then (c_seq (c_seq (wp_reg zd (l_v (zmI rfl) (l_v (v_lss rfl rfl) ?_))))))
 refine l_nil (n_then (c_cond rfl rfl (fun hat0 => ?_) (fun hat0 => ?_)))
 ·
  refine c_seq (wp_reg zd (l_v (v_assign rfl) (l_nil (n_then (c_ret (r_then (ret1v rfl zq (zvB rfl) ?_)))))))
  exact ⟨rfl, E⟩
 have hat0 := dfalse hat0
 obtain ⟨t, ht⟩ : ∃ t : Nat, at'.tmod (l.length : Int) = (t : Int) := ⟨(at'.tmod (l.length : Int)).toNat, by rw [tm_nn zo]; have := Int.emod_nonneg at' (b := (l.length : Int)) zo; omega⟩
 have htl : t < l.length := by rw [tm_nn zo] at ht; have := Int.emod_lt_of_pos at' (b := (l.length : Int)) zo; omega
 refine c_skip (n_then (c_seq (wp_reg zd (l_v (zmI rfl) (l_v (zmS rfl) (l_v (v_len (et := 28) zk rfl) ?_))))))
 refine l_v (v_rem (t := (t : Int)) rfl rfl (by first | decide | omega) (ht)) ?_
 obtain ⟨qt, hqt, _⟩ := getE (l := Q) (i := t) zo
 have hbad := jdg_bad hok hown hl32 hqt
 have hx0 := evQ_get Q 0 t qt hqt
 rw [Nat.zero_add] at hx0
 refine l_v (v_mul rfl rfl (by first | exact wr_i64 zo zo | rfl)) ?_
 refine l_v (v_add rfl rfl (by first | exact wr_i64 zo zo | rfl)) ?_
 refine l_v (zaI rfl) (l_nil (n_then (c_seq (wp_reg zd (l_v (zmS rfl) (l_to (to_appNil (et := 44) (bytes := 200) (F := AllB) zk rfl (zvS rfl) HSe ((fun cs z h => h)) (zo) ?_)))))))
 rintro v50 w50 HO50 e50
 have := e50.size
 obtain ⟨a50, c50, rfl⟩ := HO50.shape
 obtain ⟨bb, rfl, _, _⟩ := HO50.addr (fun h => by have := congrArg List.length h; rw [hel] at this; simp at this; omega)
 have zo_HO50 := fun (b : Nat) h => HO50.own_lt (b := b) h
 replace E := E.trans e50.keep
 replace HSl := HSl.ext e50
 replace HSc := HSc.ext e50
 replace HSm := HSm.ext e50
 replace HSe := HSe.ext e50
 replace HSo := HSo.ext e50
 replace HSq := HSq.ext e50
 replace HSn := HSn.ext e50
 have hrx : ∀ (W : World) (G : Nat → Prop) cl, tEv.rep W G cl (2, qt.1, (t : Int) + 1, ak0, qt.2.2) → tEv.rep W G (setAt cl 10 [.int .i64 10, .slice none 0 0, .slice none 0 0]) (2, qt.1, (t : Int) + 1, ak0, ((10, [], []) : AnV)) := by
  intro W G cl hcl
  obtain ⟨y1, f1, y2, f2, y3, f3, y4, f4, y5, f5, y6, f6, rfl, k1, k2, k3, k4, k5⟩ := tEv_cells hcl
  have h := tEv_mk (AgV.cells k1) (show tAn.rep W G [.int .i64 10, .slice none 0 0, .slice none 0 0] ((10, [], []) : AnV) from tAn_mk (SlV.nil _ _ _) (SlV.nil _ _ _) ⟨by decide, by decide⟩) k3 k4 k5
  exact h
 refine l_v (zaS rfl) (l_nil (n_then (c_seq (wp_reg zd (l_v (zmS rfl) (l_v (zmI rfl) (l_v (v_build (pl := [(0, 1), (1, 1), (2, 1)]) (z := .agg #[.int .i64 0, .slice none 0 0, .slice none 0 0]) (zl := [.int .i64 0, .slice none 0 0, .slice none 0 0]) zk (by unfold kZero; kernel_rfl) rfl rfl (cells := [_, _, _]) rfl) ?_)))))))
 refine l_v (v_indexAddr (et := 44) (sz := 13) (k := 2 * t + 1) zk zk rfl rfl (by first | rfl | omega) zo) ?_
 refine l_v (v_fieldAddr (off := 10) (ft := 31) zk rfl) (l_to (to_storeOP (k := 2 * t + 1) (off := 10) (m := 3) rfl ((by rw [show tEv.sz = 13 from rfl]; simp [add_lit])) (zvA rfl) zk rfl zq (one_all (by rfl)) HO50 (x0 := (2, qt.1, (t : Int) + 1, ak0, qt.2.2)) (x1 := (2, qt.1, (t : Int) + 1, ak0, ((10, [], []) : AnV))) hx0 (fun cl h => hrx _ _ cl h) ?_))
 rintro w61 HO61 k61 z61
 have := k61.size
 have HSz := HO61.view
 have zo_HO61 := fun (b : Nat) h => HO61.own_lt (b := b) h
 refine l_nil (n_then (c_seq (wp_reg zd (l_v (zmS rfl) (l_to (to_f1 zk (zvS rfl) (CallsR.mono (Check_l HSz (by rw [List.length_set]; omega) hbad) ?_)))))))
 replace HSl := HSl.keep k61 (by intro i _ hi he; have he0 := he; (try dsimp only [NoK, AllB] at hi he); (try simp only [Value.ownBlock, Option.some.injEq] at he); first | exact hi.elim | exact he.elim | omega | (rcases hi with hi | hi <;> omega) | (rcases he with he | he <;> omega) | (omega))
 replace HSc := HSc.keep k61 (by intro i _ hi he; have he0 := he; (try dsimp only [NoK, AllB] at hi he); (try simp only [Value.ownBlock, Option.some.injEq] at he); first | exact hi.elim | exact he.elim | omega | (rcases hi with hi | hi <;> omega) | (rcases he with he | he <;> omega) | (omega))
 rintro _ w119 ⟨rfl, e119⟩
 have := e119.size
 refine l_v (zmT rfl) (l_v (v_extract (t := .int _ _) rfl rfl) (l_v (v_extract (t := .int _ _) rfl rfl) (l_v (zaI rfl) (l_v (zaI rfl) (l_nil (n_then (c_seq (wp_reg zd (l_v (zmI rfl) ?_)))))))))
 refine l_to (to_f1 zk (zvI rfl) (CallsR.mono (num_c) ?_))
 rintro _ w120 ⟨rfl, e120⟩
 have := e120.size
 refine l_v (v_eql rfl rfl) ?_
 refine l_v (zaB rfl) (l_nil (n_then (c_ret (ret1v rfl zq (zvB rfl) ?_))))
 replace E := ((E.step k61 (by intro i hi he; have he0 := he; (try dsimp only [NoK] at hi he ⊢); (try simp only [Value.ownBlock, Option.some.injEq] at he); first | exact he.elim | omega | exact he | (omega))).trans e119.keep).trans e120.keep
 refine ⟨?_, E⟩
 simp
end Go.Proofs.Ytifnkmflmgnfjaa
