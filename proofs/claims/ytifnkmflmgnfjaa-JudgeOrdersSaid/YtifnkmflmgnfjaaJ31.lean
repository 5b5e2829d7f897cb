/- A part of the proof: steps and lemmas for the walks through the given program. -/
import Derived.Test.YtifnkmflmgnfjaaJ30
import Derived.Test.YtifnkmflmgnfjaaJ10
import Derived.Test.YtifnkmflmgnfjaaJf
import Derived.Test.YtifnkmflmgnfjaaJh
import Derived.Test.YtifnkmflmgnfjaaJVr
namespace Go.Proofs.Ytifnkmflmgnfjaa
open Go.Vc
set_option linter.unusedVariables false
set_option linter.unusedSimpArgs false
set_option maxRecDepth 100000

def RtP (r : List JdV) (tb bD n1 : Nat) (ar : Option Addr) (cr cd : Nat) (X : Nat → Prop) (d : List Bool) (ord : List Nat) (m : MapV) (S : Nat → List (List UInt8)) (n : Nat) (o : Value) (W : World) : Prop :=
  ∃ ua un uc b, o = .tuple #[.slice ua un uc, .bool b] ∧
  (b = true → ∃ os m' ao co c1 cells, seekU r d m = some (os, m') ∧ SlV tPr W AllB (.slice ua un uc) m' ∧ Blk W tb (.slice ar r.length cr :: c1 :: .slice ao (ord ++ os).length co :: cells) 101 ∧ SlV (tInt .i64) W AllB (.slice ao (ord ++ os).length co) (intsN (ord ++ os))) ∧
  (b = false → seekU r d m = none ∧ ∃ ao co vs S' V, Blk W tb (.slice ar r.length cr :: .slice (some ⟨bD, 0, none⟩) r.length cd :: .slice ao ord.length co :: vs) 101 ∧ OwV tBool 4 W n1 NoK (.slice (some ⟨bD, 0, none⟩) r.length cd) d ∧ OwV (tInt .i64) 3 W n1 NoK (.slice ao ord.length co) (intsN ord) ∧ VnR r 9 W n1 V vs S' ∧ (∀ b, V b → (X b ∨ n ≤ b) ∧ b ≠ tb ∧ b ≠ bD ∧ (Value.slice ao ord.length co).ownBlock ≠ some b) ∧ (∀ b, (Value.slice ao ord.length co).ownBlock = some b → (X b ∨ n ≤ b) ∧ b ≠ tb ∧ b ≠ bD) ∧ (∀ k s, s ∈ S' k → s ∈ S k ∨ ∃ d' m', s = keyR d' m' ∧ d'.length = r.length ∧ unD d' ≤ unD d))
theorem keyR_len {d : List Bool} {m : MapV} (hm : ∀ p ∈ m, okP p = true) : (keyR d m).length ≤ d.length + 66 * m.length := by
  have := mTx_len hm
  simp only [keyR, List.length_append, refT, List.length_map]
  omega
theorem x9 {X : Nat → Prop} {n0 n9 nA b : Nat} (h : X b ∨ n0 ≤ b) (hb : b < n9) : (X b ∧ b < n0) ∨ (n0 ≤ b ∧ ¬ (n9 ≤ b ∧ b < nA)) := by
  rcases Nat.lt_or_ge b n0 with k | k
  · exact .inl ⟨h.resolve_right zo, k⟩
  · exact .inr ⟨k, by omega⟩
theorem keyR_d {r : List JdV} {d d' : List Bool} {m m' : MapV} (h1 : d.length = r.length) (h2 : d'.length = r.length) (h : keyR d m = keyR d' m') : d = d' := by
  obtain ⟨e, _⟩ := List.append_inj h (by simp [refT, h1, h2])
  exact refT_inj e
set_option maxHeartbeats 8000000 in
theorem rtry_c {r : List JdV} {tb bD n1 : Nat} {ar : Option Addr} {cr cd : Nat} (hr : RP r) (hak : ∀ x ∈ r, mayAk x.1.2.2 = true) (hans : ∀ x ∈ r, x.2.2.1 < 0 ∨ x.2.1 < x.2.2.1) (htd : tb ≠ bD) :
    ∀ (n : Nat) {w : World} {d : List Bool} {ord : List Nat} {m : MapV} {vm : Value} {ao : Option Addr} {co : Nat} {vs : List Value} {S : Nat → List (List UInt8)} {V X : Nat → Prop}, unD d = n → GdS r d m → m.length + n ≤ 32 → ord.length + n ≤ 32 → n1 ≤ w.heap.size →
      Blk w tb (.slice ar r.length cr :: .slice (some ⟨bD, 0, none⟩) r.length cd :: .slice ao ord.length co :: vs) 101 → OwV tBool 4 w n1 NoK (.slice (some ⟨bD, 0, none⟩) r.length cd) d → OwV (tInt .i64) 3 w n1 NoK (.slice ao ord.length co) (intsN ord) → VnR r 9 w n1 V vs S →
      (∀ b, V b → X b ∧ b ≠ tb ∧ b ≠ bD ∧ (Value.slice ao ord.length co).ownBlock ≠ some b) → (∀ b, (Value.slice ao ord.length co).ownBlock = some b → X b ∧ b ≠ tb ∧ b ≠ bD) → X tb → X bD →
      SlV tJd w (fun b => ¬ X b) (.slice ar r.length cr) r → SlV tPr w (fun b => ¬ X b) vm m →
      CallsR Try.prog 51 #[.pointer (some ⟨tb, 0, none⟩), vm] w (fun o w' => RtP r tb bD n1 ar cr cd X d ord m S w.heap.size o w' ∧ Keep X w w') := by
 have hr32 := hr.len
 intro n
 induction n using Nat.strongRecOn with
 | ind n ih =>
 intro w d ord m vm ao co vs S V X hn g hml hol hn1 HBt HOd HOo HTv hV hO hXt hXd HSr HSm
 obtain ⟨am, cm, rfl⟩ := HSm.shape
 obtain ⟨n0, hn0⟩ : ∃ k, k = w.heap.size := ⟨_, rfl⟩
 have hdl := g.len
 have hmm := g.may
 have hkl := keyR_len (d := d) (mayMp_ok hmm)
 have ztb := HBt.lt
 have zbd : bD < w.heap.size := (HOd.own_lt (b := bD) rfl).2
 replace HSr := HSr.mono (F' := fun b => ¬ X b ∧ b < n0) fun b hb h => ⟨h, by omega⟩
 replace HSm := HSm.mono (F' := fun b => ¬ X b ∧ b < n0) fun b hb h => ⟨h, by omega⟩
 rw [← hn0]
 refine enter 146 Try.func51 rfl rfl (by simp) ?_
 refine c_seq ?_
 have E := Keep.refl (K := fun b => X b) w
 have zo_HOd := fun (b : Nat) h => HOd.own_lt (b := b) h
 have zo_HOo := fun (b : Nat) h => HOo.own_lt (b := b) h
 refine wp_reg zd (l_v (v_assign rfl) (l_v (v_assign rfl) (l_nil (n_then (c_seq (c_seq (wp_reg zd (l_v (zmP rfl) (l_to (to_f1 zk (zvP rfl) (CallsR.mono (all_c HBt HSr HOd.view hdl hr32) ?_)))))))))))
 rintro _ w101 ⟨rfl, e101⟩
 have := e101.size
 replace E := E.trans e101.keep
 replace HBt := HBt.ext e101
 replace HOd := HOd.ext e101
 replace HOo := HOo.ext e101
 replace HTv := HTv.ext e101
 replace HSr := HSr.ext e101
 replace HSm := HSm.ext e101
 refine l_nil (n_then (c_cond rfl rfl (fun hw => ?_) (fun hw => ?_)))
 ·
  refine c_seq (wp_reg zd (l_v (zmS rfl) (l_v (zaS rfl) (l_v (v_assign rfl) (l_nil (n_then (c_ret (r_then (ret2v rfl zq zq (zvS rfl) (zvB rfl) ?_)))))))))
  refine ⟨⟨am, m.length, cm, true, rfl, fun _ => ⟨[], m, ao, co, .slice (some ⟨bD, 0, none⟩) r.length cd, vs, ?_, HSm.allB, ?_, ?_⟩, fun h => by cases h⟩, E⟩
  ·
   rw [seekU_eq hdl, if_pos hw]
  ·
   rw [List.append_nil]; exact HBt
  rw [List.append_nil]; exact HOo.view.mono fun b _ h => trivial
 refine c_skip (n_then (c_seq (wp_reg zd (l_v (zmP rfl) (l_v (zmS rfl) (l_to (to_f2 zk (zvP rfl) (zvS rfl) (CallsR.mono (text_c HBt HOd.view HSm (mayMp_ok hmm) zo hdl hr32) ?_))))))))
 rintro _ w102 ⟨rfl, e102⟩
 have := e102.size
 refine l_v (v_assign (t := .string _) rfl) (l_nil (n_then (c_seq (wp_reg zd (l_v (v_move (t := .string _) rfl) (l_to (to_f1 zk (zvG rfl) (CallsR.mono (bucket_c (s := keyR d m) zo) ?_))))))))
 rintro _ w21 ⟨⟨k, rfl, hk⟩, e21⟩
 have := e21.size
 replace HTv := (HTv.ext e102).ext e21
 obtain ⟨ak, ck, hvk, HOk, hVk⟩ := HTv.at hk
 replace HBt := (HBt.ext e102).ext e21
 have HPk := tr_pv HBt hvk
 have hkm := HOk.view.len_max
 have zo_HOk := fun (b : Nat) h => HOk.own_lt (b := b) h
 refine l_v (zaI rfl) (l_nil (n_then (c_seq (c_seq (wp_reg zd (l_v (v_assign rfl) (l_nil (n_then (c_block ?_)))))))))
 replace E := (E.trans e102.keep).trans e21.keep
 refine c_loop (τ := Nat) [4, 5, 8, 23, 24, 25, 26, 27, 28, 29, 30, 31, 32, 33, 34, 35, 36, 37, 38, 39, 40, 41, 42, 43, 44] (fun i => [(8, .int .i64 i)]) (fun i W => Keep (fun b => X b) w W ∧ Keep (NoK) w21 W ∧ i ≤ (S k).length ∧ ∀ t, t < i → (S k)[t]? ≠ some (keyR d m)) (fun i => (S k).length - i) 0 (by exact ⟨rfl, trivial⟩) (by exact ⟨E, Keep.refl _, Nat.zero_le _, fun t ht => by omega⟩) ?_
 rintro i w103 j ⟨E, EL1, h1, h2⟩
 have := EL1.size
 refine c_seq (c_seq (wp_reg zd (l_v (zmI rfl) (l_v (zmP rfl) (l_v (zmI rfl) (l_v (v_nilCheck rfl) ?_))))))
 refine l_v (v_fieldAddr (off := 3) (ft := 99) zk rfl) (l_v (v_arrAddr (et := 98) (n := 1024) (sz := 1) (k := k) zk rfl rfl rfl (hk)) ?_)
 replace HBt := HBt.ext EL1
 replace HPk := HPk.ext EL1
 refine l_v (v_load zk rfl (by first | exact pv_1 HPk | exact HBt.cell rfl | assumption)) ?_
 refine l_v (v_len (et := 9) zk rfl) ?_
 refine l_v (v_lss rfl rfl) ?_
 replace HOd := ((HOd.ext e102).ext e21).ext EL1
 replace HOo := ((HOo.ext e102).ext e21).ext EL1
 replace HSr := ((HSr.ext e102).ext e21).ext EL1
 replace HSm := ((HSm.ext e102).ext e21).ext EL1
 replace HTv := HTv.ext EL1
 replace HOk := HOk.ext EL1
 refine l_nil (n_then (c_cond rfl rfl (fun hlt => ?_) (fun hlt => ?_)))
 ·
  have hlt := dtrue hlt
  obtain ⟨s, hs, _⟩ := getE (l := S k) (i := i) zo
  obtain ⟨q, cs, hqq, hF, _, HPs, hrs⟩ := HOk.view.el hs
  subst hqq
  obtain rfl := hrs
  refine c_skip (n_then (c_seq (c_block (c_seq (wp_reg zd (l_v (zmP rfl) (l_v (zmI rfl) (l_v (v_nilCheck rfl) ?_))))))))
  refine l_v (v_fieldAddr (off := 3) (ft := 99) zk rfl) (l_v (v_arrAddr (et := 98) (n := 1024) (sz := 1) (k := k) zk rfl rfl rfl (hk)) ?_)
  refine l_v (v_load zk rfl (by first | exact pv_1 HPs | exact pv_1 HPk | exact HBt.cell rfl | assumption)) ?_
  refine l_v (zmI rfl) (l_v (v_indexAddr (et := 9) (sz := 1) (k := i) zk zk rfl rfl (by first | rfl | omega) zo) ?_)
  refine l_v (v_load zk rfl (by first | exact pv_1 HPs | exact pv_1 HPk | exact HBt.cell rfl | assumption)) ?_
  refine l_v (v_move (t := .string _) rfl) (l_v (v_seq rfl rfl) ?_)
  refine l_nil (n_then (c_cond rfl rfl (fun heq => ?_) (fun heq => ?_)))
  ·
   refine c_seq (wp_reg zd (l_v (v_assign rfl) (l_v (v_assign rfl) (l_nil (n_then (c_ret (r_blk (r_then (r_then ?_)))))))))
   refine r_blk (r_then (ret2v rfl zq zq (zvS rfl) (zvB rfl) ?_))
   have hse : s = keyR d m := by simpa using heq
   obtain ⟨d', m', h5, g', h6⟩ := HTv.ok k s (List.mem_of_getElem? hs)
   obtain ⟨rfl, rfl⟩ := keyR_inj (by rw [hdl, g'.len]) hmm g'.may (hse.symm.trans h5)
   exact ⟨⟨none, 0, 0, false, rfl, fun h => (by cases h), fun _ => ⟨h6, ao, co, vs, S, V, HBt, HOd, HOo, HTv, fun b h => ⟨.inl (hV b h).1, (hV b h).2⟩, fun b h => ⟨.inl (hO b h).1, (hO b h).2⟩, fun k s h => .inl h⟩⟩, E⟩
  refine c_skip (n_blk (n_then (wp_reg zd (l_v (zmI rfl) (l_v (v_add rfl rfl (by first | exact wr_i64 zo zo | rfl)) ?_)))))
  refine l_v (zaI rfl) (l_nil (n_then (⟨i + 1, _, rfl, by (repeat (first | exact Off.of_over _ _ _ | refine Off.upd ?_ zq _ | refine Off.overs ?_ zq _)), ⟨by first | rfl | exact congrArg (Value.int _) zo | (simp; done), trivial⟩, ⟨E, EL1, ?_⟩, ?_⟩)))
  ·
   refine ⟨by omega, fun t ht => ?_⟩
   rcases Nat.lt_or_ge t i with h | h
   ·
    exact h2 t h
   obtain rfl : t = i := by omega
   rw [hs]; intro h3; cases h3; simp at heq
  (dsimp only; omega)
 have hnotin : keyR d m ∉ S k := fun h => by
  obtain ⟨t, ht, hte⟩ := List.mem_iff_getElem.1 h
  exact h2 t (by have := dfalse hlt; omega) (by rw [List.getElem?_eq_getElem ht, hte])
 refine c_exit (x_then (x_then (x_hit (n_then (c_seq (c_seq (wp_reg zd (l_v (v_assign rfl) (l_nil ?_)))))))))
 refine n_then (c_block (c_loop (τ := Nat × Option Addr × Nat × List Value × (Nat → List (List UInt8)) × (Nat → Prop)) ([4, 5, 9, 10, 11, 12, 13, 14, 45, 46, 47, 48, 49, 50, 51, 52] ++ [53, 54, 55, 56, 57, 58, 59, 60, 61, 62, 63, 64, 65, 66, 67, 68] ++ [69, 70, 71, 72, 73, 74, 75, 76, 77, 78, 79, 80, 81, 82, 83, 84] ++ [85, 86, 87, 88, 89, 90, 91, 92, 93, 94, 95, 96, 97, 98, 99, 100] ++ [101, 102, 103, 104, 105, 106, 107, 108, 109, 110, 111, 112, 113, 114, 115, 116] ++ [117, 118, 119, 120, 121, 122, 123, 124, 125, 126, 127, 128, 129, 130, 131]) (fun (i, a1, c1, vs1, S1, V1) => [(9, .int .i64 i)]) (fun (i, a1, c1, vs1, S1, V1) W => Keep (fun b => X b) w W ∧ Keep (fun b => X b ∨ n0 ≤ b) w103 W ∧ i ≤ r.length ∧ (∀ t, t < i → stepU r d m t = none) ∧ Blk W tb (.slice ar r.length cr :: .slice (some ⟨bD, 0, none⟩) r.length cd :: .slice a1 ord.length c1 :: vs1) 101 ∧ OwV tBool 4 W n1 NoK (.slice (some ⟨bD, 0, none⟩) r.length cd) d ∧ OwV (tInt .i64) 3 W n1 NoK (.slice a1 ord.length c1) (intsN ord) ∧ VnR r 9 W n1 V1 vs1 S1 ∧ (∀ b, V1 b → (X b ∨ n0 ≤ b) ∧ b ≠ tb ∧ b ≠ bD ∧ (Value.slice a1 ord.length c1).ownBlock ≠ some b) ∧ (∀ b, (Value.slice a1 ord.length c1).ownBlock = some b → (X b ∨ n0 ≤ b) ∧ b ≠ tb ∧ b ≠ bD) ∧ (∀ k s, s ∈ S1 k → s ∈ S k ∨ ∃ d' m', s = keyR d' m' ∧ d'.length = r.length ∧ unD d' < unD d)) (fun (i, a1, c1, vs1, S1, V1) => r.length - i) (0, ao, co, vs, S, V) (by exact ⟨rfl, trivial⟩) (by exact ⟨E, Keep.refl _, Nat.zero_le _, fun t ht => zo, HBt, HOd, HOo, HTv, fun b h => ⟨.inl (hV b h).1, (hV b h).2⟩, fun b h => ⟨.inl (hO b h).1, (hO b h).2⟩, fun k s h => .inl h⟩) ?_))
 rintro ⟨i, a1, c1, vs1, S1, V1⟩ w104 j ⟨E, EL2, h1, h2, HBt, HOd, HOo, HTv, hV1, hO1, hS1⟩
 have := EL2.size
 have zo_HOd := fun (b : Nat) h => HOd.own_lt (b := b) h
 have zo_HOo := fun (b : Nat) h => HOo.own_lt (b := b) h
 refine c_seq (c_seq (wp_reg zd (l_v (zmI rfl) (l_v (zmP rfl) (l_v (v_nilCheck rfl) ?_)))))
 refine l_v (v_fieldAddr (off := 0) (ft := 37) zk rfl) (l_v (v_load zk rfl (by first | exact HBt.pv 0 _ rfl | assumption)) ?_)
 refine l_v (v_len (et := 86) zk rfl) ?_
 refine l_v (v_lss rfl rfl) ?_
 replace HSr := HSr.keep EL2 (by intro i _ hi he; have he0 := he; (try dsimp only [NoK, AllB] at hi he); (try simp only [Value.ownBlock, Option.some.injEq] at he); first | exact hi.elim | exact he.elim | omega | (rcases hi with hi | hi <;> omega) | (rcases he with he | he <;> omega) | (exact he0.elim hi.1 (fun h => by have := hi.2; omega)))
 replace HSm := HSm.keep EL2 (by intro i _ hi he; have he0 := he; (try dsimp only [NoK, AllB] at hi he); (try simp only [Value.ownBlock, Option.some.injEq] at he); first | exact hi.elim | exact he.elim | omega | (rcases hi with hi | hi <;> omega) | (rcases he with he | he <;> omega) | (exact he0.elim hi.1 (fun h => by have := hi.2; omega)))
 refine l_nil (n_then (c_cond rfl rfl (fun hlt => ?_) (fun hlt => ?_)))
 ·
  have hlt := dtrue hlt
  have hil : i < r.length := by omega
  obtain ⟨nR, hnR⟩ : ∃ k, k = w104.heap.size := ⟨_, rfl⟩
  have hVr : ∀ b, V1 b → b < nR := fun b h => by rw [hnR]; exact (HTv.rng h).2
  have hOr : ∀ b, (Value.slice a1 ord.length c1).ownBlock = some b → b < nR := fun b h => by rw [hnR]; exact (HOo.own_lt h).2
  obtain ⟨x, hx, _⟩ := getE (l := r) (i := i) hil
  have hax := hak x (List.mem_of_getElem? hx)
  obtain ⟨q, cs, hqq, hF, _, HPq, hrr⟩ := HSr.el hx
  subst hqq
  obtain ⟨g1, y1, g2, y2, g3, y3, g4, y4, g5, y5, g6, y6, rfl, HGa, HGx, _⟩ := tJd_cells hrr
  refine c_skip (n_then (c_seq (c_block (c_seq (wp_reg zd (l_v (zmP rfl) (l_v (v_nilCheck rfl) ?_)))))))
  refine l_v (v_fieldAddr (off := 0) (ft := 37) zk rfl) (l_v (v_load zk rfl (by first | exact HPq 0 _ rfl | exact HBt.pv 0 _ rfl | assumption)) ?_)
  refine l_v (zmI rfl) (l_v (v_indexAddr (et := 86) (sz := 14) (k := i) zk zk rfl rfl (by first | rfl | omega) zo) ?_)
  refine l_v (v_loadA zk rfl (by first | exact HPq | exact HBt.pv | assumption) rfl) ?_
  refine l_to (to_alloc (z := (.agg #[.int .i64 0, .int .i64 0, .int .i64 0, .slice none 0 0, .slice none 0 0, .slice none 0 0, .slice none 0 0, .bool false, .int .i64 0, .int .i64 0, .int .i64 0, .int .i64 0, .slice none 0 0, .slice none 0 0])) (by unfold kZero; kernel_rfl) ?_)
  rintro b11 w11 zb11 HB11 e11 z11
  have := e11.size
  try simp only [Value.cells] at HB11
  refine l_to (to_storeA (n := 14) rfl rfl (zvA rfl) zk rfl dj6 HB11 (by first | exact of_decide_eq_true rfl | (simp; done) | decide | (simp only [List.length_set, hlen]; exact of_decide_eq_true rfl) | (simp only [List.length_cons]; omega)) ?_)
  rintro w105 HX105 k105 z105
  have := k105.size
  replace HB11 := HX105
  clear HX105
  try simp only [zS, Nat.zero_add, Nat.reduceAdd, List.drop_nil] at HB11
  replace HSr := (HSr.ext e11).keep k105 (by intro i _ hi he; have he0 := he; (try dsimp only [NoK, AllB] at hi he); (try simp only [Value.ownBlock, Option.some.injEq] at he); first | exact hi.elim | exact he.elim | omega | (rcases hi with hi | hi <;> omega) | (rcases he with he | he <;> omega) | (first | (have := hVr _ hi; omega) | (have := hi.2; omega)))
  replace HBt := (HBt.ext e11).keep k105 (by intro h; have he0 := h; (try dsimp only at h); (try simp only [Value.ownBlock, Option.some.injEq] at h); first | omega | (have he := he0; first | (have := hVr _ hi; omega) | (have := hi.2; omega)))
  replace HOd := (HOd.ext e11).keep k105 (by intro i ho he; have he0 := he; have ho0 := ho; (try dsimp only [NoK] at he); (try simp only [Value.ownBlock, Option.some.injEq, reduceCtorEq] at ho); (try simp only [Value.ownBlock, Option.some.injEq, reduceCtorEq] at he); first | exact he.elim | exact ho.elim | omega | (have := zo_HOd _ ho0; omega) | (first | (have := hVr _ hi; omega) | (have := hi.2; omega))) (by intro i _ hi _ he; have he0 := he; have hi := hi; have he := he; (try dsimp only [NoK, AllB] at hi he); (try simp only [Value.ownBlock, Option.some.injEq, reduceCtorEq] at he); all_goals first | exact hi.elim | exact hi.1.elim | exact he.elim | omega | (rcases hi with hi | hi <;> omega) | (rcases he with he | he <;> omega) | (first | (have := hVr _ hi; omega) | (have := hi.2; omega)))
  refine l_nil (n_then (c_seq (c_seq (wp_reg zd (l_v (zmP rfl) (l_v (zmI rfl) (l_to (to_f2 zk (zvP rfl) (zvI rfl) (CallsR.mono (next_c HBt HSr HOd.view hdl hr32 hans hil) ?_)))))))))
  replace E := (E.trans e11.keep).step k105 (by intro i hi he; have he0 := he; (try dsimp only [NoK] at hi he ⊢); (try simp only [Value.ownBlock, Option.some.injEq] at he); first | exact he.elim | omega | exact he | (first | (have := hVr _ hi; omega) | (have := hi.2; omega)))
  replace HSm := (HSm.ext e11).keep k105 (by intro i _ hi he; have he0 := he; (try dsimp only [NoK, AllB] at hi he); (try simp only [Value.ownBlock, Option.some.injEq] at he); first | exact hi.elim | exact he.elim | omega | (rcases hi with hi | hi <;> omega) | (rcases he with he | he <;> omega) | (first | (have := hVr _ hi; omega) | (have := hi.2; omega)))
  replace HOo := (HOo.ext e11).keep k105 (by intro i ho he; have he0 := he; have ho0 := ho; (try dsimp only [NoK] at he); (try simp only [Value.ownBlock, Option.some.injEq, reduceCtorEq] at ho); (try simp only [Value.ownBlock, Option.some.injEq, reduceCtorEq] at he); first | exact he.elim | exact ho.elim | omega | (have := zo_HOo _ ho0; omega) | (first | (have := hVr _ hi; omega) | (have := hi.2; omega))) (by intro i _ hi _ he; have he0 := he; have hi := hi; have he := he; (try dsimp only [NoK, AllB] at hi he); (try simp only [Value.ownBlock, Option.some.injEq, reduceCtorEq] at he); all_goals first | exact hi.elim | exact hi.1.elim | exact he.elim | omega | (rcases hi with hi | hi <;> omega) | (rcases he with he | he <;> omega) | (first | (have := hVr _ hi; omega) | (have := hi.2; omega)))
  replace HTv := (HTv.ext e11).keep k105 (by intro i _ hi he; have he0 := he; (try dsimp only [NoK, AllB] at hi he); (try simp only [Value.ownBlock, Option.some.injEq] at he); first | exact hi.elim | exact he.elim | omega | (rcases hi with hi | hi <;> omega) | (rcases he with he | he <;> omega) | (first | (have := hVr _ hi; omega) | (have := hi.2; omega)))
  replace EL2 := (EL2.trans e11.keep).step k105 (by intro i hi he; have he0 := he; (try dsimp only [NoK] at hi he ⊢); (try simp only [Value.ownBlock, Option.some.injEq] at he); first | exact he.elim | omega | exact he | (first | (have := hVr _ hi; omega) | (have := hi.2; omega)))
  replace HGa := (HGa.ext e11).keep k105 (by intro i _ hi he; have he0 := he; (try dsimp only [NoK, AllB] at hi he); (try simp only [Value.ownBlock, Option.some.injEq] at he); first | exact hi.elim | exact he.elim | omega | (rcases hi with hi | hi <;> omega) | (rcases he with he | he <;> omega) | (first | (have := hVr _ hi; omega) | (have := hi.2; omega)))
  replace HGx := (HGx.ext e11).keep k105 (by intro i _ hi he; have he0 := he; (try dsimp only [NoK, AllB] at hi he); (try simp only [Value.ownBlock, Option.some.injEq] at he); first | exact hi.elim | exact he.elim | omega | (rcases hi with hi | hi <;> omega) | (rcases he with he | he <;> omega) | (first | (have := hVr _ hi; omega) | (have := hi.2; omega)))
  rintro _ w106 ⟨rfl, e106⟩
  have := e106.size
  refine l_v (v_not rfl) ?_
  refine l_v (zmB rfl) (l_g1 rfl rfl (fun hG => v_fieldAddr (off := 10) (ft := 3) zk rfl) ?_)
  replace HBt := HBt.ext e106
  replace HB11 := HB11.ext e106
  refine l_g1 rfl rfl (fun hG => v_load zk (gd hG rfl) (by first | exact HB11.pv 10 _ rfl | exact HBt.pv 10 _ rfl | assumption)) ?_
  refine l_g1 rfl rfl (fun hG => v_geq (gd hG rfl) rfl) ?_
  refine l_g1 rfl rfl (fun hG => v_move (t := .bool _) (gd hG rfl)) ?_
  refine l_g2 rfl rfl (fun hG => zmS rfl) ?_
  refine l_g2 rfl rfl (fun hG => v_fieldAddr (off := 0) (ft := 77) zk rfl) ?_
  refine l_g2 rfl rfl (fun hG => v_fieldAddr (off := 2) (ft := 28) zk (gd hG rfl)) ?_
  refine l_g2 rfl rfl (fun hG => v_loadA zk (gd hG rfl) (by first | exact (show Pv _ _ [_, _, _, _, _, _, _] from pv_sub 2 7 HB11.pv) | exact (show Pv _ _ [_, _, _, _, _, _, _] from pv_sub 2 7 HBt.pv) | exact pv_at 2 HB11.pv | exact pv_at 2 HBt.pv | assumption) rfl) ?_
  refine l_g2 rfl rfl (fun hG => v_fieldAddr (off := 11) (ft := 31) zk rfl) ?_
  refine l_g2 rfl rfl (fun hG => v_loadA zk (gd hG rfl) (by first | exact (show Pv _ _ [_, _, _] from pv_sub 11 3 HB11.pv) | exact (show Pv _ _ [_, _, _] from pv_sub 11 3 HBt.pv) | exact pv_at 11 HB11.pv | exact pv_at 11 HBt.pv | assumption) rfl) ?_
  replace HSm := HSm.ext e106
  replace HGa := HGa.ext e106
  replace HGx := HGx.ext e106
  refine l_g2f rfl rfl (fun hG => to_f3 zk (gd hG rfl) (gd hG rfl) (gd hG rfl) (refFits_c HSm HGa HGx zo)) ?_
  rintro w107 e107
  have := e107.size
  refine l_g2 rfl rfl (fun hG => v_not (gd hG rfl)) ?_
  refine l_g1 rfl rfl (fun hG => v_and (gd hG rfl) (gda hG rfl)) ?_
  refine l_v (v_or rfl rfl) ?_
  replace HPq := HPq.ext e11
  replace E := (E.trans e106.keep).trans e107.keep
  replace HSr := (HSr.ext e106).ext e107
  replace HOd := (HOd.ext e106).ext e107
  replace HOo := (HOo.ext e106).ext e107
  replace HTv := (HTv.ext e106).ext e107
  replace EL2 := (EL2.trans e106.keep).trans e107.keep
  replace HSm := HSm.ext e107
  replace HBt := HBt.ext e107
  replace HGa := HGa.ext e107
  replace HGx := HGx.ext e107
  replace HB11 := HB11.ext e107
  refine l_nil (n_then (c_cond rfl rfl (fun hc => ?_) (fun hc => ?_)))
  ·
   refine c_exit (x_then (x_hit (n_then (wp_reg zd (l_v (zmI rfl) (l_v (v_add rfl rfl (by first | exact wr_i64 zo zo | rfl)) ?_))))))
   refine l_v (zaI rfl) (l_nil (n_then (⟨(i + 1, a1, c1, vs1, S1, V1), _, rfl, by (repeat' (first | exact Off.of_over _ _ _ | refine Off.upd ?_ zq _ | refine Off.overs ?_ zq _)), ⟨by first | rfl | exact congrArg (Value.int _) zo | (simp; done), trivial⟩, ⟨E, EL2, ?_⟩, ?_⟩)))
   ·
    refine ⟨by omega, fun t ht => ?_, HBt, HOd, HOo, HTv, hV1, hO1, hS1⟩
    rcases Nat.lt_or_ge t i with h9 | h9
    ·
     exact h2 t h9
    obtain rfl : t = i := by omega
    rw [ge_not, cant, ← can_eq hx] at hc
    exact step_no hx (by simpa using hc)
   (dsimp only; omega)
  have hcan : canJ r d m i = true := by rw [ge_not, cant, ← can_eq hx] at hc; simpa using hc
  have hmay : mayJ r d i = true := by rw [can_eq hx] at hcan; simp only [Bool.and_eq_true] at hcan; exact hcan.1
  have hund : d.getD i false = false := mayJ_un hmay
  have hun := unD_set (d := d) (i := i) zo hund
  have hdi : d[i]? = some false := by
   obtain ⟨z, hz, _⟩ := getE (l := d) (i := i) zo
   rw [List.getD_eq_getElem?_getD, hz] at hund
   rw [hz]; exact congrArg some hund
  have hil9 : (intsN ord).length = ord.length := by simp [intsN]
  obtain ⟨n9, hn9⟩ : ∃ k, k = w107.heap.size := ⟨_, rfl⟩
  refine c_skip (n_then (c_seq (wp_reg zd (l_v (zmS rfl) (l_v (v_fieldAddr (off := 0) (ft := 77) zk rfl) (l_v (v_fieldAddr (off := 2) (ft := 28) zk rfl) (l_v (v_loadA zk rfl (by first | exact (show Pv _ _ [_, _, _, _, _, _, _] from pv_sub 2 7 HB11.pv) | exact (show Pv _ _ [_, _, _, _, _, _, _] from pv_sub 2 7 HBt.pv) | exact pv_at 2 HB11.pv | exact pv_at 2 HBt.pv | assumption) rfl) ?_)))))))
  refine l_to (to_f2 zk (zvS rfl) (zvA rfl) (CallsR.mono (refDo_c HSm HGa hmm zo hax) ?_))
  rintro _ w13 ⟨u, y, rfl, HSu, HGy, e13⟩
  have := e13.size
  obtain ⟨u1, u2, rfl⟩ := HSu.shape
  obtain ⟨d1, d2, d3, d4, rfl, _⟩ := HGy.an
  replace HSu := HSu.mono (F' := fun b => (¬ X b ∧ b < n0) ∨ (n9 ≤ b ∧ b < w13.heap.size)) fun b hb h => h.imp (fun h => h) (fun h => ⟨by omega, hb⟩)
  obtain ⟨nA, hnA⟩ : ∃ k, k = w13.heap.size := ⟨_, rfl⟩
  rw [← hnA] at HSu
  refine l_v (zmT rfl) (l_v (v_extract (t := .slice _ _ _) rfl rfl) (l_v (v_extract (t := .agg _) rfl rfl) (l_to (to_alloc (z := (.agg #[.int .i64 0, .slice none 0 0, .slice none 0 0])) (by unfold kZero; kernel_rfl) ?_))))
  rintro b12 w12 zb12 HB12 e12 z12
  have := e12.size
  try simp only [Value.cells] at HB12
  refine l_v (zaS rfl) (l_to (to_storeA (n := 3) rfl rfl (zvA rfl) zk rfl dj6 HB12 (by first | exact of_decide_eq_true rfl | (simp; done) | decide | (simp only [List.length_set, hlen]; exact of_decide_eq_true rfl) | (simp only [List.length_cons]; omega)) ?_))
  rintro w108 HX108 k108 z108
  have := k108.size
  replace HB12 := HX108
  clear HX108
  try simp only [zS, Nat.zero_add, Nat.reduceAdd, List.drop_nil] at HB12
  refine l_nil (n_then (c_seq (wp_reg zd (l_v (zmP rfl) (l_v (v_nilCheck rfl) ?_)))))
  replace HBt := ((HBt.ext e13).ext e12).keep k108 (by intro h; have he0 := h; (try dsimp only at h); (try simp only [Value.ownBlock, Option.some.injEq] at h); first | omega | (have he := he0; first | (have := hVr _ hi; omega) | (have := hi.2; omega) | (have := hi; omega) | exact hi.elim (fun h => by have := h.2; omega) (fun h => by omega)))
  refine l_v (v_fieldAddr (off := 1) (ft := 97) zk rfl) (l_v (v_load zk rfl (by first | exact HBt.pv 1 _ rfl | assumption)) ?_)
  refine l_v (zmI rfl) (l_v (v_indexAddr (et := 4) (sz := 1) (k := i) zk zk rfl rfl (by first | rfl | omega) zo) ?_)
  replace HOd := ((HOd.ext e13).ext e12).keep k108 (by intro i ho he; have he0 := he; have ho0 := ho; (try dsimp only [NoK] at he); (try simp only [Value.ownBlock, Option.some.injEq, reduceCtorEq] at ho); (try simp only [Value.ownBlock, Option.some.injEq, reduceCtorEq] at he); first | exact he.elim | exact ho.elim | omega | (have := zo_HOd _ ho0; omega) | (first | (have := hVr _ hi; omega) | (have := hi.2; omega) | (have := hi; omega) | exact hi.elim (fun h => by have := h.2; omega) (fun h => by omega))) (by intro i _ hi _ he; have he0 := he; have hi := hi; have he := he; (try dsimp only [NoK, AllB] at hi he); (try simp only [Value.ownBlock, Option.some.injEq, reduceCtorEq] at he); all_goals first | exact hi.elim | exact hi.1.elim | exact he.elim | omega | (rcases hi with hi | hi <;> omega) | (rcases he with he | he <;> omega) | (first | (have := hVr _ hi; omega) | (have := hi.2; omega) | (have := hi; omega) | exact hi.elim (fun h => by have := h.2; omega) (fun h => by omega)))
  refine l_to (to_storeO (k := i) (off := 0) rfl ((by rw [show tBool.sz = 1 from rfl]; simp [add_lit])) (by first | decide | exact (of_decide_eq_true rfl : 0 < 2)) (zvB rfl) rfl zk HOd (x1 := true) hdi (fun cs h => by obtain rfl := h; rfl) ?_)
  rintro w14 HOe k14 z14
  have := k14.size
  have zo_HOe := fun (b : Nat) h => HOe.own_lt (b := b) h
  refine l_nil (n_then (c_seq (wp_reg zd (l_v (zmP rfl) (l_v (zmP rfl) (l_v (v_nilCheck rfl) ?_))))))
  replace HBt := HBt.keep k14 (by intro h; have he0 := h; (try dsimp only at h); (try simp only [Value.ownBlock, Option.some.injEq] at h); first | omega | (have he := he0; first | exact htd he0 | exact (hV1 _ hi).2.2.1 he0 | exact (hO1 _ ho0).2.2 he0 | exact hi.1 (he0 ▸ hXd) | exact hi.elim (fun h => h.1 (he0 ▸ hXd)) (fun h => by omega) | exact he0 ▸ hXd | exact .inl (he0 ▸ hXd)))
  refine l_v (v_fieldAddr (off := 2) (ft := 53) zk rfl) (l_v (v_load zk rfl (by first | exact HBt.pv 2 _ rfl | assumption)) ?_)
  refine l_v (zmI rfl) (l_to (to_slice1 (t := tInt .i64) (et := 3) (bytes := 8) zk zq (zvI rfl) ((show (tInt .i64).rep _ NoK [.int .i64 (i : Int)] (i : Int) from ⟨rfl, wf_of_i64 ⟨by omega, by omega⟩⟩)) ?_))
  rintro b15 w15 zb15 HO15 e15 z15
  have := e15.size
  have zo_HO15 := fun (b : Nat) h => HO15.own_lt (b := b) h
  replace HOo := ((((HOo.ext e13).ext e12).keep k108 (by intro i ho he; have he0 := he; have ho0 := ho; (try dsimp only [NoK] at he); (try simp only [Value.ownBlock, Option.some.injEq, reduceCtorEq] at ho); (try simp only [Value.ownBlock, Option.some.injEq, reduceCtorEq] at he); first | exact he.elim | exact ho.elim | omega | (have := zo_HOo _ ho0; omega) | (first | (have := hVr _ hi; omega) | (have := hi.2; omega) | (have := hi; omega) | exact hi.elim (fun h => by have := h.2; omega) (fun h => by omega))) (by intro i _ hi _ he; have he0 := he; have hi := hi; have he := he; (try dsimp only [NoK, AllB] at hi he); (try simp only [Value.ownBlock, Option.some.injEq, reduceCtorEq] at he); all_goals first | exact hi.elim | exact hi.1.elim | exact he.elim | omega | (rcases hi with hi | hi <;> omega) | (rcases he with he | he <;> omega) | (first | (have := hVr _ hi; omega) | (have := hi.2; omega) | (have := hi; omega) | exact hi.elim (fun h => by have := h.2; omega) (fun h => by omega)))).keep k14 (by intro i ho he; have he0 := he; have ho0 := ho; (try dsimp only [NoK] at he); (try simp only [Value.ownBlock, Option.some.injEq, reduceCtorEq] at ho); (try simp only [Value.ownBlock, Option.some.injEq, reduceCtorEq] at he); first | exact he.elim | exact ho.elim | omega | (have := zo_HOo _ ho0; omega) | (first | exact htd he0 | exact (hV1 _ hi).2.2.1 he0 | exact (hO1 _ ho0).2.2 he0 | exact hi.1 (he0 ▸ hXd) | exact hi.elim (fun h => h.1 (he0 ▸ hXd)) (fun h => by omega) | exact he0 ▸ hXd | exact .inl (he0 ▸ hXd))) (by intro i _ hi _ he; have he0 := he; have hi := hi; have he := he; (try dsimp only [NoK, AllB] at hi he); (try simp only [Value.ownBlock, Option.some.injEq, reduceCtorEq] at he); all_goals first | exact hi.elim | exact hi.1.elim | exact he.elim | omega | (rcases hi with hi | hi <;> omega) | (rcases he with he | he <;> omega) | (first | exact htd he0 | exact (hV1 _ hi).2.2.1 he0 | exact (hO1 _ ho0).2.2 he0 | exact hi.1 (he0 ▸ hXd) | exact hi.elim (fun h => h.1 (he0 ▸ hXd)) (fun h => by omega) | exact he0 ▸ hXd | exact .inl (he0 ▸ hXd)))).ext e15
  refine l_to (to_append (et := 3) (bytes := 8) zk (zvS rfl) HOo (zvS rfl) HO15.view ((fun cs z h => h)) (by first | omega | (simp; done) | (simp; omega)) (by simp only [maxLen]; first | omega | (simp; done) | (simp; omega)) zo ?_)
  rintro a16 n16 c16 w16 HO16 hn16 k16 h16 i16
  have := k16.size
  replace E := ((((E.trans e13.keep).trans e12.keep).step k108 (by intro i hi he; have he0 := he; (try dsimp only [NoK] at hi he ⊢); (try simp only [Value.ownBlock, Option.some.injEq] at he); first | exact he.elim | omega | exact he | (first | (have := hVr _ hi; omega) | (have := hi.2; omega) | (have := hi; omega) | exact hi.elim (fun h => by have := h.2; omega) (fun h => by omega)))).step k14 (by intro i hi he; have he0 := he; (try dsimp only [NoK] at hi he ⊢); (try simp only [Value.ownBlock, Option.some.injEq] at he); first | exact he.elim | omega | exact he | (first | exact htd he0 | exact (hV1 _ hi).2.2.1 he0 | exact (hO1 _ ho0).2.2 he0 | exact hi.1 (he0 ▸ hXd) | exact hi.elim (fun h => h.1 (he0 ▸ hXd)) (fun h => by omega) | exact he0 ▸ hXd | exact .inl (he0 ▸ hXd)))).trans e15.keep
  replace HSr := ((((HSr.ext e13).ext e12).keep k108 (by intro i _ hi he; have he0 := he; (try dsimp only [NoK, AllB] at hi he); (try simp only [Value.ownBlock, Option.some.injEq] at he); first | exact hi.elim | exact he.elim | omega | (rcases hi with hi | hi <;> omega) | (rcases he with he | he <;> omega) | (first | (have := hVr _ hi; omega) | (have := hi.2; omega) | (have := hi; omega) | exact hi.elim (fun h => by have := h.2; omega) (fun h => by omega)))).keep k14 (by intro i _ hi he; have he0 := he; (try dsimp only [NoK, AllB] at hi he); (try simp only [Value.ownBlock, Option.some.injEq] at he); first | exact hi.elim | exact he.elim | omega | (rcases hi with hi | hi <;> omega) | (rcases he with he | he <;> omega) | (first | exact htd he0 | exact (hV1 _ hi).2.2.1 he0 | exact (hO1 _ ho0).2.2 he0 | exact hi.1 (he0 ▸ hXd) | exact hi.elim (fun h => h.1 (he0 ▸ hXd)) (fun h => by omega) | exact he0 ▸ hXd | exact .inl (he0 ▸ hXd)))).ext e15
  replace HSm := ((((HSm.ext e13).ext e12).keep k108 (by intro i _ hi he; have he0 := he; (try dsimp only [NoK, AllB] at hi he); (try simp only [Value.ownBlock, Option.some.injEq] at he); first | exact hi.elim | exact he.elim | omega | (rcases hi with hi | hi <;> omega) | (rcases he with he | he <;> omega) | (first | (have := hVr _ hi; omega) | (have := hi.2; omega) | (have := hi; omega) | exact hi.elim (fun h => by have := h.2; omega) (fun h => by omega)))).keep k14 (by intro i _ hi he; have he0 := he; (try dsimp only [NoK, AllB] at hi he); (try simp only [Value.ownBlock, Option.some.injEq] at he); first | exact hi.elim | exact he.elim | omega | (rcases hi with hi | hi <;> omega) | (rcases he with he | he <;> omega) | (first | exact htd he0 | exact (hV1 _ hi).2.2.1 he0 | exact (hO1 _ ho0).2.2 he0 | exact hi.1 (he0 ▸ hXd) | exact hi.elim (fun h => h.1 (he0 ▸ hXd)) (fun h => by omega) | exact he0 ▸ hXd | exact .inl (he0 ▸ hXd)))).ext e15
  replace HTv := ((((HTv.ext e13).ext e12).keep k108 (by intro i _ hi he; have he0 := he; (try dsimp only [NoK, AllB] at hi he); (try simp only [Value.ownBlock, Option.some.injEq] at he); first | exact hi.elim | exact he.elim | omega | (rcases hi with hi | hi <;> omega) | (rcases he with he | he <;> omega) | (first | (have := hVr _ hi; omega) | (have := hi.2; omega) | (have := hi; omega) | exact hi.elim (fun h => by have := h.2; omega) (fun h => by omega)))).keep k14 (by intro i _ hi he; have he0 := he; (try dsimp only [NoK, AllB] at hi he); (try simp only [Value.ownBlock, Option.some.injEq] at he); first | exact hi.elim | exact he.elim | omega | (rcases hi with hi | hi <;> omega) | (rcases he with he | he <;> omega) | (first | exact htd he0 | exact (hV1 _ hi).2.2.1 he0 | exact (hO1 _ ho0).2.2 he0 | exact hi.1 (he0 ▸ hXd) | exact hi.elim (fun h => h.1 (he0 ▸ hXd)) (fun h => by omega) | exact he0 ▸ hXd | exact .inl (he0 ▸ hXd)))).ext e15
  replace EL2 := ((((EL2.trans e13.keep).trans e12.keep).step k108 (by intro i hi he; have he0 := he; (try dsimp only [NoK] at hi he ⊢); (try simp only [Value.ownBlock, Option.some.injEq] at he); first | exact he.elim | omega | exact he | (first | (have := hVr _ hi; omega) | (have := hi.2; omega) | (have := hi; omega) | exact hi.elim (fun h => by have := h.2; omega) (fun h => by omega)))).step k14 (by intro i hi he; have he0 := he; (try dsimp only [NoK] at hi he ⊢); (try simp only [Value.ownBlock, Option.some.injEq] at he); first | exact he.elim | omega | exact he | (first | exact htd he0 | exact (hV1 _ hi).2.2.1 he0 | exact (hO1 _ ho0).2.2 he0 | exact hi.1 (he0 ▸ hXd) | exact hi.elim (fun h => h.1 (he0 ▸ hXd)) (fun h => by omega) | exact he0 ▸ hXd | exact .inl (he0 ▸ hXd)))).trans e15.keep
  replace HSu := (((HSu.ext e12).keep k108 (by intro i _ hi he; have he0 := he; (try dsimp only [NoK, AllB] at hi he); (try simp only [Value.ownBlock, Option.some.injEq] at he); first | exact hi.elim | exact he.elim | omega | (rcases hi with hi | hi <;> omega) | (rcases he with he | he <;> omega) | (first | (have := hVr _ hi; omega) | (have := hi.2; omega) | (have := hi; omega) | exact hi.elim (fun h => by have := h.2; omega) (fun h => by omega)))).keep k14 (by intro i _ hi he; have he0 := he; (try dsimp only [NoK, AllB] at hi he); (try simp only [Value.ownBlock, Option.some.injEq] at he); first | exact hi.elim | exact he.elim | omega | (rcases hi with hi | hi <;> omega) | (rcases he with he | he <;> omega) | (first | exact htd he0 | exact (hV1 _ hi).2.2.1 he0 | exact (hO1 _ ho0).2.2 he0 | exact hi.1 (he0 ▸ hXd) | exact hi.elim (fun h => h.1 (he0 ▸ hXd)) (fun h => by omega) | exact he0 ▸ hXd | exact .inl (he0 ▸ hXd)))).ext e15
  obtain rfl : n16 = (ord ++ [i]).length := by rw [hn16]; simp [intsN]
  rw [show intsN ord ++ [(i : Int)] = intsN (ord ++ [i]) by simp [intsN]] at HO16
  have zo_HO16 := fun (b : Nat) h => HO16.own_lt (b := b) h
  replace HGa := (HGa.ext e13).ext e12
  replace HGx := (HGx.ext e13).ext e12
  replace HB11 := (HB11.ext e13).ext e12
  replace HGy := HGy.ext e12
  replace HBt := (HBt.ext e15).keep k16 (by intro h; have he0 := h; (try dsimp only at h); (try simp only [Value.ownBlock, Option.some.injEq] at h); first | omega | (have := (HOo).own_lt he0; omega) | (have := zo_HOo _ he0; omega) | (have he := he0; first | exact (hO1 _ he0).2.1 rfl | exact (hO1 _ he0).2.2 ho.symm | exact (hV1 _ hi).2.2.2 he0 | exact (hO1 _ he0).1.elim hi.1 (fun h => by have := hi.2; omega) | exact hi.elim (fun h => (hO1 _ he0).1.elim h.1 (fun k => by have := h.2; omega)) (fun h => by have := hOr _ he0; omega) | exact (hO1 _ he0).1.resolve_right zo | exact (hO1 _ he0).1))
  replace HOe := (HOe.ext e15).keep k16 (by intro i ho he; have he0 := he; have ho0 := ho; (try dsimp only [NoK] at he); (try simp only [Value.ownBlock, Option.some.injEq, reduceCtorEq] at ho); (try simp only [Value.ownBlock, Option.some.injEq, reduceCtorEq] at he); first | exact he.elim | exact ho.elim | omega | (have := zo_HOe _ ho0; omega) | (have := (HOo).own_lt he0; omega) | (have := zo_HOo _ he0; omega) | (first | exact (hO1 _ he0).2.1 rfl | exact (hO1 _ he0).2.2 ho.symm | exact (hV1 _ hi).2.2.2 he0 | exact (hO1 _ he0).1.elim hi.1 (fun h => by have := hi.2; omega) | exact hi.elim (fun h => (hO1 _ he0).1.elim h.1 (fun k => by have := h.2; omega)) (fun h => by have := hOr _ he0; omega) | exact (hO1 _ he0).1.resolve_right zo | exact (hO1 _ he0).1) | (have := zo_HOe _ ho0; have := (HOo).own_lt he0; omega)) (by intro i _ hi _ he; have he0 := he; have hi := hi; have he := he; (try dsimp only [NoK, AllB] at hi he); (try simp only [Value.ownBlock, Option.some.injEq, reduceCtorEq] at he); all_goals first | exact hi.elim | exact hi.1.elim | exact he.elim | omega | (rcases hi with hi | hi <;> omega) | (rcases he with he | he <;> omega) | (have := (HOo).own_lt he0; omega) | (have := zo_HOo _ he0; omega) | (have := (HOo).own_lt he0; rcases hi with hi | hi <;> omega) | (first | exact (hO1 _ he0).2.1 rfl | exact (hO1 _ he0).2.2 ho.symm | exact (hV1 _ hi).2.2.2 he0 | exact (hO1 _ he0).1.elim hi.1 (fun h => by have := hi.2; omega) | exact hi.elim (fun h => (hO1 _ he0).1.elim h.1 (fun k => by have := h.2; omega)) (fun h => by have := hOr _ he0; omega) | exact (hO1 _ he0).1.resolve_right zo | exact (hO1 _ he0).1))
  replace E := E.step k16 (by intro i hi he; have he0 := he; (try dsimp only [NoK] at hi he ⊢); (try simp only [Value.ownBlock, Option.some.injEq] at he); first | exact he.elim | omega | exact he | (have := (HOo).own_lt he0; omega) | (have := zo_HOo _ he0; omega) | (have := (HOo).own_lt he0; rcases hi with hi | hi <;> omega) | (first | exact (hO1 _ he0).2.1 rfl | exact (hO1 _ he0).2.2 ho.symm | exact (hV1 _ hi).2.2.2 he0 | exact (hO1 _ he0).1.elim hi.1 (fun h => by have := hi.2; omega) | exact hi.elim (fun h => (hO1 _ he0).1.elim h.1 (fun k => by have := h.2; omega)) (fun h => by have := hOr _ he0; omega) | exact (hO1 _ he0).1.resolve_right zo | exact (hO1 _ he0).1))
  replace HSr := HSr.keep k16 (by intro i _ hi he; have he0 := he; (try dsimp only [NoK, AllB] at hi he); (try simp only [Value.ownBlock, Option.some.injEq] at he); first | exact hi.elim | exact he.elim | omega | (rcases hi with hi | hi <;> omega) | (rcases he with he | he <;> omega) | (have := (HOo).own_lt he0; omega) | (have := zo_HOo _ he0; omega) | (have := (HOo).own_lt he0; rcases hi with hi | hi <;> omega) | (first | exact (hO1 _ he0).2.1 rfl | exact (hO1 _ he0).2.2 ho.symm | exact (hV1 _ hi).2.2.2 he0 | exact (hO1 _ he0).1.elim hi.1 (fun h => by have := hi.2; omega) | exact hi.elim (fun h => (hO1 _ he0).1.elim h.1 (fun k => by have := h.2; omega)) (fun h => by have := hOr _ he0; omega) | exact (hO1 _ he0).1.resolve_right zo | exact (hO1 _ he0).1))
  replace HSm := HSm.keep k16 (by intro i _ hi he; have he0 := he; (try dsimp only [NoK, AllB] at hi he); (try simp only [Value.ownBlock, Option.some.injEq] at he); first | exact hi.elim | exact he.elim | omega | (rcases hi with hi | hi <;> omega) | (rcases he with he | he <;> omega) | (have := (HOo).own_lt he0; omega) | (have := zo_HOo _ he0; omega) | (have := (HOo).own_lt he0; rcases hi with hi | hi <;> omega) | (first | exact (hO1 _ he0).2.1 rfl | exact (hO1 _ he0).2.2 ho.symm | exact (hV1 _ hi).2.2.2 he0 | exact (hO1 _ he0).1.elim hi.1 (fun h => by have := hi.2; omega) | exact hi.elim (fun h => (hO1 _ he0).1.elim h.1 (fun k => by have := h.2; omega)) (fun h => by have := hOr _ he0; omega) | exact (hO1 _ he0).1.resolve_right zo | exact (hO1 _ he0).1))
  replace HTv := HTv.keep k16 (by intro i _ hi he; have he0 := he; (try dsimp only [NoK, AllB] at hi he); (try simp only [Value.ownBlock, Option.some.injEq] at he); first | exact hi.elim | exact he.elim | omega | (rcases hi with hi | hi <;> omega) | (rcases he with he | he <;> omega) | (have := (HOo).own_lt he0; omega) | (have := zo_HOo _ he0; omega) | (have := (HOo).own_lt he0; rcases hi with hi | hi <;> omega) | (first | exact (hO1 _ he0).2.1 rfl | exact (hO1 _ he0).2.2 ho.symm | exact (hV1 _ hi).2.2.2 he0 | exact (hO1 _ he0).1.elim hi.1 (fun h => by have := hi.2; omega) | exact hi.elim (fun h => (hO1 _ he0).1.elim h.1 (fun k => by have := h.2; omega)) (fun h => by have := hOr _ he0; omega) | exact (hO1 _ he0).1.resolve_right zo | exact (hO1 _ he0).1))
  replace EL2 := EL2.step k16 (by intro i hi he; have he0 := he; (try dsimp only [NoK] at hi he ⊢); (try simp only [Value.ownBlock, Option.some.injEq] at he); first | exact he.elim | omega | exact he | (have := (HOo).own_lt he0; omega) | (have := zo_HOo _ he0; omega) | (have := (HOo).own_lt he0; rcases hi with hi | hi <;> omega) | (first | exact (hO1 _ he0).2.1 rfl | exact (hO1 _ he0).2.2 ho.symm | exact (hV1 _ hi).2.2.2 he0 | exact (hO1 _ he0).1.elim hi.1 (fun h => by have := hi.2; omega) | exact hi.elim (fun h => (hO1 _ he0).1.elim h.1 (fun k => by have := h.2; omega)) (fun h => by have := hOr _ he0; omega) | exact (hO1 _ he0).1.resolve_right zo | exact (hO1 _ he0).1))
  replace HSu := HSu.keep k16 (by intro i _ hi he; have he0 := he; (try dsimp only [NoK, AllB] at hi he); (try simp only [Value.ownBlock, Option.some.injEq] at he); first | exact hi.elim | exact he.elim | omega | (rcases hi with hi | hi <;> omega) | (rcases he with he | he <;> omega) | (have := (HOo).own_lt he0; omega) | (have := zo_HOo _ he0; omega) | (have := (HOo).own_lt he0; rcases hi with hi | hi <;> omega) | (first | exact (hO1 _ he0).2.1 rfl | exact (hO1 _ he0).2.2 ho.symm | exact (hV1 _ hi).2.2.2 he0 | exact (hO1 _ he0).1.elim hi.1 (fun h => by have := hi.2; omega) | exact hi.elim (fun h => (hO1 _ he0).1.elim h.1 (fun k => by have := h.2; omega)) (fun h => by have := hOr _ he0; omega) | exact (hO1 _ he0).1.resolve_right zo | exact (hO1 _ he0).1))
  replace HO15 := HO15.keep k16 (by intro i ho he; have he0 := he; have ho0 := ho; (try dsimp only [NoK] at he); (try simp only [Value.ownBlock, Option.some.injEq, reduceCtorEq] at ho); (try simp only [Value.ownBlock, Option.some.injEq, reduceCtorEq] at he); first | exact he.elim | exact ho.elim | omega | (have := zo_HO15 _ ho0; omega) | (have := (HOo).own_lt he0; omega) | (have := zo_HOo _ he0; omega) | (first | exact (hO1 _ he0).2.1 rfl | exact (hO1 _ he0).2.2 ho.symm | exact (hV1 _ hi).2.2.2 he0 | exact (hO1 _ he0).1.elim hi.1 (fun h => by have := hi.2; omega) | exact hi.elim (fun h => (hO1 _ he0).1.elim h.1 (fun k => by have := h.2; omega)) (fun h => by have := hOr _ he0; omega) | exact (hO1 _ he0).1.resolve_right zo | exact (hO1 _ he0).1) | (have := zo_HO15 _ ho0; have := (HOo).own_lt he0; omega)) (by intro i _ hi _ he; have he0 := he; have hi := hi; have he := he; (try dsimp only [NoK, AllB] at hi he); (try simp only [Value.ownBlock, Option.some.injEq, reduceCtorEq] at he); all_goals first | exact hi.elim | exact hi.1.elim | exact he.elim | omega | (rcases hi with hi | hi <;> omega) | (rcases he with he | he <;> omega) | (have := (HOo).own_lt he0; omega) | (have := zo_HOo _ he0; omega) | (have := (HOo).own_lt he0; rcases hi with hi | hi <;> omega) | (first | exact (hO1 _ he0).2.1 rfl | exact (hO1 _ he0).2.2 ho.symm | exact (hV1 _ hi).2.2.2 he0 | exact (hO1 _ he0).1.elim hi.1 (fun h => by have := hi.2; omega) | exact hi.elim (fun h => (hO1 _ he0).1.elim h.1 (fun k => by have := h.2; omega)) (fun h => by have := hOr _ he0; omega) | exact (hO1 _ he0).1.resolve_right zo | exact (hO1 _ he0).1))
  have hO16 : ∀ b, (Value.slice a16 (ord ++ [i]).length c16).ownBlock = some b → ((X b ∧ b < n0) ∨ (n0 ≤ b ∧ ¬ (n9 ≤ b ∧ b < nA))) ∧ b ≠ tb ∧ b ≠ bD ∧ ¬ V1 b := fun b h => by
   rcases h16 b h with h9 | h9
   ·
    have h8 := hOr b h9
    exact ⟨x9 (hO1 b h9).1 zo, (hO1 b h9).2.1, (hO1 b h9).2.2, fun hv => (hV1 b hv).2.2.2 h9⟩
   exact ⟨.inr ⟨by omega, by omega⟩, by omega, by omega, fun hv => by have := hVr b hv; omega⟩
  refine l_v (v_nilCheck rfl) ?_
  refine l_v (v_fieldAddr (off := 2) (ft := 53) zk rfl) (l_to (to_store rfl rfl (zvS rfl) rfl zk HBt (by first | exact of_decide_eq_true rfl | (simp; done) | decide | (simp only [List.length_set, hlen]; exact of_decide_eq_true rfl) | (simp only [List.length_cons]; omega)) ?_))
  rintro w109 HX109 k109 z109
  have := k109.size
  replace HBt := HX109
  clear HX109
  try simp only [zS, Nat.zero_add, Nat.reduceAdd, List.drop_nil] at HBt
  refine l_nil (n_then (c_seq ?_))
  have hmi := doM_len (m := m) hax
  have hoi : (ord ++ [i]).length = ord.length + 1 := by simp
  replace HSr := HSr.keep k109 (by intro i _ hi he; have he0 := he; (try dsimp only [NoK, AllB] at hi he); (try simp only [Value.ownBlock, Option.some.injEq] at he); first | exact hi.elim | exact he.elim | omega | (rcases hi with hi | hi <;> omega) | (rcases he with he | he <;> omega) | (first | exact htd (ho.trans he0).symm | exact (hO16 _ ho0).2.1 he0 | exact (hV1 _ hi).2.1 he0 | exact hi.1 (he0 ▸ hXt) | exact hi.elim (fun h => h.1 (he0 ▸ hXt)) (fun h => by omega) | exact he0 ▸ hXt | exact .inl (he0 ▸ hXt)))
  have HSr9 := HSr.mono (F' := fun b => ¬ ((X b ∧ b < n0) ∨ (n0 ≤ b ∧ ¬ (n9 ≤ b ∧ b < nA)))) fun b hb h => fun k => k.elim (fun k => h.1 k.1) (fun k => by have := h.2; omega)
  replace HSu := HSu.keep k109 (by intro i _ hi he; have he0 := he; (try dsimp only [NoK, AllB] at hi he); (try simp only [Value.ownBlock, Option.some.injEq] at he); first | exact hi.elim | exact he.elim | omega | (rcases hi with hi | hi <;> omega) | (rcases he with he | he <;> omega) | (first | exact htd (ho.trans he0).symm | exact (hO16 _ ho0).2.1 he0 | exact (hV1 _ hi).2.1 he0 | exact hi.1 (he0 ▸ hXt) | exact hi.elim (fun h => h.1 (he0 ▸ hXt)) (fun h => by omega) | exact he0 ▸ hXt | exact .inl (he0 ▸ hXt)))
  have HSu9 := HSu.mono (F' := fun b => ¬ ((X b ∧ b < n0) ∨ (n0 ≤ b ∧ ¬ (n9 ≤ b ∧ b < nA)))) fun b hb h => fun k => h.elim (fun h => k.elim (fun k => h.1 k.1) (fun k => by have := h.2; omega)) (fun h => k.elim (fun k => by omega) (fun k => k.2 h))
  replace HTv := HTv.keep k109 (by intro i _ hi he; have he0 := he; (try dsimp only [NoK, AllB] at hi he); (try simp only [Value.ownBlock, Option.some.injEq] at he); first | exact hi.elim | exact he.elim | omega | (rcases hi with hi | hi <;> omega) | (rcases he with he | he <;> omega) | (first | exact htd (ho.trans he0).symm | exact (hO16 _ ho0).2.1 he0 | exact (hV1 _ hi).2.1 he0 | exact hi.1 (he0 ▸ hXt) | exact hi.elim (fun h => h.1 (he0 ▸ hXt)) (fun h => by omega) | exact he0 ▸ hXt | exact .inl (he0 ▸ hXt)))
  replace HOe := HOe.keep k109 (by intro i ho he; have he0 := he; have ho0 := ho; (try dsimp only [NoK] at he); (try simp only [Value.ownBlock, Option.some.injEq, reduceCtorEq] at ho); (try simp only [Value.ownBlock, Option.some.injEq, reduceCtorEq] at he); first | exact he.elim | exact ho.elim | omega | (have := zo_HOe _ ho0; omega) | (first | exact htd (ho.trans he0).symm | exact (hO16 _ ho0).2.1 he0 | exact (hV1 _ hi).2.1 he0 | exact hi.1 (he0 ▸ hXt) | exact hi.elim (fun h => h.1 (he0 ▸ hXt)) (fun h => by omega) | exact he0 ▸ hXt | exact .inl (he0 ▸ hXt))) (by intro i _ hi _ he; have he0 := he; have hi := hi; have he := he; (try dsimp only [NoK, AllB] at hi he); (try simp only [Value.ownBlock, Option.some.injEq, reduceCtorEq] at he); all_goals first | exact hi.elim | exact hi.1.elim | exact he.elim | omega | (rcases hi with hi | hi <;> omega) | (rcases he with he | he <;> omega) | (first | exact htd (ho.trans he0).symm | exact (hO16 _ ho0).2.1 he0 | exact (hV1 _ hi).2.1 he0 | exact hi.1 (he0 ▸ hXt) | exact hi.elim (fun h => h.1 (he0 ▸ hXt)) (fun h => by omega) | exact he0 ▸ hXt | exact .inl (he0 ▸ hXt)))
  replace HO16 := HO16.keep k109 (by intro i ho he; have he0 := he; have ho0 := ho; (try dsimp only [NoK] at he); (try simp only [Value.ownBlock, Option.some.injEq, reduceCtorEq] at ho); (try simp only [Value.ownBlock, Option.some.injEq, reduceCtorEq] at he); first | exact he.elim | exact ho.elim | omega | (have := zo_HO16 _ ho0; omega) | (first | exact htd (ho.trans he0).symm | exact (hO16 _ ho0).2.1 he0 | exact (hV1 _ hi).2.1 he0 | exact hi.1 (he0 ▸ hXt) | exact hi.elim (fun h => h.1 (he0 ▸ hXt)) (fun h => by omega) | exact he0 ▸ hXt | exact .inl (he0 ▸ hXt))) (by intro i _ hi _ he; have he0 := he; have hi := hi; have he := he; (try dsimp only [NoK, AllB] at hi he); (try simp only [Value.ownBlock, Option.some.injEq, reduceCtorEq] at he); all_goals first | exact hi.elim | exact hi.1.elim | exact he.elim | omega | (rcases hi with hi | hi <;> omega) | (rcases he with he | he <;> omega) | (first | exact htd (ho.trans he0).symm | exact (hO16 _ ho0).2.1 he0 | exact (hV1 _ hi).2.1 he0 | exact hi.1 (he0 ▸ hXt) | exact hi.elim (fun h => h.1 (he0 ▸ hXt)) (fun h => by omega) | exact he0 ▸ hXt | exact .inl (he0 ▸ hXt)))
  have h9 := ih (unD (d.set i true)) zo rfl (g.step hr hx hmay hax) zo zo zo HBt HOe HO16 HTv (X := fun b => (X b ∧ b < n0) ∨ (n0 ≤ b ∧ ¬ (n9 ≤ b ∧ b < nA))) (fun b h => ⟨x9 (hV1 b h).1 (by have := hVr b h; omega), (hV1 b h).2.1, (hV1 b h).2.2.1, fun k => (hO16 b k).2.2.2 h⟩) (fun b h => ⟨(hO16 b h).1, (hO16 b h).2.1, (hO16 b h).2.2.1⟩) (.inl ⟨hXt, by omega⟩) (.inl ⟨hXd, by omega⟩) HSr9 HSu9
  refine wp_reg zd (l_v (zmP rfl) (l_v (zmS rfl) (l_to (to_f2 zk (zvP rfl) (zvS rfl) (CallsR.mono (h9) ?_)))))
  replace E := E.step k109 (by intro i hi he; have he0 := he; (try dsimp only [NoK] at hi he ⊢); (try simp only [Value.ownBlock, Option.some.injEq] at he); first | exact he.elim | omega | exact he | (first | exact htd (ho.trans he0).symm | exact (hO16 _ ho0).2.1 he0 | exact (hV1 _ hi).2.1 he0 | exact hi.1 (he0 ▸ hXt) | exact hi.elim (fun h => h.1 (he0 ▸ hXt)) (fun h => by omega) | exact he0 ▸ hXt | exact .inl (he0 ▸ hXt)))
  replace HSm := HSm.keep k109 (by intro i _ hi he; have he0 := he; (try dsimp only [NoK, AllB] at hi he); (try simp only [Value.ownBlock, Option.some.injEq] at he); first | exact hi.elim | exact he.elim | omega | (rcases hi with hi | hi <;> omega) | (rcases he with he | he <;> omega) | (first | exact htd (ho.trans he0).symm | exact (hO16 _ ho0).2.1 he0 | exact (hV1 _ hi).2.1 he0 | exact hi.1 (he0 ▸ hXt) | exact hi.elim (fun h => h.1 (he0 ▸ hXt)) (fun h => by omega) | exact he0 ▸ hXt | exact .inl (he0 ▸ hXt)))
  replace EL2 := EL2.step k109 (by intro i hi he; have he0 := he; (try dsimp only [NoK] at hi he ⊢); (try simp only [Value.ownBlock, Option.some.injEq] at he); first | exact he.elim | omega | exact he | (first | exact htd (ho.trans he0).symm | exact (hO16 _ ho0).2.1 he0 | exact (hV1 _ hi).2.1 he0 | exact hi.1 (he0 ▸ hXt) | exact hi.elim (fun h => h.1 (he0 ▸ hXt)) (fun h => by omega) | exact he0 ▸ hXt | exact .inl (he0 ▸ hXt)))
  rintro _ w18 ⟨⟨ua, un, uc, bb, rfl, hT, hFl⟩, k18⟩
  have := k18.size
  refine l_v (zmT rfl) (l_v (v_extract (t := .slice _ _ _) rfl rfl) (l_v (v_extract (t := .bool _) rfl rfl) (l_v (zaS rfl) (l_v (zaB rfl) (l_nil (n_then (c_seq (c_seq (wp_reg zd ?_)))))))))
  replace E := E.step k18 (by intro i hi he; have he0 := he; (try dsimp only [NoK] at hi he ⊢); (try simp only [Value.ownBlock, Option.some.injEq] at he); first | exact he.elim | omega | exact he | (first | exact he0.elim (fun h => hi.1 h.1) (fun h => by have := hi.2; omega) | exact he0.elim (fun h => h.1) (fun h => by omega) | exact he0.imp (fun h => h.1) (fun h => h.1)))
  replace HSr := HSr.keep k18 (by intro i _ hi he; have he0 := he; (try dsimp only [NoK, AllB] at hi he); (try simp only [Value.ownBlock, Option.some.injEq] at he); first | exact hi.elim | exact he.elim | omega | (rcases hi with hi | hi <;> omega) | (rcases he with he | he <;> omega) | (first | exact he0.elim (fun h => hi.1 h.1) (fun h => by have := hi.2; omega) | exact he0.elim (fun h => h.1) (fun h => by omega) | exact he0.imp (fun h => h.1) (fun h => h.1)))
  replace HSm := HSm.keep k18 (by intro i _ hi he; have he0 := he; (try dsimp only [NoK, AllB] at hi he); (try simp only [Value.ownBlock, Option.some.injEq] at he); first | exact hi.elim | exact he.elim | omega | (rcases hi with hi | hi <;> omega) | (rcases he with he | he <;> omega) | (first | exact he0.elim (fun h => hi.1 h.1) (fun h => by have := hi.2; omega) | exact he0.elim (fun h => h.1) (fun h => by omega) | exact he0.imp (fun h => h.1) (fun h => h.1)))
  replace EL2 := EL2.step k18 (by intro i hi he; have he0 := he; (try dsimp only [NoK] at hi he ⊢); (try simp only [Value.ownBlock, Option.some.injEq] at he); first | exact he.elim | omega | exact he | (first | exact he0.elim (fun h => hi.1 h.1) (fun h => by have := hi.2; omega) | exact he0.elim (fun h => h.1) (fun h => by omega) | exact he0.imp (fun h => h.1) (fun h => h.1)))
  refine l_v (zmB rfl) (l_nil (n_then (c_cond rfl rfl (fun hb => ?_) (fun hb => ?_))))
  ·
   refine c_seq (wp_reg zd (l_v (zmS rfl) (l_v (zaS rfl) (l_v (v_assign rfl) (l_nil (n_then (c_ret (r_then (r_blk ?_)))))))))
   refine r_then (r_then (r_blk (r_then (ret2v rfl zq zq (zvS rfl) (zvB rfl) ?_))))
   obtain ⟨os, m', ao', co', c9, cells9, hs, HSres, HBr, HSo⟩ := hT hb
   have hs2 : stepU r d m i = some (i :: os, m') := by rw [step_go hx hcan, hs]; rfl
   have hs3 := seek_yes hdl (by rw [hw]; decide) h2 hil hs2
   have ha : ord ++ [i] ++ os = ord ++ i :: os := by simp
   rw [ha] at HBr HSo
   exact ⟨⟨ua, un, uc, true, rfl, fun _ => ⟨i :: os, m', ao', co', c9, cells9, hs3, HSres, HBr, HSo⟩, fun h => by cases h⟩, E⟩
  obtain ⟨hs, a2, c2, vs2, S2, V2, HBt, HOe, HOp, HTv, hV2, hO2, hS2⟩ := hFl (by simpa using hb)
  obtain ⟨b2, rfl, hb2n, hb2l⟩ := HOp.addr (by simp [intsN])
  have hV3 : ∀ b, V2 b → (X b ∨ n0 ≤ b) ∧ b ≠ tb ∧ b ≠ bD ∧ (Value.slice (some ⟨b2, 0, none⟩) ord.length c2).ownBlock ≠ some b := fun b h => ⟨(hV2 b h).1.elim (fun k => k.imp (fun h => h.1) (fun h => h.1)) (fun h => .inr zo), (hV2 b h).2.1, (hV2 b h).2.2.1, (hV2 b h).2.2.2⟩
  have hO3 : ∀ b, (Value.slice (some ⟨b2, 0, none⟩) ord.length c2).ownBlock = some b → (X b ∨ n0 ≤ b) ∧ b ≠ tb ∧ b ≠ bD := fun b h => ⟨(hO2 b h).1.elim (fun k => k.imp (fun h => h.1) (fun h => h.1)) (fun h => .inr zo), (hO2 b h).2⟩
  have hcc := HOp.cap
  have hil8 : (intsN (ord ++ [i])).length = ord.length + 1 := by simp [intsN]
  have HOq := HOp.pre (m := ord.length) zo
  rw [show (intsN (ord ++ [i])).take ord.length = intsN ord by simp [intsN]] at HOq
  have hdi2 : (d.set i true)[i]? = some true := List.getElem?_set_self zo
  have zo_HOe := fun (b : Nat) h => HOe.own_lt (b := b) h
  have zo_HOq := fun (b : Nat) h => HOq.own_lt (b := b) h
  refine c_skip (n_then (c_seq (wp_reg zd (l_v (zmP rfl) (l_v (v_nilCheck rfl) ?_)))))
  refine l_v (v_fieldAddr (off := 1) (ft := 97) zk rfl) (l_v (v_load zk rfl (by first | exact HBt.pv 1 _ rfl | assumption)) ?_)
  refine l_v (zmI rfl) (l_v (v_indexAddr (et := 4) (sz := 1) (k := i) zk zk rfl rfl (by first | rfl | omega) zo) ?_)
  refine l_to (to_storeO (k := i) (off := 0) rfl ((by rw [show tBool.sz = 1 from rfl]; simp [add_lit])) (by first | decide | exact (of_decide_eq_true rfl : 0 < 2)) (zvB rfl) rfl zk HOe (x1 := false) hdi2 (fun cs h => by obtain rfl := h; rfl) ?_)
  rintro w21 HOd k21 z21
  have := k21.size
  have zo_HOd := fun (b : Nat) h => HOd.own_lt (b := b) h
  refine l_nil (n_then ?_)
  rw [set_back zo hund] at HOd
  refine wp_any zk ?_
  have e110 : Ext w21 { w21 with drawn := w21.drawn + 1 } := Keep.drawn _ _
  replace E := E.step k21 (by intro i hi he; have he0 := he; (try dsimp only [NoK] at hi he ⊢); (try simp only [Value.ownBlock, Option.some.injEq] at he); first | exact he.elim | omega | exact he | (first | exact htd he0 | exact (hV3 _ hi).2.2.1 he0 | exact (hO3 _ ho0).2.2 he0 | exact hi.1 (he0 ▸ hXd) | exact he0 ▸ hXd | exact .inl (he0 ▸ hXd)))
  replace HSr := HSr.keep k21 (by intro i _ hi he; have he0 := he; (try dsimp only [NoK, AllB] at hi he); (try simp only [Value.ownBlock, Option.some.injEq] at he); first | exact hi.elim | exact he.elim | omega | (rcases hi with hi | hi <;> omega) | (rcases he with he | he <;> omega) | (first | exact htd he0 | exact (hV3 _ hi).2.2.1 he0 | exact (hO3 _ ho0).2.2 he0 | exact hi.1 (he0 ▸ hXd) | exact he0 ▸ hXd | exact .inl (he0 ▸ hXd)))
  replace HSm := HSm.keep k21 (by intro i _ hi he; have he0 := he; (try dsimp only [NoK, AllB] at hi he); (try simp only [Value.ownBlock, Option.some.injEq] at he); first | exact hi.elim | exact he.elim | omega | (rcases hi with hi | hi <;> omega) | (rcases he with he | he <;> omega) | (first | exact htd he0 | exact (hV3 _ hi).2.2.1 he0 | exact (hO3 _ ho0).2.2 he0 | exact hi.1 (he0 ▸ hXd) | exact he0 ▸ hXd | exact .inl (he0 ▸ hXd)))
  replace EL2 := EL2.step k21 (by intro i hi he; have he0 := he; (try dsimp only [NoK] at hi he ⊢); (try simp only [Value.ownBlock, Option.some.injEq] at he); first | exact he.elim | omega | exact he | (first | exact htd he0 | exact (hV3 _ hi).2.2.1 he0 | exact (hO3 _ ho0).2.2 he0 | exact hi.1 (he0 ▸ hXd) | exact he0 ▸ hXd | exact .inl (he0 ▸ hXd)))
  replace HBt := HBt.keep k21 (by intro h; have he0 := h; (try dsimp only at h); (try simp only [Value.ownBlock, Option.some.injEq] at h); first | omega | (have he := he0; first | exact htd he0 | exact (hV3 _ hi).2.2.1 he0 | exact (hO3 _ ho0).2.2 he0 | exact hi.1 (he0 ▸ hXd) | exact he0 ▸ hXd | exact .inl (he0 ▸ hXd)))
  replace HOq := HOq.keep k21 (by intro i ho he; have he0 := he; have ho0 := ho; (try dsimp only [NoK] at he); (try simp only [Value.ownBlock, Option.some.injEq, reduceCtorEq] at ho); (try simp only [Value.ownBlock, Option.some.injEq, reduceCtorEq] at he); first | exact he.elim | exact ho.elim | omega | (have := zo_HOq _ ho0; omega) | (first | exact htd he0 | exact (hV3 _ hi).2.2.1 he0 | exact (hO3 _ ho0).2.2 he0 | exact hi.1 (he0 ▸ hXd) | exact he0 ▸ hXd | exact .inl (he0 ▸ hXd))) (by intro i _ hi _ he; have he0 := he; have hi := hi; have he := he; (try dsimp only [NoK, AllB] at hi he); (try simp only [Value.ownBlock, Option.some.injEq, reduceCtorEq] at he); all_goals first | exact hi.elim | exact hi.1.elim | exact he.elim | omega | (rcases hi with hi | hi <;> omega) | (rcases he with he | he <;> omega) | (first | exact htd he0 | exact (hV3 _ hi).2.2.1 he0 | exact (hO3 _ ho0).2.2 he0 | exact hi.1 (he0 ▸ hXd) | exact he0 ▸ hXd | exact .inl (he0 ▸ hXd)))
  replace HTv := HTv.keep k21 (by intro i _ hi he; have he0 := he; (try dsimp only [NoK, AllB] at hi he); (try simp only [Value.ownBlock, Option.some.injEq] at he); first | exact hi.elim | exact he.elim | omega | (rcases hi with hi | hi <;> omega) | (rcases he with he | he <;> omega) | (first | exact htd he0 | exact (hV3 _ hi).2.2.1 he0 | exact (hO3 _ ho0).2.2 he0 | exact hi.1 (he0 ▸ hXd) | exact he0 ▸ hXd | exact .inl (he0 ▸ hXd)))
  generalize hw110 : ({ w21 with drawn := w21.drawn + 1 } : World) = w110 at e110 ⊢
  clear hw110
  have := e110.size
  refine r_cut 14 rfl zd zd zd ?_
  refine wp_regdW (NoK) zd zd ?_
  refine rt_v (fun vals w hR hd => zmP rfl) ?_
  refine rt_v (fun vals w hR hd => zmP rfl) ?_
  refine rt_v (fun vals w hR hd => v_nilCheck (hd 1 rfl)) ?_
  refine rt_v (fun vals w hR hd => v_fieldAddr (off := 2) (ft := 53) zk (hd 2 rfl)) ?_
  replace HBt := HBt.ext e110
  refine rt_v (fun vals w hR hd => v_load zk (hd 3 rfl) (by first | exact (HBt.ext hR).pv 2 _ rfl | assumption)) ?_
  refine rt_v (fun vals w hR hd => zmP rfl) ?_
  refine rt_v (fun vals w hR hd => v_nilCheck (hd 5 rfl)) ?_
  refine rt_v (fun vals w hR hd => v_fieldAddr (off := 2) (ft := 53) zk (hd 6 rfl)) ?_
  refine rt_v (fun vals w hR hd => v_load zk (hd 7 rfl) (by first | exact (HBt.ext hR).pv 2 _ rfl | assumption)) ?_
  refine rt_v (fun vals w hR hd => v_len (et := 3) zk (hd 8 rfl)) ?_
  refine rt_v (fun vals w hR hd => v_sub (hd 9 rfl) rfl (by first | exact wr_i64 zo zo | rfl)) ?_
  refine rt_v (fun vals w hR hd => v_slicePre (et := 3) (sz := 1) (h := ord.length) zk zk (hd 4 rfl) (hd 10 rfl) (by (simp <;> exact wr_i64 zo zo)) zo) ?_
  refine rt_v (fun vals w hR hd => v_nilCheck (hd 0 rfl)) ?_
  refine rt_v (fun vals w hR hd => v_fieldAddr (off := 2) (ft := 53) zk (hd 12 rfl)) ?_
  refine rt_nil (fun w111 e111 => ?_)
  rintro _ rfl _ rfl _ rfl _ rfl _ rfl _ rfl _ rfl _ rfl _ rfl _ rfl _ rfl _ rfl _ rfl _ rfl
  have := e111.size
  refine fin_nil (n_then (r_one zd rfl ?_))
  replace HBt := HBt.ext e111
  refine l_to (to_store rfl rfl (zvS rfl) rfl zk HBt (by first | exact of_decide_eq_true rfl | (simp; done) | decide | (simp only [List.length_set, hlen]; exact of_decide_eq_true rfl) | (simp only [List.length_cons]; omega)) ?_)
  rintro w112 HX112 k112 z112
  have := k112.size
  replace HBt := HX112
  clear HX112
  try simp only [zS, Nat.zero_add, Nat.reduceAdd, List.drop_nil] at HBt
  refine l_nil (n_blk (n_then (wp_reg zd (l_v (zmI rfl) (l_v (v_add rfl rfl (by first | exact wr_i64 zo zo | rfl)) ?_)))))
  replace E := ((E.trans e110.keep).trans e111.keep).step k112 (by intro i hi he; have he0 := he; (try dsimp only [NoK] at hi he ⊢); (try simp only [Value.ownBlock, Option.some.injEq] at he); first | exact he.elim | omega | exact he | (first | exact htd (ho.trans he0).symm | exact (hO3 _ ho0).2.1 he0 | exact (hV3 _ hi).2.1 he0 | exact hi.1 (he0 ▸ hXt) | exact he0 ▸ hXt | exact .inl (he0 ▸ hXt)))
  replace HSr := ((HSr.ext e110).ext e111).keep k112 (by intro i _ hi he; have he0 := he; (try dsimp only [NoK, AllB] at hi he); (try simp only [Value.ownBlock, Option.some.injEq] at he); first | exact hi.elim | exact he.elim | omega | (rcases hi with hi | hi <;> omega) | (rcases he with he | he <;> omega) | (first | exact htd (ho.trans he0).symm | exact (hO3 _ ho0).2.1 he0 | exact (hV3 _ hi).2.1 he0 | exact hi.1 (he0 ▸ hXt) | exact he0 ▸ hXt | exact .inl (he0 ▸ hXt)))
  replace HSm := ((HSm.ext e110).ext e111).keep k112 (by intro i _ hi he; have he0 := he; (try dsimp only [NoK, AllB] at hi he); (try simp only [Value.ownBlock, Option.some.injEq] at he); first | exact hi.elim | exact he.elim | omega | (rcases hi with hi | hi <;> omega) | (rcases he with he | he <;> omega) | (first | exact htd (ho.trans he0).symm | exact (hO3 _ ho0).2.1 he0 | exact (hV3 _ hi).2.1 he0 | exact hi.1 (he0 ▸ hXt) | exact he0 ▸ hXt | exact .inl (he0 ▸ hXt)))
  replace EL2 := ((EL2.trans e110.keep).trans e111.keep).step k112 (by intro i hi he; have he0 := he; (try dsimp only [NoK] at hi he ⊢); (try simp only [Value.ownBlock, Option.some.injEq] at he); first | exact he.elim | omega | exact he | (first | exact htd (ho.trans he0).symm | exact (hO3 _ ho0).2.1 he0 | exact (hV3 _ hi).2.1 he0 | exact hi.1 (he0 ▸ hXt) | exact he0 ▸ hXt | exact .inl (he0 ▸ hXt)))
  replace HOq := ((HOq.ext e110).ext e111).keep k112 (by intro i ho he; have he0 := he; have ho0 := ho; (try dsimp only [NoK] at he); (try simp only [Value.ownBlock, Option.some.injEq, reduceCtorEq] at ho); (try simp only [Value.ownBlock, Option.some.injEq, reduceCtorEq] at he); first | exact he.elim | exact ho.elim | omega | (have := zo_HOq _ ho0; omega) | (first | exact htd (ho.trans he0).symm | exact (hO3 _ ho0).2.1 he0 | exact (hV3 _ hi).2.1 he0 | exact hi.1 (he0 ▸ hXt) | exact he0 ▸ hXt | exact .inl (he0 ▸ hXt))) (by intro i _ hi _ he; have he0 := he; have hi := hi; have he := he; (try dsimp only [NoK, AllB] at hi he); (try simp only [Value.ownBlock, Option.some.injEq, reduceCtorEq] at he); all_goals first | exact hi.elim | exact hi.1.elim | exact he.elim | omega | (rcases hi with hi | hi <;> omega) | (rcases he with he | he <;> omega) | (first | exact htd (ho.trans he0).symm | exact (hO3 _ ho0).2.1 he0 | exact (hV3 _ hi).2.1 he0 | exact hi.1 (he0 ▸ hXt) | exact he0 ▸ hXt | exact .inl (he0 ▸ hXt)))
  replace HTv := ((HTv.ext e110).ext e111).keep k112 (by intro i _ hi he; have he0 := he; (try dsimp only [NoK, AllB] at hi he); (try simp only [Value.ownBlock, Option.some.injEq] at he); first | exact hi.elim | exact he.elim | omega | (rcases hi with hi | hi <;> omega) | (rcases he with he | he <;> omega) | (first | exact htd (ho.trans he0).symm | exact (hO3 _ ho0).2.1 he0 | exact (hV3 _ hi).2.1 he0 | exact hi.1 (he0 ▸ hXt) | exact he0 ▸ hXt | exact .inl (he0 ▸ hXt)))
  replace HOd := ((HOd.ext e110).ext e111).keep k112 (by intro i ho he; have he0 := he; have ho0 := ho; (try dsimp only [NoK] at he); (try simp only [Value.ownBlock, Option.some.injEq, reduceCtorEq] at ho); (try simp only [Value.ownBlock, Option.some.injEq, reduceCtorEq] at he); first | exact he.elim | exact ho.elim | omega | (have := zo_HOd _ ho0; omega) | (first | exact htd (ho.trans he0).symm | exact (hO3 _ ho0).2.1 he0 | exact (hV3 _ hi).2.1 he0 | exact hi.1 (he0 ▸ hXt) | exact he0 ▸ hXt | exact .inl (he0 ▸ hXt))) (by intro i _ hi _ he; have he0 := he; have hi := hi; have he := he; (try dsimp only [NoK, AllB] at hi he); (try simp only [Value.ownBlock, Option.some.injEq, reduceCtorEq] at he); all_goals first | exact hi.elim | exact hi.1.elim | exact he.elim | omega | (rcases hi with hi | hi <;> omega) | (rcases he with he | he <;> omega) | (first | exact htd (ho.trans he0).symm | exact (hO3 _ ho0).2.1 he0 | exact (hV3 _ hi).2.1 he0 | exact hi.1 (he0 ▸ hXt) | exact he0 ▸ hXt | exact .inl (he0 ▸ hXt)))
  refine l_v (zaI rfl) (l_nil (n_then (⟨(i + 1, some ⟨b2, 0, none⟩, c2, vs2, S2, V2), _, rfl, by (repeat' (first | exact Off.of_over _ _ _ | refine Off.upd ?_ zq _ | refine Off.overs ?_ zq _)), ⟨by first | rfl | exact congrArg (Value.int _) zo | (simp; done), trivial⟩, ⟨E, EL2, ?_⟩, ?_⟩)))
  ·
   refine ⟨by omega, fun t ht => ?_, HBt, HOd, HOq, HTv, hV3, hO3, fun k s h => ?_⟩
   ·
    rcases Nat.lt_or_ge t i with h9 | h9
    ·
     exact h2 t h9
    obtain rfl : t = i := by omega
    rw [step_go hx hcan, hs]; rfl
   rcases hS2 k s h with h9 | ⟨d', m', h5, h6, h7⟩
   ·
    exact hS1 k s h9
   exact .inr ⟨d', m', h5, h6, by omega⟩
  (dsimp only; omega)
 have hnn := seek_no hdl (by rw [hw]; decide) (fun t ht => h2 t (by have := dfalse hlt; omega))
 obtain ⟨ak1, ck1, hvk1, HOk1, hVk1⟩ := HTv.at hk
 have HPk1 := tr_pv HBt hvk1
 have hni : keyR d m ∉ S1 k := fun h => by
  rcases hS1 k _ h with h9 | ⟨d', m', h5, h6, h7⟩
  ·
   exact hnotin h9
  obtain rfl := keyR_d hdl h6 h5
  omega
 have hvt : VnT r (keyR d m) := ⟨d, m, rfl, g, hnn⟩
 have hle := HTv.le hr k
 obtain ⟨nS, hnS⟩ : ∃ n, n = w104.heap.size := ⟨_, rfl⟩
 have hkr : ∀ b, (Value.slice ak1 (S1 k).length ck1).ownBlock = some b → b < nS := fun b h => by rw [hnS]; exact (HOk1.own_lt h).2
 have hor : ∀ b, (Value.slice a1 ord.length c1).ownBlock = some b → b < nS := fun b h => by rw [hnS]; exact (HOo.own_lt h).2
 have htl : tb < nS := by omega
 refine c_exit (x_then (x_then (x_hit (n_then (c_seq (wp_any zk ?_))))))
 have e113 : Ext w104 { w104 with drawn := w104.drawn + 1 } := Keep.drawn _ _
 generalize hw113 : ({ w104 with drawn := w104.drawn + 1 } : World) = w113 at e113 ⊢
 clear hw113
 have := e113.size
 refine r_cut 14 rfl zd zd zd ?_
 have hsW := Nat.le_refl w113.heap.size
 replace HTv := HTv.ext e113
 refine wp_regJW (fun b => (Value.slice ak1 (S1 k).length ck1).ownBlock = some b) (Ch1J 10 (fun W => VnR r 9 W n1 V1 vs1 S1) (fun v W => ∃ u n c V', v = .slice u n c ∧ VnR r 9 W n1 V' (vs1.set k v) (fun j => if j = k then S1 k ++ [keyR d m] else S1 j) ∧ ∀ b, V' b → V1 b ∨ nS ≤ b)) zd zd (fun vals done hd => Ch1J.start (HTv) (hd 10 zq)) ?_
 refine rj_vJ (fun done vals w hR hcl hdk hJ hdn hd => zmP rfl) (fun done vals w hdk hJ => hJ.src zq) ?_
 refine rj_vJ (fun done vals w hR hcl hdk hJ hdn hd => zmI rfl) (fun done vals w hdk hJ => hJ.src zq) ?_
 refine rj_vJ (fun done vals w hR hcl hdk hJ hdn hd => zmP rfl) (fun done vals w hdk hJ => hJ.src zq) ?_
 refine rj_vJ (fun done vals w hR hcl hdk hJ hdn hd => zmI rfl) (fun done vals w hdk hJ => hJ.src zq) ?_
 refine rj_vJ (fun done vals w hR hcl hdk hJ hdn hd => v_nilCheck (hd 2 rfl)) (fun done vals w hdk hJ => hJ.src zq) ?_
 refine rj_vJ (fun done vals w hR hcl hdk hJ hdn hd => v_fieldAddr (off := 3) (ft := 99) zk (hd 4 rfl)) (fun done vals w hdk hJ => hJ.src zq) ?_
 refine rj_vJ (fun done vals w hR hcl hdk hJ hdn hd => v_arrAddr (et := 98) (n := 1024) (sz := 1) (k := k) zk (hd 5 rfl) (hd 3 rfl) rfl (hk)) (fun done vals w hdk hJ => hJ.src zq) ?_
 replace HBt := HBt.ext e113
 replace HPk1 := HPk1.ext e113
 refine rj_vJ (fun done vals w hR hcl hdk hJ hdn hd => v_load zk (hd 6 rfl) (by first | exact pv_1 (HPk1.keep hR (by intro h; have he0 := h; (try dsimp only at h); (try simp only [Value.ownBlock, Option.some.injEq] at h); (try simp only [add_block] at h); (try simp only [add_block] at he0); first | omega | (have he := he0; first | exact (hV1 _ (hVk1 _ he0)).2.1 rfl | exact (hV1 _ (hVk1 _ he0)).1.elim hi.1 (fun h => by have := hi.2; omega) | exact (hV1 _ (hVk1 _ he0)).2.2.1 ho.symm | exact (hV1 _ (hVk1 _ he0)).2.2.2 ho0 | exact (hV1 _ (hVk1 _ he0)).1.resolve_right zo | exact (hV1 _ (hVk1 _ he0)).1 | exact absurd he0 (fun h => (hV1 _ (hVk1 _ h)).2.1 rfl)))) | exact (HBt.keep hR (by intro h; have he0 := h; (try dsimp only at h); (try simp only [Value.ownBlock, Option.some.injEq] at h); first | omega | (have he := he0; first | exact (hV1 _ (hVk1 _ he0)).2.1 rfl | exact (hV1 _ (hVk1 _ he0)).1.elim hi.1 (fun h => by have := hi.2; omega) | exact (hV1 _ (hVk1 _ he0)).2.2.1 ho.symm | exact (hV1 _ (hVk1 _ he0)).2.2.2 ho0 | exact (hV1 _ (hVk1 _ he0)).1.resolve_right zo | exact (hV1 _ (hVk1 _ he0)).1 | exact absurd he0 (fun h => (hV1 _ (hVk1 _ h)).2.1 rfl)))).cell rfl | assumption)) (fun done vals w hdk hJ => hJ.src zq) ?_
 refine rj_vJ (fun done vals w hR hcl hdk hJ hdn hd => v_move (t := .string _) rfl) (fun done vals w hdk hJ => hJ.src zq) ?_
 refine rj_to (fun v W => SlV tStr W (fun b => nS ≤ b) v [keyR d m]) (fun v w w' h k => h.keep k (fun b _ hb he => by have := hkr b he; omega)) (fun done vals w hR hcl hdk hJ hdn hd => OpTo.mono (K := fun v w1 => Ext w w1 ∧ (fun v W => SlV tStr W (fun b => nS ≤ b) v [keyR d m]) v w1) (to_slice1 (t := tStr) (F := NoK) (et := 9) (bytes := 16) zk zq (hd 8 rfl) rfl fun b w1 hb HO e z => ⟨e, HO.view.mono fun i _ hi => by have := hR.size; exact hi.elim (fun h => by omega) (fun h => h.1.elim)⟩) fun v w1 h => ⟨Ext.keep h.1, h.2, hJ.srcE (fun w w' e h => h.ext e) (fun v w w' e h => by obtain ⟨u, n, c, V', h1, h2, h3⟩ := h; exact ⟨u, n, c, V', h1, h2.ext e, h3⟩) h.1 zq⟩) ?_
 replace E := E.trans e113.keep
 replace HSr := HSr.ext e113
 replace HSm := HSm.ext e113
 replace HOd := HOd.ext e113
 replace HOo := HOo.ext e113
 refine rj_d (fun done vals w hR hcl hdk hJ hdn hd => by
   obtain ⟨h0, hn⟩ := hJ.st hdk
   exact to_append (et := 9) (bytes := 16) zk (hd 7 rfl) ((h0.own k _ hvk1)) rfl ((show SlV tStr _ _ _ [keyR d m] from hd 9 rfl)) (fun cs x h => h) (by first | omega | (simp; done) | (simp; omega)) (by simp only [maxLen]; first | omega | (simp; done) | (simp; omega)) (by have := hR.size; omega) fun a9 n9 c9 w1 h hn9 k9 h9 i9 => ⟨k9, hn _ _ (by obtain ⟨V9, q1, q2⟩ := h0.put hvk1 k9 h (fun b hb => h9 b hb) hvt hni; exact ⟨a9, n9, c9, V9, rfl, q1, fun b hb => (q2 b hb).imp (fun h => h) (fun h => by have := hR.size; omega)⟩)⟩) ?_
 refine rj_vJ (fun done vals w hR hcl hdk hJ hdn hd => v_nilCheck (hd 0 rfl)) (fun done vals w hdk hJ => hJ.src zq) ?_
 refine rj_vJ (fun done vals w hR hcl hdk hJ hdn hd => v_fieldAddr (off := 3) (ft := 99) zk (hd 11 rfl)) (fun done vals w hdk hJ => hJ.src zq) ?_
 refine rj_vJ (fun done vals w hR hcl hdk hJ hdn hd => v_arrAddr (et := 98) (n := 1024) (sz := 1) (k := k) zk (hd 12 rfl) (hd 1 rfl) rfl (hk)) (fun done vals w hdk hJ => hJ.src zq) ?_
 refine rj_nil (fun vals w114 k114 J114 => ?_)
 rintro _ - rfl _ - rfl _ - rfl _ - rfl _ - rfl _ - rfl _ - rfl _ - rfl _ - rfl v41 - HS41 v142 qv142 - _ - rfl _ - rfl _ - rfl
 have := k114.size
 have hX114 := J114.fin
 rw [← qv142] at hX114
 clear qv142
 obtain ⟨u9, nn9, cu9, V9, rfl, HTv, hV9⟩ := hX114
 refine fin_nilJ (n_then (r_one zd rfl ?_))
 replace HBt := HBt.keep k114 (by intro h; have he0 := h; (try dsimp only at h); (try simp only [Value.ownBlock, Option.some.injEq] at h); first | omega | (have he := he0; first | exact (hV1 _ (hVk1 _ he0)).2.1 rfl | exact (hV1 _ (hVk1 _ he0)).1.elim hi.1 (fun h => by have := hi.2; omega) | exact (hV1 _ (hVk1 _ he0)).2.2.1 ho.symm | exact (hV1 _ (hVk1 _ he0)).2.2.2 ho0 | exact (hV1 _ (hVk1 _ he0)).1.resolve_right zo | exact (hV1 _ (hVk1 _ he0)).1 | exact absurd he0 (fun h => (hV1 _ (hVk1 _ h)).2.1 rfl)))
 refine l_to (to_store (i := k + 3) rfl (tr_ad tb k) (zvS rfl) rfl zk HBt (by (have h9 := HTv.len; rw [List.length_set] at h9; simp only [List.length_cons]; omega)) ?_)
 rintro w44 HBt k44 z44
 have := k44.size
 simp only [List.set_cons_succ] at HBt
 refine l_nil (n_then (c_seq (wp_reg zd (l_v (v_assign rfl) (l_v (v_assign rfl) (l_nil (n_then (c_ret (ret2v rfl zq zq (zvS rfl) (zvB rfl) ?_)))))))))
 replace E := (E.step k114 (by intro i hi he; have he0 := he; (try dsimp only [NoK] at hi he ⊢); (try simp only [Value.ownBlock, Option.some.injEq] at he); first | exact he.elim | omega | exact he | (first | exact (hV1 _ (hVk1 _ he0)).2.1 rfl | exact (hV1 _ (hVk1 _ he0)).1.elim hi.1 (fun h => by have := hi.2; omega) | exact (hV1 _ (hVk1 _ he0)).2.2.1 ho.symm | exact (hV1 _ (hVk1 _ he0)).2.2.2 ho0 | exact (hV1 _ (hVk1 _ he0)).1.resolve_right zo | exact (hV1 _ (hVk1 _ he0)).1 | exact absurd he0 (fun h => (hV1 _ (hVk1 _ h)).2.1 rfl)))).step k44 (by intro i hi he; have he0 := he; (try dsimp only [NoK] at hi he ⊢); (try simp only [Value.ownBlock, Option.some.injEq] at he); first | exact he.elim | omega | exact he | (first | exact htd (ho.trans he0).symm | exact (hO1 _ ho0).2.1 he0 | exact (hV9 _ hi).elim (fun h => (hV1 _ h).2.1 he0) (fun h => by omega) | exact hi.1 (he0 ▸ hXt) | exact he0 ▸ hXt | exact .inl (he0 ▸ hXt)))
 replace HSr := (HSr.keep k114 (by intro i _ hi he; have he0 := he; (try dsimp only [NoK, AllB] at hi he); (try simp only [Value.ownBlock, Option.some.injEq] at he); first | exact hi.elim | exact he.elim | omega | (rcases hi with hi | hi <;> omega) | (rcases he with he | he <;> omega) | (first | exact (hV1 _ (hVk1 _ he0)).2.1 rfl | exact (hV1 _ (hVk1 _ he0)).1.elim hi.1 (fun h => by have := hi.2; omega) | exact (hV1 _ (hVk1 _ he0)).2.2.1 ho.symm | exact (hV1 _ (hVk1 _ he0)).2.2.2 ho0 | exact (hV1 _ (hVk1 _ he0)).1.resolve_right zo | exact (hV1 _ (hVk1 _ he0)).1 | exact absurd he0 (fun h => (hV1 _ (hVk1 _ h)).2.1 rfl)))).keep k44 (by intro i _ hi he; have he0 := he; (try dsimp only [NoK, AllB] at hi he); (try simp only [Value.ownBlock, Option.some.injEq] at he); first | exact hi.elim | exact he.elim | omega | (rcases hi with hi | hi <;> omega) | (rcases he with he | he <;> omega) | (first | exact htd (ho.trans he0).symm | exact (hO1 _ ho0).2.1 he0 | exact (hV9 _ hi).elim (fun h => (hV1 _ h).2.1 he0) (fun h => by omega) | exact hi.1 (he0 ▸ hXt) | exact he0 ▸ hXt | exact .inl (he0 ▸ hXt)))
 replace HSm := (HSm.keep k114 (by intro i _ hi he; have he0 := he; (try dsimp only [NoK, AllB] at hi he); (try simp only [Value.ownBlock, Option.some.injEq] at he); first | exact hi.elim | exact he.elim | omega | (rcases hi with hi | hi <;> omega) | (rcases he with he | he <;> omega) | (first | exact (hV1 _ (hVk1 _ he0)).2.1 rfl | exact (hV1 _ (hVk1 _ he0)).1.elim hi.1 (fun h => by have := hi.2; omega) | exact (hV1 _ (hVk1 _ he0)).2.2.1 ho.symm | exact (hV1 _ (hVk1 _ he0)).2.2.2 ho0 | exact (hV1 _ (hVk1 _ he0)).1.resolve_right zo | exact (hV1 _ (hVk1 _ he0)).1 | exact absurd he0 (fun h => (hV1 _ (hVk1 _ h)).2.1 rfl)))).keep k44 (by intro i _ hi he; have he0 := he; (try dsimp only [NoK, AllB] at hi he); (try simp only [Value.ownBlock, Option.some.injEq] at he); first | exact hi.elim | exact he.elim | omega | (rcases hi with hi | hi <;> omega) | (rcases he with he | he <;> omega) | (first | exact htd (ho.trans he0).symm | exact (hO1 _ ho0).2.1 he0 | exact (hV9 _ hi).elim (fun h => (hV1 _ h).2.1 he0) (fun h => by omega) | exact hi.1 (he0 ▸ hXt) | exact he0 ▸ hXt | exact .inl (he0 ▸ hXt)))
 replace HOd := (HOd.keep k114 (by intro i ho he; have he0 := he; have ho0 := ho; (try dsimp only [NoK] at he); (try simp only [Value.ownBlock, Option.some.injEq, reduceCtorEq] at ho); (try simp only [Value.ownBlock, Option.some.injEq, reduceCtorEq] at he); first | exact he.elim | exact ho.elim | omega | (have := zo_HOd _ ho0; omega) | (first | exact (hV1 _ (hVk1 _ he0)).2.1 rfl | exact (hV1 _ (hVk1 _ he0)).1.elim hi.1 (fun h => by have := hi.2; omega) | exact (hV1 _ (hVk1 _ he0)).2.2.1 ho.symm | exact (hV1 _ (hVk1 _ he0)).2.2.2 ho0 | exact (hV1 _ (hVk1 _ he0)).1.resolve_right zo | exact (hV1 _ (hVk1 _ he0)).1 | exact absurd he0 (fun h => (hV1 _ (hVk1 _ h)).2.1 rfl))) (by intro i _ hi _ he; have he0 := he; have hi := hi; have he := he; (try dsimp only [NoK, AllB] at hi he); (try simp only [Value.ownBlock, Option.some.injEq, reduceCtorEq] at he); all_goals first | exact hi.elim | exact hi.1.elim | exact he.elim | omega | (rcases hi with hi | hi <;> omega) | (rcases he with he | he <;> omega) | (first | exact (hV1 _ (hVk1 _ he0)).2.1 rfl | exact (hV1 _ (hVk1 _ he0)).1.elim hi.1 (fun h => by have := hi.2; omega) | exact (hV1 _ (hVk1 _ he0)).2.2.1 ho.symm | exact (hV1 _ (hVk1 _ he0)).2.2.2 ho0 | exact (hV1 _ (hVk1 _ he0)).1.resolve_right zo | exact (hV1 _ (hVk1 _ he0)).1 | exact absurd he0 (fun h => (hV1 _ (hVk1 _ h)).2.1 rfl)))).keep k44 (by intro i ho he; have he0 := he; have ho0 := ho; (try dsimp only [NoK] at he); (try simp only [Value.ownBlock, Option.some.injEq, reduceCtorEq] at ho); (try simp only [Value.ownBlock, Option.some.injEq, reduceCtorEq] at he); first | exact he.elim | exact ho.elim | omega | (have := zo_HOd _ ho0; omega) | (first | exact htd (ho.trans he0).symm | exact (hO1 _ ho0).2.1 he0 | exact (hV9 _ hi).elim (fun h => (hV1 _ h).2.1 he0) (fun h => by omega) | exact hi.1 (he0 ▸ hXt) | exact he0 ▸ hXt | exact .inl (he0 ▸ hXt))) (by intro i _ hi _ he; have he0 := he; have hi := hi; have he := he; (try dsimp only [NoK, AllB] at hi he); (try simp only [Value.ownBlock, Option.some.injEq, reduceCtorEq] at he); all_goals first | exact hi.elim | exact hi.1.elim | exact he.elim | omega | (rcases hi with hi | hi <;> omega) | (rcases he with he | he <;> omega) | (first | exact htd (ho.trans he0).symm | exact (hO1 _ ho0).2.1 he0 | exact (hV9 _ hi).elim (fun h => (hV1 _ h).2.1 he0) (fun h => by omega) | exact hi.1 (he0 ▸ hXt) | exact he0 ▸ hXt | exact .inl (he0 ▸ hXt)))
 replace HOo := (HOo.keep k114 (by intro i ho he; have he0 := he; have ho0 := ho; (try dsimp only [NoK] at he); (try simp only [Value.ownBlock, Option.some.injEq, reduceCtorEq] at ho); (try simp only [Value.ownBlock, Option.some.injEq, reduceCtorEq] at he); first | exact he.elim | exact ho.elim | omega | (have := zo_HOo _ ho0; omega) | (first | exact (hV1 _ (hVk1 _ he0)).2.1 rfl | exact (hV1 _ (hVk1 _ he0)).1.elim hi.1 (fun h => by have := hi.2; omega) | exact (hV1 _ (hVk1 _ he0)).2.2.1 ho.symm | exact (hV1 _ (hVk1 _ he0)).2.2.2 ho0 | exact (hV1 _ (hVk1 _ he0)).1.resolve_right zo | exact (hV1 _ (hVk1 _ he0)).1 | exact absurd he0 (fun h => (hV1 _ (hVk1 _ h)).2.1 rfl))) (by intro i _ hi _ he; have he0 := he; have hi := hi; have he := he; (try dsimp only [NoK, AllB] at hi he); (try simp only [Value.ownBlock, Option.some.injEq, reduceCtorEq] at he); all_goals first | exact hi.elim | exact hi.1.elim | exact he.elim | omega | (rcases hi with hi | hi <;> omega) | (rcases he with he | he <;> omega) | (first | exact (hV1 _ (hVk1 _ he0)).2.1 rfl | exact (hV1 _ (hVk1 _ he0)).1.elim hi.1 (fun h => by have := hi.2; omega) | exact (hV1 _ (hVk1 _ he0)).2.2.1 ho.symm | exact (hV1 _ (hVk1 _ he0)).2.2.2 ho0 | exact (hV1 _ (hVk1 _ he0)).1.resolve_right zo | exact (hV1 _ (hVk1 _ he0)).1 | exact absurd he0 (fun h => (hV1 _ (hVk1 _ h)).2.1 rfl)))).keep k44 (by intro i ho he; have he0 := he; have ho0 := ho; (try dsimp only [NoK] at he); (try simp only [Value.ownBlock, Option.some.injEq, reduceCtorEq] at ho); (try simp only [Value.ownBlock, Option.some.injEq, reduceCtorEq] at he); first | exact he.elim | exact ho.elim | omega | (have := zo_HOo _ ho0; omega) | (first | exact htd (ho.trans he0).symm | exact (hO1 _ ho0).2.1 he0 | exact (hV9 _ hi).elim (fun h => (hV1 _ h).2.1 he0) (fun h => by omega) | exact hi.1 (he0 ▸ hXt) | exact he0 ▸ hXt | exact .inl (he0 ▸ hXt))) (by intro i _ hi _ he; have he0 := he; have hi := hi; have he := he; (try dsimp only [NoK, AllB] at hi he); (try simp only [Value.ownBlock, Option.some.injEq, reduceCtorEq] at he); all_goals first | exact hi.elim | exact hi.1.elim | exact he.elim | omega | (rcases hi with hi | hi <;> omega) | (rcases he with he | he <;> omega) | (first | exact htd (ho.trans he0).symm | exact (hO1 _ ho0).2.1 he0 | exact (hV9 _ hi).elim (fun h => (hV1 _ h).2.1 he0) (fun h => by omega) | exact hi.1 (he0 ▸ hXt) | exact he0 ▸ hXt | exact .inl (he0 ▸ hXt)))
 replace HPk1 := HPk1.keep k114 (by intro h; have he0 := h; (try dsimp only at h); (try simp only [Value.ownBlock, Option.some.injEq] at h); (try simp only [add_block] at h); (try simp only [add_block] at he0); first | omega | (have he := he0; first | exact (hV1 _ (hVk1 _ he0)).2.1 rfl | exact (hV1 _ (hVk1 _ he0)).1.elim hi.1 (fun h => by have := hi.2; omega) | exact (hV1 _ (hVk1 _ he0)).2.2.1 ho.symm | exact (hV1 _ (hVk1 _ he0)).2.2.2 ho0 | exact (hV1 _ (hVk1 _ he0)).1.resolve_right zo | exact (hV1 _ (hVk1 _ he0)).1 | exact absurd he0 (fun h => (hV1 _ (hVk1 _ h)).2.1 rfl)))
 replace HTv := HTv.keep k44 (by intro i _ hi he; have he0 := he; (try dsimp only [NoK, AllB] at hi he); (try simp only [Value.ownBlock, Option.some.injEq] at he); first | exact hi.elim | exact he.elim | omega | (rcases hi with hi | hi <;> omega) | (rcases he with he | he <;> omega) | (first | exact htd (ho.trans he0).symm | exact (hO1 _ ho0).2.1 he0 | exact (hV9 _ hi).elim (fun h => (hV1 _ h).2.1 he0) (fun h => by omega) | exact hi.1 (he0 ▸ hXt) | exact he0 ▸ hXt | exact .inl (he0 ▸ hXt)))
 refine ⟨⟨none, 0, 0, false, rfl, fun h => (by cases h), fun _ => ⟨hnn, a1, c1, _, _, V9, HBt, HOd, HOo, HTv, fun b h => ?_, hO1, fun j s h => ?_⟩⟩, E⟩
 ·
  rcases hV9 b h with h9 | h9
  ·
   exact hV1 b h9
  exact ⟨.inr zo, by omega, by omega, fun ho => by have := hor b ho; omega⟩
 try dsimp only at h
 split at h
 ·
  rename_i hj; subst hj
  rcases List.mem_append.1 h with h | h
  ·
   exact (hS1 _ s h).imp (fun h => h) (fun ⟨d', m', h5, h6, h7⟩ => ⟨d', m', h5, h6, by omega⟩)
  rw [List.mem_singleton] at h
  exact .inr ⟨d, m, h, hdl, Nat.le_refl _⟩
 exact (hS1 _ s h).imp (fun h => h) (fun ⟨d', m', h5, h6, h7⟩ => ⟨d', m', h5, h6, by omega⟩)
end Go.Proofs.Ytifnkmflmgnfjaa
