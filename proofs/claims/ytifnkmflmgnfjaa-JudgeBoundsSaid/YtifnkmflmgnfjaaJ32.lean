/- A part of the proof: steps and lemmas for the walks through the given program. -/
import Derived.Test.YtifnkmflmgnfjaaJi
import Derived.Test.YtifnkmflmgnfjaaJa
import Derived.Test.YtifnkmflmgnfjaaJv
namespace Go.Proofs.Ytifnkmflmgnfjaa
open Go.Vc
set_option linter.unusedVariables false
set_option linter.unusedSimpArgs false
set_option maxRecDepth 100000

theorem says_b {w : World} {F G : Nat → Prop} {v u : Value} {n e : Int} {b : Bool} {os : List Int} {l : List EvV} (HSo : SlV (tInt .i64) w G u os) (HSl : SlV tEv w F v l) (hn : l.length ≤ 100000) (h : saysB n e os l = b) : CallsR Try.prog 25 #[.int .i64 n, .int .i64 e, u, v] w (fun o w' => o = .bool b ∧ Ext w w') := by
  rw [← h]; exact says_c HSo HSl hn
theorem Check_k {w : World} {F : Nat → Prop} {v : Value} {l : List EvV} {e : Int} (HSl : SlV tEv w F v l) (hn : l.length ≤ 100000) (h : (jdg l).2.1 = e) : CallsR Try.prog 23 #[v] w (fun o w' => o = .tuple #[.int .i64 (jdg l).1, .int .i64 e] ∧ Ext w w') := by
  rw [← h]; exact Check_c HSl hn
theorem reps_i3 {w : World} {F : Nat → Prop} {x y z : Int} (h1 : I64' x) (h2 : I64' y) (h3 : I64' z) : ∀ i u, [x, y, z][i]? = some u → (tInt .i64).rep w F ((([.int .i64 x, .int .i64 y, .int .i64 z] : List Value).drop (i * (tInt .i64).sz)).take (tInt .i64).sz) u := by
  intro i u hz
  match i, hz with
  | 0, hz => obtain rfl : x = u := by simpa using hz
             exact ⟨rfl, wf_of_i64 h1⟩
  | 1, hz => obtain rfl : y = u := by simpa using hz
             exact ⟨rfl, wf_of_i64 h2⟩
  | 2, hz => obtain rfl : z = u := by simpa using hz
             exact ⟨rfl, wf_of_i64 h3⟩
  | i + 3, hz => simp at hz
theorem evK_ag {w : World} {F : Nat → Prop} : AgV tEv w F (.agg #[.int .i64 3, .int .i64 1, .int .i64 1, .int .i64 0, .slice none 0 0, .slice none 0 0, .slice none 0 0, .slice none 0 0, .bool false, .int .i64 0, .int .i64 0, .slice none 0 0, .slice none 0 0]) (3, 1, 1, ak0, an0) :=
  ⟨_, rfl, tEv_mk (tAk_mk (SlV.nil _ _ _) (SlV.nil _ _ _) (SlV.nil _ _ _) (SlV.nil _ _ _) ⟨by decide, by decide⟩ ⟨by decide, by decide⟩) (tAn_mk (SlV.nil _ _ _) (SlV.nil _ _ _) ⟨by decide, by decide⟩) ⟨by decide, by decide⟩ ⟨by decide, by decide⟩ ⟨by decide, by decide⟩⟩
theorem kc1 : saysB 0 0 [0, 1, 2] bdL = false := by unfold saysB; rw [bdL_ok]; decide
theorem kc2 : saysB 0 0 [1, 0, 2] bdL = true := by unfold saysB; rw [bdL_ok]; decide
theorem kc3 : saysB 2 2 [] bdT = true := by unfold saysB; rw [bdT_ok]; decide
theorem kc4 : saysB 2 2 [] bdG = true := by unfold saysB; rw [bdG_ok]; decide
theorem kc5 : saysB 0 2 [] bdK = true := by unfold saysB; rw [bdK_ok]; decide
theorem kc6 : saysB 0 0 [] [] = true := by unfold saysB; rw [bdN_ok]; decide
theorem bdA_len (n : Nat) : (bdA n).length = 2 * n := by
  induction n with
  | zero => rfl
  | succ n ih => unfold bdA at ih ⊢; rw [List.range_succ, List.flatMap_append, List.length_append, ih]; simp; omega
theorem bdA_snoc (n : Nat) : bdA (n + 1) = bdA n ++ [evPut 1 ((n : Int) + 1) [97] [120], evTold 1 ((n : Int) + 1) 0 []] := by
  unfold bdA; rw [List.range_succ, List.flatMap_append]; simp
theorem bdO_len (n : Nat) : (bdO n).length = n := by simp [bdO]
theorem bdO_snoc (n : Nat) : bdO (n + 1) = bdO n ++ [evPut 2 ((n : Int) + 1) [97] [120]] := by
  unfold bdO; rw [List.range_succ, List.map_append]; rfl
theorem bdA_tk : (bdA 33).take 64 = bdA 32 := by rw [bdA_snoc]; exact List.take_left' (bdA_len 32)
theorem bdO_tk {n : Nat} (h : n ≤ 33) : (bdO 33).take n = bdO n := by
  unfold bdO; rw [← List.map_take, List.take_range]; congr 2; omega
set_option maxHeartbeats 4000000 in
theorem JudgeBounds_c {w : World} : CallsR Try.prog 6 #[] w (fun o w' => o = .bool true ∧ Ext w w') := by
 obtain ⟨n0, hn0⟩ : ∃ n, n = w.heap.size := ⟨_, rfl⟩
 refine enter 128 Try.func6 rfl rfl (by simp) ?_
 refine c_seq ?_
 have E := Keep.refl (K := NoK) w
 refine wp_reg zd (l_v (v_assign rfl) (l_nil (n_then (c_seq (wp_reg zd (l_v (v_assign rfl) (l_v (v_assign rfl) (l_nil (n_then ?_)))))))))
 refine c_seq (c_seq (wp_reg zd (l_v (v_assign rfl) (l_nil (n_then (c_block (c_loop (τ := Nat × Option Addr × Nat × Option Addr × Nat) [1, 2, 3, 15, 16, 17, 18, 19, 20, 21, 22, 23, 24, 25, 26, 27, 28, 29, 30, 31, 32, 33] (fun (i, a, c, a2, c2) => [(1, .slice a (2 * i) c), (2, .slice a2 i c2), (3, .int .i64 i)]) (fun (i, a, c, a2, c2) W => Ext w W ∧ Keep (fun b => n0 ≤ b) w W ∧ i ≤ 33 ∧ OwV tEv 44 W n0 (fun b => n0 ≤ b ∧ (Value.slice a (2 * i) c).ownBlock ≠ some b ∧ (Value.slice a2 i c2).ownBlock ≠ some b) (.slice a (2 * i) c) (bdA i) ∧ OwV tEv 44 W n0 (fun b => n0 ≤ b ∧ (Value.slice a (2 * i) c).ownBlock ≠ some b ∧ (Value.slice a2 i c2).ownBlock ≠ some b) (.slice a2 i c2) (bdO i) ∧ (∀ b, (Value.slice a (2 * i) c).ownBlock = some b → (Value.slice a2 i c2).ownBlock ≠ some b)) (fun (i, a, c, a2, c2) => 33 - i) (0, none, 0, none, 0) (by exact ⟨rfl, rfl, rfl, trivial⟩) (by exact ⟨E, Keep.refl _, Nat.zero_le _, OwV.nil _ _ _ _ _, OwV.nil _ _ _ _ _, (fun b h => by cases h)⟩) ?_)))))))
 rintro ⟨i, a, c, a2, c2⟩ w101 j ⟨E, EL1, h1, HOx, HOy, hxy⟩
 have := EL1.size
 have zo_HOx := fun (b : Nat) h => HOx.own_lt (b := b) h
 have zo_HOy := fun (b : Nat) h => HOy.own_lt (b := b) h
 refine c_seq (c_seq (wp_reg zd (l_v (zmI rfl) (l_v (v_lss rfl rfl) ?_))))
 refine l_nil (n_then (c_cond rfl rfl (fun hlt => ?_) (fun hlt => ?_)))
 ·
  have hlt : i < 33 := by have := dtrue hlt; omega
  have hl1 := bdA_len i
  have hl2 := bdO_len i
  obtain ⟨n7, hn7⟩ : ∃ n, n = w101.heap.size := ⟨_, rfl⟩
  obtain ⟨X, hX⟩ : ∃ X : Nat → Prop, ∀ b, X b ↔ (Value.slice a (2 * i) c).ownBlock = some b := ⟨_, fun b => Iff.rfl⟩
  obtain ⟨Y, hY⟩ : ∃ X : Nat → Prop, ∀ b, X b ↔ (Value.slice a2 i c2).ownBlock = some b := ⟨_, fun b => Iff.rfl⟩
  have zx : ∀ b, X b → b < n7 := fun b h => by have := HOx.own_lt ((hX b).1 h); omega
  have zy : ∀ b, Y b → b < n7 := fun b h => by have := HOy.own_lt ((hY b).1 h); omega
  replace hxy : ∀ b, X b → ¬ Y b := fun b h k => hxy b ((hX b).1 h) ((hY b).1 k)
  replace HOx := HOx.mono (F' := fun b => (n0 ≤ b ∧ ¬ X b ∧ ¬ Y b) ∧ b < n7) fun b hb h => ⟨⟨h.1, fun k => h.2.1 ((hX b).1 k), fun k => h.2.2 ((hY b).1 k)⟩, by omega⟩
  replace HOy := HOy.mono (F' := fun b => (n0 ≤ b ∧ ¬ X b ∧ ¬ Y b) ∧ b < n7) fun b hb h => ⟨⟨h.1, fun k => h.2.1 ((hX b).1 k), fun k => h.2.2 ((hY b).1 k)⟩, by omega⟩
  have zo_HOx := fun (b : Nat) h => HOx.own_lt (b := b) h
  have zo_HOy := fun (b : Nat) h => HOy.own_lt (b := b) h
  refine c_skip (n_then (c_seq (c_block (c_seq (wp_reg zd (l_v (zmS rfl) (l_v (zmI rfl) (l_v (v_add rfl rfl (by first | exact wr_i64 zo zo | rfl)) ?_))))))))
  refine l_to (to_f4 zk (zvI rfl) (zvI rfl) (zvG rfl) (zvG rfl) (CallsR.mono (put_c (c := 1) (n := (i : Int) + 1) (ks := [97]) (vs := [120]) ⟨by decide, by decide⟩ ⟨by omega, by omega⟩ zq zq) ?_))
  rintro _ w1 ⟨HG1, e1⟩
  have := e1.size
  obtain ⟨a1, c1, a2', c2', a3, c3, a4, c4, a5, c5, a6, c6, rfl, _⟩ := HG1.ev
  refine l_v (zmI rfl) (l_v (v_add rfl rfl (by first | exact wr_i64 zo zo | rfl)) ?_)
  refine l_to (to_f4 zk (zvI rfl) (zvI rfl) (zvI rfl) (zvS rfl) (CallsR.mono (told_c (F := NoK) (c := 1) (n := (i : Int) + 1) (e := 0) (SlV.nil _ _ _) ⟨by decide, by decide⟩ ⟨by omega, by omega⟩ ⟨by decide, by decide⟩) ?_))
  rintro _ w2 ⟨HG2, e2⟩
  have := e2.size
  obtain ⟨d1, f1, d2, f2, d3, f3, d4, f4, d5, f5, d6, f6, rfl, _⟩ := HG2.ev
  obtain ⟨n8, hn8⟩ : ∃ n, n = w2.heap.size := ⟨_, rfl⟩
  replace HG1 := HG1.ext e2
  replace HG1 := HG1.mono (F' := fun b => n7 ≤ b ∧ b < n8) fun b hb h => ⟨by omega, by omega⟩
  replace HG2 := HG2.mono (F' := fun b => n7 ≤ b ∧ b < n8) fun b hb h => h.elim
  replace HOx := (HOx.ext e1).ext e2
  replace HOx := HOx.mono (F' := fun b => ((n0 ≤ b ∧ ¬ X b ∧ ¬ Y b) ∧ b < n7) ∨ (n7 ≤ b ∧ b ≤ n8)) fun b hb h => .inl h
  have zo_HOx := fun (b : Nat) h => HOx.own_lt (b := b) h
  refine l_to (to_sliceAg (t := tEv) (xs := [evPut 1 ((i : Int) + 1) [97] [120], evTold 1 ((i : Int) + 1) 0 []]) (vs := [_, _]) (et := 44) (bytes := 200) (zl := (List.replicate 2 ([.int .i64 0, .int .i64 0, .int .i64 0, .int .i64 0, .slice none 0 0, .slice none 0 0, .slice none 0 0, .slice none 0 0, .bool false, .int .i64 0, .int .i64 0, .slice none 0 0, .slice none 0 0] : List Value)).flatten) zk zq zq (by unfold kZeros; kernel_rfl) rfl (parts2 (zvA rfl) (zvA rfl)) rfl (⟨HG1, HG2, trivial⟩) ?_)
  rintro b5 w5 zb5 HO5 e5 z5
  have := e5.size
  have zo_HO5 := fun (b : Nat) h => HO5.own_lt (b := b) h
  have hl5 : (2 * i) + 2 = 2 * (i + 1) := by omega
  replace HOx := HOx.ext e5
  refine l_to (to_append (et := 44) (bytes := 200) zk (zvS rfl) HOx (zvS rfl) HO5.view (deepF fun b hb hb2 => ⟨.inr (hb2.elim (fun h => by omega) (fun h => by omega)), fun ho => by have := zx _ ((hX _).2 ho); exact hb2.elim (fun h => by omega) (fun h => by omega)⟩) (by first | omega | (simp; done) | (simp; omega)) (by simp only [maxLen]; first | omega | (simp; done) | (simp; omega)) zo ?_)
  rintro a9 n9 c9 w9 HO9 hn9 k9 h9 i9
  have := k9.size
  rw [← bdA_snoc] at HO9
  obtain rfl : n9 = 2 * (i + 1) := by have := bdA_len (i + 1); simp only [List.length_append, List.length_cons, List.length_nil] at hn9; omega
  have zo_HO9 := fun (b : Nat) h => HO9.own_lt (b := b) h
  replace E := (((E.trans e1.keep).trans e2.keep).trans e5.keep).step k9 (by intro i hi he; have he0 := he; (try dsimp only [NoK] at hi he ⊢); (try simp only [Value.ownBlock, Option.some.injEq] at he); first | exact he.elim | omega | exact he | (have := (HOx).own_lt he0; omega) | (have := zo_HOx _ he0; omega) | (have := (HOx).own_lt he0; rcases hi with hi | hi <;> omega) | (first | (have := zx _ ((hX _).2 he0); omega) | exact hxy _ ((hX _).2 he0) ((hY _).2 ho0) | exact hi.1.2.1 ((hX _).2 he0)))
  replace EL1 := (((EL1.trans e1.keep).trans e2.keep).trans e5.keep).step k9 (by intro i hi he; have he0 := he; (try dsimp only [NoK] at hi he ⊢); (try simp only [Value.ownBlock, Option.some.injEq] at he); first | exact he.elim | omega | exact he | (have := (HOx).own_lt he0; omega) | (have := zo_HOx _ he0; omega) | (have := (HOx).own_lt he0; rcases hi with hi | hi <;> omega) | (first | (have := zx _ ((hX _).2 he0); omega) | exact hxy _ ((hX _).2 he0) ((hY _).2 ho0) | exact hi.1.2.1 ((hX _).2 he0)))
  replace HOy := (((HOy.ext e1).ext e2).ext e5).keep k9 (by intro i ho he; have he0 := he; have ho0 := ho; (try dsimp only [NoK] at he); (try simp only [Value.ownBlock, Option.some.injEq, reduceCtorEq] at ho); (try simp only [Value.ownBlock, Option.some.injEq, reduceCtorEq] at he); first | exact he.elim | exact ho.elim | omega | (have := zo_HOy _ ho0; omega) | (have := (HOx).own_lt he0; omega) | (have := zo_HOx _ he0; omega) | (first | (have := zx _ ((hX _).2 he0); omega) | exact hxy _ ((hX _).2 he0) ((hY _).2 ho0) | exact hi.1.2.1 ((hX _).2 he0)) | (have := zo_HOy _ ho0; have := (HOx).own_lt he0; omega)) (by intro i _ hi _ he; have he0 := he; have hi := hi; have he := he; (try dsimp only [NoK, AllB] at hi he); (try simp only [Value.ownBlock, Option.some.injEq, reduceCtorEq] at he); all_goals first | exact hi.elim | exact hi.1.elim | exact he.elim | omega | (rcases hi with hi | hi <;> omega) | (rcases he with he | he <;> omega) | (have := (HOx).own_lt he0; omega) | (have := zo_HOx _ he0; omega) | (have := (HOx).own_lt he0; rcases hi with hi | hi <;> omega) | (first | (have := zx _ ((hX _).2 he0); omega) | exact hxy _ ((hX _).2 he0) ((hY _).2 ho0) | exact hi.1.2.1 ((hX _).2 he0)))
  replace HO5 := HO5.keep k9 (by intro i ho he; have he0 := he; have ho0 := ho; (try dsimp only [NoK] at he); (try simp only [Value.ownBlock, Option.some.injEq, reduceCtorEq] at ho); (try simp only [Value.ownBlock, Option.some.injEq, reduceCtorEq] at he); first | exact he.elim | exact ho.elim | omega | (have := zo_HO5 _ ho0; omega) | (have := (HOx).own_lt he0; omega) | (have := zo_HOx _ he0; omega) | (first | (have := zx _ ((hX _).2 he0); omega) | exact hxy _ ((hX _).2 he0) ((hY _).2 ho0) | exact hi.1.2.1 ((hX _).2 he0)) | (have := zo_HO5 _ ho0; have := (HOx).own_lt he0; omega)) (by intro i _ hi _ he; have he0 := he; have hi := hi; have he := he; (try dsimp only [NoK, AllB] at hi he); (try simp only [Value.ownBlock, Option.some.injEq, reduceCtorEq] at he); all_goals first | exact hi.elim | exact hi.1.elim | exact he.elim | omega | (rcases hi with hi | hi <;> omega) | (rcases he with he | he <;> omega) | (have := (HOx).own_lt he0; omega) | (have := zo_HOx _ he0; omega) | (have := (HOx).own_lt he0; rcases hi with hi | hi <;> omega) | (first | (have := zx _ ((hX _).2 he0); omega) | exact hxy _ ((hX _).2 he0) ((hY _).2 ho0) | exact hi.1.2.1 ((hX _).2 he0)))
  obtain ⟨n9, hn9'⟩ : ∃ n, n = w9.heap.size := ⟨_, rfl⟩
  have zz : ∀ b, (Value.slice a9 (2 * (i + 1)) c9).ownBlock = some b → b < n9 ∧ (X b ∨ n8 < b) := fun b h => ⟨(by have := HO9.own_lt h; omega), (h9 b h).elim (fun h => .inl ((hX b).2 h)) (fun h => .inr zo)⟩
  refine l_v (zaS rfl) (l_nil (n_then (wp_reg zd (l_v (zmS rfl) (l_v (zmI rfl) (l_v (v_add rfl rfl (by first | exact wr_i64 zo zo | rfl)) ?_))))))
  refine l_to (to_f4 zk (zvI rfl) (zvI rfl) (zvG rfl) (zvG rfl) (CallsR.mono (put_c (c := 2) (n := (i : Int) + 1) (ks := [97]) (vs := [120]) ⟨by decide, by decide⟩ ⟨by omega, by omega⟩ zq zq) ?_))
  rintro _ w11 ⟨HG3, e11⟩
  have := e11.size
  obtain ⟨a11, c11, a12, c12, a13, c13, a14, c14, a15, c15, a16, c16, rfl, _⟩ := HG3.ev
  obtain ⟨n10, hn10⟩ : ∃ n, n = w11.heap.size := ⟨_, rfl⟩
  replace HG3 := HG3.mono (F' := fun b => n9 ≤ b ∧ b < n10) fun b hb h => ⟨by omega, by omega⟩
  replace HOy := HOy.ext e11
  replace HOy := HOy.mono (F' := fun b => ((n0 ≤ b ∧ ¬ X b ∧ ¬ Y b) ∧ b < n7) ∨ (n9 ≤ b ∧ b ≤ n10)) fun b hb h => .inl h
  have zo_HOy := fun (b : Nat) h => HOy.own_lt (b := b) h
  refine l_to (to_slice1 (t := tEv) (et := 44) (bytes := 200) zk zq (zvA rfl) ((AgV.rp HG3)) ?_)
  rintro b15 w15 zb15 HO15 e15 z15
  have := e15.size
  have zo_HO15 := fun (b : Nat) h => HO15.own_lt (b := b) h
  replace HOy := HOy.ext e15
  refine l_to (to_append (et := 44) (bytes := 200) zk (zvS rfl) HOy (zvS rfl) HO15.view (deepF fun b hb hb2 => ⟨.inr (hb2.elim (fun h => by omega) (fun h => by omega)), fun ho => by have := zy _ ((hY _).2 ho); exact hb2.elim (fun h => by omega) (fun h => by omega)⟩) (by first | omega | (simp; done) | (simp; omega)) (by simp only [maxLen]; first | omega | (simp; done) | (simp; omega)) zo ?_)
  rintro a19 n19 c19 w19 HO19 hn19 k19 h19 i19
  have := k19.size
  rw [← bdO_snoc] at HO19
  obtain rfl : n19 = i + 1 := by have := bdO_len (i + 1); simp only [List.length_append, List.length_cons, List.length_nil] at hn19; omega
  have zo_HO19 := fun (b : Nat) h => HO19.own_lt (b := b) h
  have hf : ∀ b, (Value.slice a19 (i + 1) c19).ownBlock = some b → Y b ∨ n10 < b := fun b h => (h19 b h).elim (fun h => .inl ((hY b).2 h)) (fun h => .inr zo)
  refine l_v (zaS rfl) (l_nil (n_blk (n_then (wp_reg zd (l_v (zmI rfl) (l_v (v_add rfl rfl (by first | exact wr_i64 zo zo | rfl)) ?_))))))
  replace HG1 := HG1.ext e5
  replace HG2 := HG2.ext e5
  replace E := ((E.trans e11.keep).trans e15.keep).step k19 (by intro i hi he; have he0 := he; (try dsimp only [NoK] at hi he ⊢); (try simp only [Value.ownBlock, Option.some.injEq] at he); first | exact he.elim | omega | exact he | (have := (HOy).own_lt he0; omega) | (have := zo_HOy _ he0; omega) | (have := (HOy).own_lt he0; rcases hi with hi | hi <;> omega) | (first | (have := zy _ ((hY _).2 he0); omega) | exact (zz _ ho0).2.elim (fun k => hxy _ k ((hY _).2 he0)) (fun k => by have := zy _ ((hY _).2 he0); omega) | exact hi.elim (fun h => h.1.2.2 ((hY _).2 he0)) (fun h => by have := zy _ ((hY _).2 he0); omega)))
  replace EL1 := ((EL1.trans e11.keep).trans e15.keep).step k19 (by intro i hi he; have he0 := he; (try dsimp only [NoK] at hi he ⊢); (try simp only [Value.ownBlock, Option.some.injEq] at he); first | exact he.elim | omega | exact he | (have := (HOy).own_lt he0; omega) | (have := zo_HOy _ he0; omega) | (have := (HOy).own_lt he0; rcases hi with hi | hi <;> omega) | (first | (have := zy _ ((hY _).2 he0); omega) | exact (zz _ ho0).2.elim (fun k => hxy _ k ((hY _).2 he0)) (fun k => by have := zy _ ((hY _).2 he0); omega) | exact hi.elim (fun h => h.1.2.2 ((hY _).2 he0)) (fun h => by have := zy _ ((hY _).2 he0); omega)))
  replace HO9 := ((HO9.ext e11).ext e15).keep k19 (by intro i ho he; have he0 := he; have ho0 := ho; (try dsimp only [NoK] at he); (try simp only [Value.ownBlock, Option.some.injEq, reduceCtorEq] at ho); (try simp only [Value.ownBlock, Option.some.injEq, reduceCtorEq] at he); first | exact he.elim | exact ho.elim | omega | (have := zo_HO9 _ ho0; omega) | (have := (HOy).own_lt he0; omega) | (have := zo_HOy _ he0; omega) | (first | (have := zy _ ((hY _).2 he0); omega) | exact (zz _ ho0).2.elim (fun k => hxy _ k ((hY _).2 he0)) (fun k => by have := zy _ ((hY _).2 he0); omega) | exact hi.elim (fun h => h.1.2.2 ((hY _).2 he0)) (fun h => by have := zy _ ((hY _).2 he0); omega)) | (have := zo_HO9 _ ho0; have := (HOy).own_lt he0; omega)) (by intro i _ hi _ he; have he0 := he; have hi := hi; have he := he; (try dsimp only [NoK, AllB] at hi he); (try simp only [Value.ownBlock, Option.some.injEq, reduceCtorEq] at he); all_goals first | exact hi.elim | exact hi.1.elim | exact he.elim | omega | (rcases hi with hi | hi <;> omega) | (rcases he with he | he <;> omega) | (have := (HOy).own_lt he0; omega) | (have := zo_HOy _ he0; omega) | (have := (HOy).own_lt he0; rcases hi with hi | hi <;> omega) | (first | (have := zy _ ((hY _).2 he0); omega) | exact (zz _ ho0).2.elim (fun k => hxy _ k ((hY _).2 he0)) (fun k => by have := zy _ ((hY _).2 he0); omega) | exact hi.elim (fun h => h.1.2.2 ((hY _).2 he0)) (fun h => by have := zy _ ((hY _).2 he0); omega)))
  replace HG3 := HG3.ext e15
  replace HO15 := HO15.keep k19 (by intro i ho he; have he0 := he; have ho0 := ho; (try dsimp only [NoK] at he); (try simp only [Value.ownBlock, Option.some.injEq, reduceCtorEq] at ho); (try simp only [Value.ownBlock, Option.some.injEq, reduceCtorEq] at he); first | exact he.elim | exact ho.elim | omega | (have := zo_HO15 _ ho0; omega) | (have := (HOy).own_lt he0; omega) | (have := zo_HOy _ he0; omega) | (first | (have := zy _ ((hY _).2 he0); omega) | exact (zz _ ho0).2.elim (fun k => hxy _ k ((hY _).2 he0)) (fun k => by have := zy _ ((hY _).2 he0); omega) | exact hi.elim (fun h => h.1.2.2 ((hY _).2 he0)) (fun h => by have := zy _ ((hY _).2 he0); omega)) | (have := zo_HO15 _ ho0; have := (HOy).own_lt he0; omega)) (by intro i _ hi _ he; have he0 := he; have hi := hi; have he := he; (try dsimp only [NoK, AllB] at hi he); (try simp only [Value.ownBlock, Option.some.injEq, reduceCtorEq] at he); all_goals first | exact hi.elim | exact hi.1.elim | exact he.elim | omega | (rcases hi with hi | hi <;> omega) | (rcases he with he | he <;> omega) | (have := (HOy).own_lt he0; omega) | (have := zo_HOy _ he0; omega) | (have := (HOy).own_lt he0; rcases hi with hi | hi <;> omega) | (first | (have := zy _ ((hY _).2 he0); omega) | exact (zz _ ho0).2.elim (fun k => hxy _ k ((hY _).2 he0)) (fun k => by have := zy _ ((hY _).2 he0); omega) | exact hi.elim (fun h => h.1.2.2 ((hY _).2 he0)) (fun h => by have := zy _ ((hY _).2 he0); omega)))
  refine l_v (zaI rfl) (l_nil (n_then (⟨(i + 1, a9, c9, a19, c19), _, rfl, by (repeat (first | exact Off.of_over _ _ _ | refine Off.upd ?_ zq _ | refine Off.overs ?_ zq _)), ⟨by first | rfl | exact congrArg (Value.int _) zo | (simp; done), by first | rfl | exact congrArg (Value.int _) zo | (simp; done), by first | rfl | exact congrArg (Value.int _) zo | (simp; done), trivial⟩, ⟨E, EL1, ?_⟩, ?_⟩)))
  ·
   refine ⟨by omega, HO9.mono fun b hb h => ⟨?_, ?_, ?_⟩, HO19.mono fun b hb h => ⟨?_, ?_, ?_⟩, fun b h1 h2 => ?_⟩
   ·
    rcases h with h | h <;> omega
   ·
    intro ho; have := zz b ho; rcases h with h | h; exact this.2.elim h.1.2.1 (fun k => by omega); exact this.2.elim (fun k => by have := zx b k; omega) (fun k => by omega)
   ·
    intro ho; rcases h with h | h; exact (hf b ho).elim h.1.2.2 (fun k => by omega); exact (hf b ho).elim (fun k => by have := zy b k; omega) (fun k => by omega)
   ·
    rcases h with h | h <;> omega
   ·
    intro ho; have := zz b ho; rcases h with h | h; exact this.2.elim h.1.2.1 (fun k => by omega); omega
   ·
    intro ho; rcases h with h | h; exact (hf b ho).elim h.1.2.2 (fun k => by omega); exact (hf b ho).elim (fun k => by have := zy b k; omega) (fun k => by omega)
   have := zz b h1; rcases hf b h2 with k | k; exact this.2.elim (fun h => hxy b h k) (fun h => by have := zy b k; omega); omega
  (dsimp only; omega)
 obtain rfl : i = 33 := by have := dfalse hlt; omega
 have hcx := HOx.cap
 have hcy := HOy.cap
 rw [bdA_len] at hcx
 rw [bdO_len] at hcy
 obtain ⟨ba, rfl, _, _⟩ := HOx.addr (fun h => by have := congrArg List.length h; rw [bdA_len] at this; simp at this)
 obtain ⟨bb, rfl, _, _⟩ := HOy.addr (fun h => by have := congrArg List.length h; rw [bdO_len] at this; simp at this)
 have HSa := HOx.view.mono (F' := AllB) fun _ _ _ => trivial
 have HSa6 : SlV tEv w101 AllB (.slice (some ⟨ba, 0, none⟩) 64 c) (bdA 32) := by have h := (HOx.pre (m := 64) (by rw [bdA_len]; omega)).view; rw [bdA_tk] at h; exact h.mono fun _ _ _ => trivial
 have HSb6 : SlV tEv w101 AllB (.slice (some ⟨bb, 0, none⟩) 6 c2) (bdO 6) := by have h := (HOy.pre (m := 6) (by rw [bdO_len]; omega)).view; rw [bdO_tk zo] at h; exact h.mono fun _ _ _ => trivial
 have HSb7 : SlV tEv w101 AllB (.slice (some ⟨bb, 0, none⟩) 7 c2) (bdO 7) := by have h := (HOy.pre (m := 7) (by rw [bdO_len]; omega)).view; rw [bdO_tk zo] at h; exact h.mono fun _ _ _ => trivial
 refine c_exit (x_then (x_then (x_hit (n_then (c_seq (wp_reg zd (l_v (zmS rfl) (l_v (v_slicePre (et := 44) (sz := 13) (h := 64) zk zk rfl rfl (by first | rfl | omega) zo) ?_))))))))
 refine l_to (to_f1 zk (zvS rfl) (CallsR.mono (Check_k HSa6 (by rw [bdA_len]; omega) bdA32) ?_))
 rintro _ w102 ⟨rfl, e102⟩
 have := e102.size
 refine l_v (zmT rfl) (l_v (v_extract (t := .int _ _) rfl rfl) (l_v (v_extract (t := .int _ _) rfl rfl) (l_v (zaI rfl) (l_v (zaI rfl) (l_nil (n_then (c_seq (wp_reg zd (l_v (zmS rfl) ?_)))))))))
 replace HSa := HSa.ext e102
 refine l_to (to_f1 zk (zvS rfl) (CallsR.mono (Check_k HSa (by rw [bdA_len]; omega) bdA33) ?_))
 rintro _ w103 ⟨rfl, e103⟩
 have := e103.size
 refine l_v (zmT rfl) (l_v (v_extract (t := .int _ _) rfl rfl) (l_v (v_extract (t := .int _ _) rfl rfl) (l_v (zaI rfl) (l_v (zaI rfl) (l_nil (n_then (c_seq (wp_reg zd (l_v (zmS rfl) ?_)))))))))
 refine l_v (v_slicePre (et := 44) (sz := 13) (h := 6) zk zk rfl rfl (by first | rfl | omega) zo) ?_
 replace HSb6 := (HSb6.ext e102).ext e103
 refine l_to (to_f1 zk (zvS rfl) (CallsR.mono (Check_k HSb6 (by rw [bdO_len]; omega) bdO6) ?_))
 rintro _ w104 ⟨rfl, e104⟩
 have := e104.size
 refine l_v (zmT rfl) (l_v (v_extract (t := .int _ _) rfl rfl) (l_v (v_extract (t := .int _ _) rfl rfl) (l_v (zaI rfl) (l_v (zaI rfl) (l_nil (n_then (c_seq (wp_reg zd (l_v (zmS rfl) ?_)))))))))
 refine l_v (v_slicePre (et := 44) (sz := 13) (h := 7) zk zk rfl rfl (by first | rfl | omega) zo) ?_
 replace HSb7 := ((HSb7.ext e102).ext e103).ext e104
 refine l_to (to_f1 zk (zvS rfl) (CallsR.mono (Check_k HSb7 (by rw [bdO_len]; omega) bdO7) ?_))
 rintro _ w105 ⟨rfl, e105⟩
 have := e105.size
 refine l_v (zmT rfl) (l_v (v_extract (t := .int _ _) rfl rfl) (l_v (v_extract (t := .int _ _) rfl rfl) (l_v (zaI rfl) (l_v (zaI rfl) (l_nil (n_then (c_seq (wp_reg zd (l_to (to_f4 zk (zvI rfl) (zvI rfl) (zvG rfl) (zvG rfl) (CallsR.mono (put_c (c := 1) (n := 1) (ks := [97]) (vs := [120]) ⟨by decide, by decide⟩ ⟨by decide, by decide⟩ zq zq) ?_)))))))))))
 rintro _ w1 ⟨HG1, e1⟩
 have := e1.size
 obtain ⟨a1, c1, a3, c3, a4, c4, a5, c5, a6, c6, a7, c7, rfl, _⟩ := HG1.ev
 replace HG1 := HG1.mono (F' := fun b => b < w1.heap.size) fun b hb h => hb
 refine l_to (to_f2 zk (zvG rfl) (zvG rfl) (CallsR.mono (pair_c (ks := [97]) (vs := [120]) zq zq) ?_))
 rintro _ w2 ⟨HG2, e2⟩
 have := e2.size
 obtain ⟨cs2, rfl, hr2⟩ := id HG2
 obtain ⟨f1, g1, f2, g2, rfl, _⟩ := tPr_cells hr2
 replace HG2 := HG2.mono (F' := fun b => b < w2.heap.size) fun b hb h => hb
 refine l_to (to_alloc (z := (.agg #[.int .i64 0, .int .i64 0, .int .i64 0, .int .i64 0, .slice none 0 0, .slice none 0 0, .slice none 0 0, .slice none 0 0, .bool false, .int .i64 0, .int .i64 0, .slice none 0 0, .slice none 0 0])) (by unfold kZero; kernel_rfl) ?_)
 rintro b3 w3 zb3 HB3 e3 z3
 have := e3.size
 try simp only [Value.cells] at HB3
 refine l_to (to_alloc (z := (.agg #[.slice none 0 0, .slice none 0 0])) (by unfold kZero; kernel_rfl) ?_)
 rintro b4 w4 zb4 HB4 e4 z4
 have := e4.size
 try simp only [Value.cells] at HB4
 replace HB3 := HB3.ext e4
 refine l_to (to_storeA (n := 13) rfl rfl (zvA rfl) zk rfl dj6 HB3 dj5 ?_)
 rintro w106 HX106 k106 z106
 have := k106.size
 replace HB3 := HX106
 clear HX106
 try simp only [zS, Nat.zero_add, Nat.reduceAdd, List.drop_nil] at HB3
 replace HB4 := HB4.keep k106 (by intro h; have he0 := h; (try dsimp only at h); (try simp only [Value.ownBlock, Option.some.injEq] at h); first | omega | (have he := he0; first | (have := zy _ ((hY _).2 he0); omega) | exact (zz _ ho0).2.elim (fun k => hxy _ k ((hY _).2 he0)) (fun k => by have := zy _ ((hY _).2 he0); omega) | exact hi.elim (fun h => h.1.2.2 ((hY _).2 he0)) (fun h => by have := zy _ ((hY _).2 he0); omega)))
 refine l_to (to_storeA (n := 2) rfl rfl (zvA rfl) zk rfl dj6 HB4 dj5 ?_)
 rintro w107 HX107 k107 z107
 have := k107.size
 replace HB4 := HX107
 clear HX107
 try simp only [zS, Nat.zero_add, Nat.reduceAdd, List.drop_nil] at HB4
 refine l_nil (n_then (c_seq (wp_regd (NoK) zk zd zd ?_)))
 refine rt_to (fun v W => SlV (tInt .i64) W AllB v [0, 1, 2]) (fun v w w' h k => h.ext k) (fun vals w hR hd => to_sliceN (t := tInt .i64) (xs := [0, 1, 2]) (et := 3) (bytes := 8) (zl := [.int .i64 0, .int .i64 0, .int .i64 0]) (cells := [.int .i64 0, .int .i64 1, .int .i64 2]) zk zq zq (by unfold kZeros; kernel_rfl) rfl rfl rfl rfl (reps_i3 (F := NoK) ⟨by decide, by decide⟩ ⟨by decide, by decide⟩ ⟨by decide, by decide⟩) (fun b w1 hb HO e z => ⟨e, HO.view.allB⟩)) ?_
 replace HB3 := HB3.keep k107 (by intro h; have he0 := h; (try dsimp only at h); (try simp only [Value.ownBlock, Option.some.injEq] at h); first | omega | (have he := he0; first | (have := zy _ ((hY _).2 he0); omega) | exact (zz _ ho0).2.elim (fun k => hxy _ k ((hY _).2 he0)) (fun k => by have := zy _ ((hY _).2 he0); omega) | exact hi.elim (fun h => h.1.2.2 ((hY _).2 he0)) (fun h => by have := zy _ ((hY _).2 he0); omega)))
 refine rt_v (fun vals w hR hd => v_loadA zk rfl (by first | exact (HB4.ext hR).pv | exact (HB3.ext hR).pv | assumption) rfl) ?_
 refine rt_to (fun v W => AgV tEv W AllB v (evGet 1 2 [97])) (fun v w w' h k => h.ext k) (fun vals w hR hd => to_f3 zk rfl rfl rfl (CallsR.mono (get_c (c := 1) (n := 2) (ks := [97]) ⟨by decide, by decide⟩ ⟨by decide, by decide⟩ zq) fun v w1 h => ⟨h.2, AgV.allB h.1⟩)) ?_
 refine rt_to (fun v W => AgV tEv W AllB v (evTold 1 2 6 [])) (fun v w w' h k => h.ext k) (fun vals w hR hd => to_f4 zk rfl rfl rfl rfl (CallsR.mono (told_c (c := 1) (n := 2) (e := 6) (SlV.nil _ _ AllB) ⟨by decide, by decide⟩ ⟨by decide, by decide⟩ ⟨by decide, by decide⟩) fun v w1 h => ⟨h.2, h.1⟩)) ?_
 refine rt_to (fun v W => AgV tEv W AllB v (evGet 2 1 [97])) (fun v w w' h k => h.ext k) (fun vals w hR hd => to_f3 zk rfl rfl rfl (CallsR.mono (get_c (c := 2) (n := 1) (ks := [97]) ⟨by decide, by decide⟩ ⟨by decide, by decide⟩ zq) fun v w1 h => ⟨h.2, AgV.allB h.1⟩)) ?_
 refine rt_v (fun vals w hR hd => v_loadA zk rfl (by first | exact (HB4.ext hR).pv | exact (HB3.ext hR).pv | assumption) rfl) ?_
 replace HG2 := (((HG2.ext e3).ext e4).keep k106 (by intro i _ hi he; have he0 := he; (try dsimp only [NoK, AllB] at hi he); (try simp only [Value.ownBlock, Option.some.injEq] at he); first | exact hi.elim | exact he.elim | omega | (rcases hi with hi | hi <;> omega) | (rcases he with he | he <;> omega) | (first | (have := zy _ ((hY _).2 he0); omega) | exact (zz _ ho0).2.elim (fun k => hxy _ k ((hY _).2 he0)) (fun k => by have := zy _ ((hY _).2 he0); omega) | exact hi.elim (fun h => h.1.2.2 ((hY _).2 he0)) (fun h => by have := zy _ ((hY _).2 he0); omega)))).keep k107 (by intro i _ hi he; have he0 := he; (try dsimp only [NoK, AllB] at hi he); (try simp only [Value.ownBlock, Option.some.injEq] at he); first | exact hi.elim | exact he.elim | omega | (rcases hi with hi | hi <;> omega) | (rcases he with he | he <;> omega) | (first | (have := zy _ ((hY _).2 he0); omega) | exact (zz _ ho0).2.elim (fun k => hxy _ k ((hY _).2 he0)) (fun k => by have := zy _ ((hY _).2 he0); omega) | exact hi.elim (fun h => h.1.2.2 ((hY _).2 he0)) (fun h => by have := zy _ ((hY _).2 he0); omega)))
 refine rt_to (fun v W => SlV tPr W AllB v [prA]) (fun v w w' h k => h.ext k) (fun vals w hR hd => to_slice1 (t := tPr) (et := 50) (bytes := 48) zk zq (hd 5 rfl) (AgV.rp (HG2.ext hR)) (fun b w1 hb HO e z => ⟨e, HO.view.allB⟩)) ?_
 refine rt_to (fun v W => AgV tEv W AllB v (evTold 2 1 0 [prA])) (fun v w w' h k => h.ext k) (fun vals w hR hd => to_f4 zk rfl rfl rfl (show _ = vals 6 from rfl) (CallsR.mono (told_c (c := 2) (n := 1) (e := 0) (show SlV tPr _ AllB _ [prA] from hd 6 rfl) ⟨by decide, by decide⟩ ⟨by decide, by decide⟩ ⟨by decide, by decide⟩) fun v w1 h => ⟨h.2, h.1⟩)) ?_
 replace HG1 := ((((HG1.ext e2).ext e3).ext e4).keep k106 (by intro i _ hi he; have he0 := he; (try dsimp only [NoK, AllB] at hi he); (try simp only [Value.ownBlock, Option.some.injEq] at he); first | exact hi.elim | exact he.elim | omega | (rcases hi with hi | hi <;> omega) | (rcases he with he | he <;> omega) | (first | (have := zy _ ((hY _).2 he0); omega) | exact (zz _ ho0).2.elim (fun k => hxy _ k ((hY _).2 he0)) (fun k => by have := zy _ ((hY _).2 he0); omega) | exact hi.elim (fun h => h.1.2.2 ((hY _).2 he0)) (fun h => by have := zy _ ((hY _).2 he0); omega)))).keep k107 (by intro i _ hi he; have he0 := he; (try dsimp only [NoK, AllB] at hi he); (try simp only [Value.ownBlock, Option.some.injEq] at he); first | exact hi.elim | exact he.elim | omega | (rcases hi with hi | hi <;> omega) | (rcases he with he | he <;> omega) | (first | (have := zy _ ((hY _).2 he0); omega) | exact (zz _ ho0).2.elim (fun k => hxy _ k ((hY _).2 he0)) (fun k => by have := zy _ ((hY _).2 he0); omega) | exact hi.elim (fun h => h.1.2.2 ((hY _).2 he0)) (fun h => by have := zy _ ((hY _).2 he0); omega)))
 refine rt_to (fun v W => SlV tEv W AllB v bdL) (fun v w w' h k => h.ext k) (fun vals w hR hd => to_sliceAg (t := tEv) (xs := bdL) (vs := [_, vals 2, vals 3, vals 4, vals 7]) (et := 44) (bytes := 200) (zl := (List.replicate 5 ([.int .i64 0, .int .i64 0, .int .i64 0, .int .i64 0, .slice none 0 0, .slice none 0 0, .slice none 0 0, .slice none 0 0, .bool false, .int .i64 0, .int .i64 0, .slice none 0 0, .slice none 0 0] : List Value)).flatten) zk zq zq (by unfold kZeros; kernel_rfl) rfl (parts5 (hd 1 rfl) (show _ = vals 2 from rfl) (show _ = vals 3 from rfl) (show _ = vals 4 from rfl) (show _ = vals 7 from rfl)) rfl ⟨AgV.allB (HG1.ext hR), (show AgV tEv _ AllB _ (evGet 1 2 [97]) from hd 2 rfl), (show AgV tEv _ AllB _ (evTold 1 2 6 []) from hd 3 rfl), (show AgV tEv _ AllB _ (evGet 2 1 [97]) from hd 4 rfl), (show AgV tEv _ AllB _ (evTold 2 1 0 [prA]) from hd 7 rfl), trivial⟩ (fun b w1 hb HO e z => ⟨e, HO.view.allB⟩)) ?_
 refine rt_to (fun v w => v = (.bool false)) (fun v w w' h k => h) (fun vals w hR hd => to_f4 zk rfl rfl (show _ = vals 0 from rfl) (show _ = vals 8 from rfl) (CallsR.mono (says_b (l := bdL) (show SlV (tInt .i64) _ AllB _ [0, 1, 2] from hd 0 rfl) (show SlV tEv _ AllB _ bdL from hd 8 rfl) zq kc1) fun v w1 h => ⟨h.2, h.1⟩)) ?_
 refine rt_v (fun vals w hR hd => v_assign (t := .bool _) (hd 9 rfl)) ?_
 refine rt_nil (fun w108 e108 => ?_)
 replace E := (((((((((E.trans e102.keep).trans e103.keep).trans e104.keep).trans e105.keep).trans e1.keep).trans e2.keep).trans e3.keep).trans e4.keep).step k106 (by intro i hi he; have he0 := he; (try dsimp only [NoK] at hi he ⊢); (try simp only [Value.ownBlock, Option.some.injEq] at he); first | exact he.elim | omega | exact he | (first | (have := zy _ ((hY _).2 he0); omega) | exact (zz _ ho0).2.elim (fun k => hxy _ k ((hY _).2 he0)) (fun k => by have := zy _ ((hY _).2 he0); omega) | exact hi.elim (fun h => h.1.2.2 ((hY _).2 he0)) (fun h => by have := zy _ ((hY _).2 he0); omega)))).step k107 (by intro i hi he; have he0 := he; (try dsimp only [NoK] at hi he ⊢); (try simp only [Value.ownBlock, Option.some.injEq] at he); first | exact he.elim | omega | exact he | (first | (have := zy _ ((hY _).2 he0); omega) | exact (zz _ ho0).2.elim (fun k => hxy _ k ((hY _).2 he0)) (fun k => by have := zy _ ((hY _).2 he0); omega) | exact hi.elim (fun h => h.1.2.2 ((hY _).2 he0)) (fun h => by have := zy _ ((hY _).2 he0); omega)))
 rintro _ _ _ rfl _ _ _ _ _ _ _ rfl _ _ _ _ _ _ _ rfl _ rfl
 have := e108.size
 refine fin_nil (n_then (c_seq (wp_regd (NoK) zk zd zd ?_)))
 refine rt_v (fun vals w hR hd => zmI rfl) ?_
 refine rt_vf (fun vals w hR hd => to_f1 zk (hd 0 rfl) (num_c)) ?_
 refine rt_v (fun vals w hR hd => OpVat.as (b := true) (v_eql (hd 1 rfl) rfl) (by first | rfl | (simp; done) | (simp; omega))) ?_
 refine rt_v (fun vals w hR hd => v_move (t := .bool _) (hd 2 rfl)) ?_
 refine rt_hv rfl (fun vals w hd => hd 3 rfl) (fun vals w hR hd => zmI rfl) ?_
 refine rt_hvf rfl (fun vals w hd => hd 3 rfl) (fun vals w hR hd => to_f1 zk (hd 4 rfl) (num_c)) ?_
 refine rt_hv rfl (fun vals w hd => hd 3 rfl) (fun vals w hR hd => OpVat.as (b := true) (v_eql (hd 5 rfl) rfl) (by first | rfl | (simp; done) | (simp; omega))) ?_
 refine rt_v (fun vals w hR hd => v_andT (hd 3 rfl) (hd 6 rfl)) ?_
 refine rt_v (fun vals w hR hd => v_move (t := .bool _) (hd 7 rfl)) ?_
 refine rt_hv rfl (fun vals w hd => hd 8 rfl) (fun vals w hR hd => zmI rfl) ?_
 refine rt_hvf rfl (fun vals w hd => hd 8 rfl) (fun vals w hR hd => to_f1 zk (hd 9 rfl) (num_c)) ?_
 refine rt_hv rfl (fun vals w hd => hd 8 rfl) (fun vals w hR hd => OpVat.as (b := true) (v_eql (hd 10 rfl) rfl) (by first | rfl | (simp; done) | (simp; omega))) ?_
 refine rt_v (fun vals w hR hd => v_andT (hd 8 rfl) (hd 11 rfl)) ?_
 refine rt_v (fun vals w hR hd => v_move (t := .bool _) (hd 12 rfl)) ?_
 refine rt_hv rfl (fun vals w hd => hd 13 rfl) (fun vals w hR hd => zmI rfl) ?_
 refine rt_hvf rfl (fun vals w hd => hd 13 rfl) (fun vals w hR hd => to_f1 zk (hd 14 rfl) (num_c)) ?_
 refine rt_hv rfl (fun vals w hd => hd 13 rfl) (fun vals w hR hd => OpVat.as (b := true) (v_eql (hd 15 rfl) rfl) (by first | rfl | (simp; done) | (simp; omega))) ?_
 refine rt_v (fun vals w hR hd => v_andT (hd 13 rfl) (hd 16 rfl)) ?_
 refine rt_v (fun vals w hR hd => v_move (t := .bool _) (hd 17 rfl)) ?_
 refine rt_hv rfl (fun vals w hd => hd 18 rfl) (fun vals w hR hd => zmB rfl) ?_
 refine rt_hv rfl (fun vals w hd => hd 18 rfl) (fun vals w hR hd => v_not (hd 19 rfl)) ?_
 refine rt_v (fun vals w hR hd => v_andT (hd 18 rfl) (hd 20 rfl)) ?_
 refine rt_v (fun vals w hR hd => v_move (t := .bool _) (hd 21 rfl)) ?_
 refine rt_hto (fun v W => SlV (tInt .i64) W AllB v [1, 0, 2]) (fun v w w' h k => h.ext k) rfl (fun vals w hd => hd 22 rfl) (fun vals w hR hd => to_sliceN (t := tInt .i64) (xs := [1, 0, 2]) (et := 3) (bytes := 8) (zl := [.int .i64 0, .int .i64 0, .int .i64 0]) (cells := [.int .i64 1, .int .i64 0, .int .i64 2]) zk zq zq (by unfold kZeros; kernel_rfl) rfl rfl rfl rfl (reps_i3 (F := NoK) ⟨by decide, by decide⟩ ⟨by decide, by decide⟩ ⟨by decide, by decide⟩) (fun b w1 hb HO e z => ⟨e, HO.view.allB⟩)) ?_
 replace HB3 := HB3.ext e108
 replace HB4 := HB4.ext e108
 refine rt_hv rfl (fun vals w hd => hd 22 rfl) (fun vals w hR hd => v_loadA zk rfl (by first | exact (HB4.ext hR).pv | exact (HB3.ext hR).pv | assumption) rfl) ?_
 refine rt_hto (fun v W => AgV tEv W AllB v (evGet 1 2 [97])) (fun v w w' h k => h.ext k) rfl (fun vals w hd => hd 22 rfl) (fun vals w hR hd => to_f3 zk rfl rfl rfl (CallsR.mono (get_c (c := 1) (n := 2) (ks := [97]) ⟨by decide, by decide⟩ ⟨by decide, by decide⟩ zq) fun v w1 h => ⟨h.2, AgV.allB h.1⟩)) ?_
 refine rt_hto (fun v W => AgV tEv W AllB v (evTold 1 2 6 [])) (fun v w w' h k => h.ext k) rfl (fun vals w hd => hd 22 rfl) (fun vals w hR hd => to_f4 zk rfl rfl rfl rfl (CallsR.mono (told_c (c := 1) (n := 2) (e := 6) (SlV.nil _ _ AllB) ⟨by decide, by decide⟩ ⟨by decide, by decide⟩ ⟨by decide, by decide⟩) fun v w1 h => ⟨h.2, h.1⟩)) ?_
 refine rt_hto (fun v W => AgV tEv W AllB v (evGet 2 1 [97])) (fun v w w' h k => h.ext k) rfl (fun vals w hd => hd 22 rfl) (fun vals w hR hd => to_f3 zk rfl rfl rfl (CallsR.mono (get_c (c := 2) (n := 1) (ks := [97]) ⟨by decide, by decide⟩ ⟨by decide, by decide⟩ zq) fun v w1 h => ⟨h.2, AgV.allB h.1⟩)) ?_
 refine rt_hv rfl (fun vals w hd => hd 22 rfl) (fun vals w hR hd => v_loadA zk rfl (by first | exact (HB4.ext hR).pv | exact (HB3.ext hR).pv | assumption) rfl) ?_
 replace HG2 := HG2.ext e108
 refine rt_hto (fun v W => SlV tPr W AllB v [prA]) (fun v w w' h k => h.ext k) rfl (fun vals w hd => hd 22 rfl) (fun vals w hR hd => to_slice1 (t := tPr) (et := 50) (bytes := 48) zk zq (hd 28 rfl) (AgV.rp (HG2.ext hR)) (fun b w1 hb HO e z => ⟨e, HO.view.allB⟩)) ?_
 refine rt_hto (fun v W => AgV tEv W AllB v (evTold 2 1 0 [prA])) (fun v w w' h k => h.ext k) rfl (fun vals w hd => hd 22 rfl) (fun vals w hR hd => to_f4 zk rfl rfl rfl (show _ = vals 29 from rfl) (CallsR.mono (told_c (c := 2) (n := 1) (e := 0) (show SlV tPr _ AllB _ [prA] from hd 29 rfl) ⟨by decide, by decide⟩ ⟨by decide, by decide⟩ ⟨by decide, by decide⟩) fun v w1 h => ⟨h.2, h.1⟩)) ?_
 replace HG1 := HG1.ext e108
 refine rt_hto (fun v W => SlV tEv W AllB v bdL) (fun v w w' h k => h.ext k) rfl (fun vals w hd => hd 22 rfl) (fun vals w hR hd => to_sliceAg (t := tEv) (xs := bdL) (vs := [_, vals 25, vals 26, vals 27, vals 30]) (et := 44) (bytes := 200) (zl := (List.replicate 5 ([.int .i64 0, .int .i64 0, .int .i64 0, .int .i64 0, .slice none 0 0, .slice none 0 0, .slice none 0 0, .slice none 0 0, .bool false, .int .i64 0, .int .i64 0, .slice none 0 0, .slice none 0 0] : List Value)).flatten) zk zq zq (by unfold kZeros; kernel_rfl) rfl (parts5 (hd 24 rfl) (show _ = vals 25 from rfl) (show _ = vals 26 from rfl) (show _ = vals 27 from rfl) (show _ = vals 30 from rfl)) rfl ⟨AgV.allB (HG1.ext hR), (show AgV tEv _ AllB _ (evGet 1 2 [97]) from hd 25 rfl), (show AgV tEv _ AllB _ (evTold 1 2 6 []) from hd 26 rfl), (show AgV tEv _ AllB _ (evGet 2 1 [97]) from hd 27 rfl), (show AgV tEv _ AllB _ (evTold 2 1 0 [prA]) from hd 30 rfl), trivial⟩ (fun b w1 hb HO e z => ⟨e, HO.view.allB⟩)) ?_
 refine rt_hto (fun v w => v = (.bool true)) (fun v w w' h k => h) rfl (fun vals w hd => hd 22 rfl) (fun vals w hR hd => to_f4 zk rfl rfl (show _ = vals 23 from rfl) (show _ = vals 31 from rfl) (CallsR.mono (says_b (l := bdL) (show SlV (tInt .i64) _ AllB _ [1, 0, 2] from hd 23 rfl) (show SlV tEv _ AllB _ bdL from hd 31 rfl) zq kc2) fun v w1 h => ⟨h.2, h.1⟩)) ?_
 refine rt_v (fun vals w hR hd => v_andT (hd 22 rfl) (hd 32 rfl)) ?_
 refine rt_v (fun vals w hR hd => v_move (t := .bool _) (hd 33 rfl)) ?_
 refine rt_hv rfl (fun vals w hd => hd 34 rfl) (fun vals w hR hd => v_loadA zk rfl (by first | exact (HB4.ext hR).pv | exact (HB3.ext hR).pv | assumption) rfl) ?_
 refine rt_hto (fun v W => AgV tEv W AllB v (evTold 1 1 0 [])) (fun v w w' h k => h.ext k) rfl (fun vals w hd => hd 34 rfl) (fun vals w hR hd => to_f4 zk rfl rfl rfl rfl (CallsR.mono (told_c (c := 1) (n := 1) (e := 0) (SlV.nil _ _ AllB) ⟨by decide, by decide⟩ ⟨by decide, by decide⟩ ⟨by decide, by decide⟩) fun v w1 h => ⟨h.2, h.1⟩)) ?_
 refine rt_hto (fun v W => AgV tEv W AllB v (evTold 1 1 0 [])) (fun v w w' h k => h.ext k) rfl (fun vals w hd => hd 34 rfl) (fun vals w hR hd => to_f4 zk rfl rfl rfl rfl (CallsR.mono (told_c (c := 1) (n := 1) (e := 0) (SlV.nil _ _ AllB) ⟨by decide, by decide⟩ ⟨by decide, by decide⟩ ⟨by decide, by decide⟩) fun v w1 h => ⟨h.2, h.1⟩)) ?_
 refine rt_hto (fun v W => SlV tEv W AllB v bdT) (fun v w w' h k => h.ext k) rfl (fun vals w hd => hd 34 rfl) (fun vals w hR hd => to_sliceAg (t := tEv) (xs := bdT) (vs := [_, vals 36, vals 37]) (et := 44) (bytes := 200) (zl := (List.replicate 3 ([.int .i64 0, .int .i64 0, .int .i64 0, .int .i64 0, .slice none 0 0, .slice none 0 0, .slice none 0 0, .slice none 0 0, .bool false, .int .i64 0, .int .i64 0, .slice none 0 0, .slice none 0 0] : List Value)).flatten) zk zq zq (by unfold kZeros; kernel_rfl) rfl (parts3 (hd 35 rfl) (show _ = vals 36 from rfl) (show _ = vals 37 from rfl)) rfl ⟨AgV.allB (HG1.ext hR), (show AgV tEv _ AllB _ (evTold 1 1 0 []) from hd 36 rfl), (show AgV tEv _ AllB _ (evTold 1 1 0 []) from hd 37 rfl), trivial⟩ (fun b w1 hb HO e z => ⟨e, HO.view.allB⟩)) ?_
 refine rt_hto (fun v w => v = (.bool true)) (fun v w w' h k => h) rfl (fun vals w hd => hd 34 rfl) (fun vals w hR hd => to_f4 zk rfl rfl rfl (show _ = vals 38 from rfl) (CallsR.mono (says_b (l := bdT) nil_i (show SlV tEv _ AllB _ bdT from hd 38 rfl) zq kc3) fun v w1 h => ⟨h.2, h.1⟩)) ?_
 refine rt_v (fun vals w hR hd => v_andT (hd 34 rfl) (hd 39 rfl)) ?_
 refine rt_v (fun vals w hR hd => v_move (t := .bool _) (hd 40 rfl)) ?_
 refine rt_hv rfl (fun vals w hd => hd 41 rfl) (fun vals w hR hd => v_loadA zk rfl (by first | exact (HB4.ext hR).pv | exact (HB3.ext hR).pv | assumption) rfl) ?_
 refine rt_hto (fun v W => AgV tEv W AllB v (evGet 1 2 [97])) (fun v w w' h k => h.ext k) rfl (fun vals w hd => hd 41 rfl) (fun vals w hR hd => to_f3 zk rfl rfl rfl (CallsR.mono (get_c (c := 1) (n := 2) (ks := [97]) ⟨by decide, by decide⟩ ⟨by decide, by decide⟩ zq) fun v w1 h => ⟨h.2, AgV.allB h.1⟩)) ?_
 refine rt_hto (fun v W => AgV tEv W AllB v (evTold 1 1 0 [])) (fun v w w' h k => h.ext k) rfl (fun vals w hd => hd 41 rfl) (fun vals w hR hd => to_f4 zk rfl rfl rfl rfl (CallsR.mono (told_c (c := 1) (n := 1) (e := 0) (SlV.nil _ _ AllB) ⟨by decide, by decide⟩ ⟨by decide, by decide⟩ ⟨by decide, by decide⟩) fun v w1 h => ⟨h.2, h.1⟩)) ?_
 refine rt_hto (fun v W => SlV tEv W AllB v bdG) (fun v w w' h k => h.ext k) rfl (fun vals w hd => hd 41 rfl) (fun vals w hR hd => to_sliceAg (t := tEv) (xs := bdG) (vs := [_, vals 43, vals 44]) (et := 44) (bytes := 200) (zl := (List.replicate 3 ([.int .i64 0, .int .i64 0, .int .i64 0, .int .i64 0, .slice none 0 0, .slice none 0 0, .slice none 0 0, .slice none 0 0, .bool false, .int .i64 0, .int .i64 0, .slice none 0 0, .slice none 0 0] : List Value)).flatten) zk zq zq (by unfold kZeros; kernel_rfl) rfl (parts3 (hd 42 rfl) (show _ = vals 43 from rfl) (show _ = vals 44 from rfl)) rfl ⟨AgV.allB (HG1.ext hR), (show AgV tEv _ AllB _ (evGet 1 2 [97]) from hd 43 rfl), (show AgV tEv _ AllB _ (evTold 1 1 0 []) from hd 44 rfl), trivial⟩ (fun b w1 hb HO e z => ⟨e, HO.view.allB⟩)) ?_
 refine rt_hto (fun v w => v = (.bool true)) (fun v w w' h k => h) rfl (fun vals w hd => hd 41 rfl) (fun vals w hR hd => to_f4 zk rfl rfl rfl (show _ = vals 45 from rfl) (CallsR.mono (says_b (l := bdG) nil_i (show SlV tEv _ AllB _ bdG from hd 45 rfl) zq kc4) fun v w1 h => ⟨h.2, h.1⟩)) ?_
 refine rt_v (fun vals w hR hd => v_andT (hd 41 rfl) (hd 46 rfl)) ?_
 refine rt_v (fun vals w hR hd => v_move (t := .bool _) (hd 47 rfl)) ?_
 refine rt_hv rfl (fun vals w hd => hd 48 rfl) (fun vals w hR hd => v_build (pl := [(0, 1), (1, 1), (2, 1), (3, 7), (10, 3)]) (z := .agg #[.int .i64 0, .int .i64 0, .int .i64 0, .int .i64 0, .slice none 0 0, .slice none 0 0, .slice none 0 0, .slice none 0 0, .bool false, .int .i64 0, .int .i64 0, .slice none 0 0, .slice none 0 0]) (zl := [.int .i64 0, .int .i64 0, .int .i64 0, .int .i64 0, .slice none 0 0, .slice none 0 0, .slice none 0 0, .slice none 0 0, .bool false, .int .i64 0, .int .i64 0, .slice none 0 0, .slice none 0 0]) zk (by unfold kZero; kernel_rfl) rfl rfl (cells := [_, _, _, _, _, _, _, _, _, _, _, _, _]) rfl) ?_
 refine rt_hto (fun v W => SlV tEv W AllB v bdK) (fun v w w' h k => h.ext k) rfl (fun vals w hd => hd 48 rfl) (fun vals w hR hd => to_slice1 (t := tEv) (et := 44) (bytes := 200) zk zq (hd 49 rfl) (AgV.rp (show AgV tEv _ AllB (.agg #[.int .i64 3, .int .i64 1, .int .i64 1, .int .i64 0, .slice none 0 0, .slice none 0 0, .slice none 0 0, .slice none 0 0, .bool false, .int .i64 0, .int .i64 0, .slice none 0 0, .slice none 0 0]) (3, 1, 1, ak0, an0) from evK_ag)) (fun b w1 hb HO e z => ⟨e, HO.view.allB⟩)) ?_
 refine rt_hto (fun v w => v = (.bool true)) (fun v w w' h k => h) rfl (fun vals w hd => hd 48 rfl) (fun vals w hR hd => to_f4 zk rfl rfl rfl (show _ = vals 50 from rfl) (CallsR.mono (says_b (l := bdK) nil_i (show SlV tEv _ AllB _ bdK from hd 50 rfl) zq kc5) fun v w1 h => ⟨h.2, h.1⟩)) ?_
 refine rt_v (fun vals w hR hd => v_andT (hd 48 rfl) (hd 51 rfl)) ?_
 refine rt_v (fun vals w hR hd => v_move (t := .bool _) (hd 52 rfl)) ?_
 refine rt_hto (fun v w => v = (.bool true)) (fun v w w' h k => h) rfl (fun vals w hd => hd 53 rfl) (fun vals w hR hd => to_f4 zk rfl rfl rfl rfl (CallsR.mono (says_b (l := ([] : List EvV)) nil_i (SlV.nil _ _ AllB) zq kc6) fun v w1 h => ⟨h.2, h.1⟩)) ?_
 refine rt_v (fun vals w hR hd => v_andT (hd 53 rfl) (hd 54 rfl)) ?_
 refine rt_v (fun vals w hR hd => v_move (t := .bool _) (hd 55 rfl)) ?_
 refine rt_hvf rfl (fun vals w hd => hd 56 rfl) (fun vals w hR hd => to_f0 zk (known_c)) ?_
 refine rt_v (fun vals w hR hd => v_andT (hd 56 rfl) (hd 57 rfl)) ?_
 refine rt_v (fun vals w hR hd => v_assign (t := .bool _) (hd 58 rfl)) ?_
 refine rt_nil (fun w109 e109 => ?_)
 rintro _ rfl _ rfl _ rfl _ rfl _ rfl _ rfl _ rfl _ rfl _ rfl _ rfl _ rfl _ rfl _ rfl _ rfl _ rfl _ rfl _ rfl _ rfl _ rfl _ rfl _ rfl _ rfl _ rfl _ _ _ rfl _ _ _ _ _ _ _ rfl _ _ _ _ _ _ _ rfl _ rfl _ rfl _ rfl _ _ _ _ _ _ _ rfl _ rfl _ rfl _ rfl _ _ _ _ _ _ _ rfl _ rfl _ rfl _ rfl _ _ _ rfl _ rfl _ rfl _ rfl _ rfl _ rfl _ rfl _ rfl _ rfl
 have := e109.size
 refine fin_nil (n_then (c_ret (ret1v rfl zq (zvB rfl) ?_)))
 replace E := (E.trans e108.keep).trans e109.keep
 exact ⟨rfl, E⟩
end Go.Proofs.Ytifnkmflmgnfjaa
