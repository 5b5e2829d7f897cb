/- A part of the proof: steps and lemmas for the walks through the given program. -/
import Derived.Test.YteehplloacefmaaM11
namespace Go.Proofs.Yteehplloacefmaa
open Go.Vc
set_option linter.unusedVariables false
set_option linter.unusedSimpArgs false
set_option maxRecDepth 100000

theorem rMoving_c {w : World} {F G : Nat → Prop} {v kv : Value} {s : MtV} {k : List UInt8} (HG1 : AgV tMt w F v s) (HS2 : Bv w G kv k) : CallsR Try.prog 43 #[v, kv] w (fun o w' => o = .bool (mvgB s.2.2 k) ∧ Ext w w') := by
 obtain ⟨a, c, a2, c2, rfl, HSr, HSm, he, hn⟩ := HG1.mt
 obtain ⟨a3, c3, rfl⟩ := HS2.shape
 have hmx := HSm.len_max
 refine enter 22 Try.func43 rfl rfl (by simp) ?_
 refine c_seq ?_
 have E := Keep.refl (K := NoK) w
 replace HS2 := HS2.all
 replace HSm := HSm.all
 refine wp_reg zd (l_to (to_box (zvA rfl) ?_))
 rintro b2 w2 zb2 HB2 e2 z2
 have := e2.size
 try simp only [Value.cells] at HB2
 refine l_v (v_assign rfl) (l_nil (n_then (c_seq (c_seq (wp_reg zd (l_v (v_assign rfl) (l_nil (n_then (c_block ?_)))))))))
 replace E := E.trans e2.keep
 refine c_loop (τ := Nat) [4, 5, 6, 7, 8, 9, 10, 11, 12, 13, 14, 15, 16, 17, 18, 19, 20, 21] (fun i => [(5, .int .i64 i)]) (fun i W => Ext w W ∧ Keep (NoK) w2 W ∧ i ≤ s.2.2.length ∧ mvgB s.2.2 k = mvgB (s.2.2.drop i) k) (fun i => s.2.2.length - i) 0 (by exact ⟨rfl, trivial⟩) (by exact ⟨E, Keep.refl _, Nat.zero_le _, by rw [List.drop_zero]⟩) ?_
 rintro i w101 j ⟨E, EL1, h1, h2⟩
 have := EL1.size
 replace HB2 := HB2.ext EL1
 refine c_seq (c_seq (wp_reg zd (l_v (zmI rfl) (l_v (v_fieldAddr (off := 3) (ft := 25) zk rfl) (l_v (v_load zk rfl (by first | exact HB2.pv 3 _ rfl | assumption)) ?_)))))
 refine l_v (v_len (et := 54) zk rfl) ?_
 refine l_v (v_lss rfl rfl) ?_
 replace HS2 := (HS2.ext e2).ext EL1
 replace HSm := (HSm.ext e2).ext EL1
 refine l_nil (n_then (c_cond rfl rfl (fun hlt => ?_) (fun hlt => ?_)))
 ·
  have hlt := dtrue hlt
  obtain ⟨r, hx, hdr⟩ := getE (l := s.2.2) (i := i) zo
  obtain ⟨q, cs, rfl, hF, _, HPq, hr⟩ := HSm.el hx
  obtain ⟨b5, d5, b6, d6, rfl, HSf, _⟩ := tMa_cells hr
  refine c_skip (n_then (c_seq (c_block (c_seq (wp_reg zd (l_v (v_fieldAddr (off := 3) (ft := 25) zk rfl) (l_v (v_load zk rfl (by first | exact HPq 3 _ rfl | exact pv_1 HPq | exact HB2.pv 3 _ rfl | assumption)) ?_)))))))
  refine l_v (zmI rfl) (l_v (v_indexAddr (et := 54) (sz := 7) (k := i) zk zk rfl rfl (by first | rfl | omega) zo) ?_)
  refine l_v (v_fieldAddr (off := 0) (ft := 39) zk rfl) (l_v (v_fieldAddr (off := 1) (ft := 33) zk rfl) (l_v (v_load zk rfl (by first | exact HPq 1 _ rfl | exact pv_1 HPq | exact HB2.pv 1 _ rfl | assumption)) ?_))
  refine l_v (zmS rfl) (l_to (to_f2 zk (zvS rfl) (zvS rfl) (CallsR.mono (SameKey_c HSf HS2) ?_)))
  rintro _ w102 ⟨rfl, e102⟩
  have := e102.size
  replace E := E.trans e102.keep
  replace HS2 := HS2.ext e102
  replace HSm := HSm.ext e102
  replace HB2 := HB2.ext e102
  replace EL1 := EL1.trans e102.keep
  replace HPq := HPq.ext e102
  replace HSf := HSf.ext e102
  refine l_nil (n_then (c_cond rfl rfl (fun hc => ?_) (fun hc => ?_)))
  ·
   refine c_seq (wp_reg zd (l_v (v_assign rfl) (l_nil (n_then (c_ret (r_blk (r_then (r_then (r_blk ?_)))))))))
   refine r_then (ret1v rfl zq (zvB rfl) ?_)
   refine ⟨?_, E⟩
   rw [h2, hdr, mvgB, List.any_cons, show decide (r.1.2.1 = k) = true from hc, Bool.true_or]
  refine c_skip (n_blk (n_then (wp_reg zd (l_v (zmI rfl) (l_v (v_add rfl rfl (by first | exact wr_i64 zo zo | rfl)) ?_)))))
  refine l_v (zaI rfl) (l_nil (n_then (⟨i + 1, _, rfl, by (repeat (first | exact Off.of_over _ _ _ | refine Off.upd ?_ zq _ | refine Off.overs ?_ zq _)), ⟨by first | rfl | exact congrArg (Value.int _) zo | (simp; done), trivial⟩, ⟨E, EL1, ?_⟩, ?_⟩)))
  ·
   refine ⟨by omega, ?_⟩
   rw [h2, hdr, mvgB, List.any_cons, show decide (r.1.2.1 = k) = false from hc, Bool.false_or]; rfl
  (dsimp only; omega)
 refine c_exit (x_then (x_then (x_hit (n_then (c_seq (wp_reg zd (l_v (v_assign rfl) (l_nil (n_then ?_)))))))))
 refine c_ret (ret1v rfl zq (zvB rfl) ?_)
 refine ⟨?_, E⟩
 rw [h2, List.drop_eq_nil_of_le (by have := dfalse hlt; omega)]; rfl
def hasN (rs : List RgV) (k : List UInt8) (n : Nat) : Nat := (List.range n).foldl (fun a i => if k < (rs.getD i rg0).1 then a else i) 0
theorem hasN_step (rs : List RgV) (k : List UInt8) (n : Nat) : hasN rs k (n + 1) = if k < (rs.getD n rg0).1 then hasN rs k n else n := by
  rw [hasN, List.range_succ, List.foldl_append]; rfl
theorem rHas_c {w : World} {F G : Nat → Prop} {v kv : Value} {e : Int} {rs : List RgV} {k : List UInt8} (HG1 : AgV tMp w F v (e, rs)) (HS2 : Bv w G kv k) : CallsR Try.prog 42 #[v, kv] w (fun o w' => o = .int .i64 (hasN rs k rs.length : Nat) ∧ Ext w w') := by
 obtain ⟨a, c, rfl, HSr, he⟩ := HG1.mp
 obtain ⟨a3, c3, rfl⟩ := HS2.shape
 simp only at HSr he
 have hmx := HSr.len_max
 refine enter 25 Try.func42 rfl rfl (by simp) ?_
 refine c_seq ?_
 have E := Keep.refl (K := NoK) w
 replace HSr := HSr.all
 replace HS2 := HS2.all
 refine wp_reg zd (l_to (to_box (zvA rfl) ?_))
 rintro b2 w2 zb2 HB2 e2 z2
 have := e2.size
 try simp only [Value.cells] at HB2
 refine l_v (v_assign rfl) (l_nil (n_then (c_seq (wp_reg zd (l_v (v_assign rfl) (l_nil (n_then (c_seq (c_seq ?_)))))))))
 replace E := E.trans e2.keep
 refine wp_reg zd (l_v (v_assign rfl) (l_nil (n_then (c_block (c_loop (τ := Nat × Nat) [5, 6, 7, 8, 9, 10, 11, 12, 13, 14, 15, 16, 17, 18, 19, 20, 21, 22, 23] (fun (i, mx) => [(5, .int .i64 mx), (6, .int .i64 i)]) (fun (i, mx) W => Ext w W ∧ Keep (NoK) w2 W ∧ i ≤ rs.length ∧ mx = hasN rs k i) (fun (i, mx) => rs.length - i) (0, 0) (by exact ⟨rfl, rfl, trivial⟩) (by exact ⟨E, Keep.refl _, Nat.zero_le _, rfl⟩) ?_)))))
 rintro ⟨i, mx⟩ w101 j ⟨E, EL1, h1, h2⟩
 have := EL1.size
 replace HB2 := HB2.ext EL1
 refine c_seq (c_seq (wp_reg zd (l_v (zmI rfl) (l_v (v_fieldAddr (off := 1) (ft := 22) zk rfl) (l_v (v_load zk rfl (by first | exact HB2.pv 1 _ rfl | assumption)) ?_)))))
 refine l_v (v_len (et := 63) zk rfl) ?_
 refine l_v (v_lss rfl rfl) ?_
 replace HSr := (HSr.ext e2).ext EL1
 replace HS2 := (HS2.ext e2).ext EL1
 refine l_nil (n_then (c_cond rfl rfl (fun hlt => ?_) (fun hlt => ?_)))
 ·
  have hlt := dtrue hlt
  obtain ⟨r, hx, hdr⟩ := getE (l := rs) (i := i) zo
  have hrd : rs.getD i rg0 = r := by simp [hx]
  obtain ⟨q, cs, rfl, hF, _, HPq, hr⟩ := HSr.el hx
  obtain ⟨b5, d5, b6, d6, rfl, HSf, _⟩ := tRg_cells hr
  refine c_skip (n_then (c_seq (c_block (c_seq (wp_reg zd (l_v (zmS rfl) (l_v (v_fieldAddr (off := 1) (ft := 22) zk rfl) (l_v (v_load zk rfl (by first | exact HPq 1 _ rfl | exact pv_1 HPq | exact HB2.pv 1 _ rfl | assumption)) ?_))))))))
  refine l_v (zmI rfl) (l_v (v_indexAddr (et := 63) (sz := 4) (k := i) zk zk rfl rfl (by first | rfl | omega) zo) ?_)
  refine l_v (v_fieldAddr (off := 0) (ft := 33) zk rfl) (l_v (v_load zk rfl (by first | exact HPq 0 _ rfl | exact HB2.pv 0 _ rfl | assumption)) ?_)
  refine l_to (to_f2 zk (zvS rfl) (zvS rfl) (CallsR.mono (rLess_c HS2 HSf) ?_))
  rintro _ w102 ⟨rfl, e102⟩
  have := e102.size
  refine l_v (v_not rfl) ?_
  replace E := E.trans e102.keep
  replace HSr := HSr.ext e102
  replace HS2 := HS2.ext e102
  replace HB2 := HB2.ext e102
  replace EL1 := EL1.trans e102.keep
  replace HPq := HPq.ext e102
  replace HSf := HSf.ext e102
  refine l_nil (n_then (c_cond rfl rfl (fun hc => ?_) (fun hc => ?_)))
  ·
   refine wp_reg zd (l_v (zmI rfl) (l_v (zaI rfl) (l_nil (n_blk (n_then (wp_reg zd (l_v (zmI rfl) (l_v (v_add rfl rfl (by first | exact wr_i64 zo zo | rfl)) ?_))))))))
   refine l_v (zaI rfl) (l_nil (n_then (⟨(i + 1, i), _, rfl, by (repeat (first | exact Off.of_over _ _ _ | refine Off.upd ?_ zq _ | refine Off.overs ?_ zq _)), ⟨by first | rfl | exact congrArg (Value.int _) zo | (simp; done), by first | rfl | exact congrArg (Value.int _) zo | (simp; done), trivial⟩, ⟨E, EL1, ?_⟩, ?_⟩)))
   ·
    exact ⟨by omega, by rw [hasN_step, hrd, if_neg (by simpa using hc)]⟩
   (dsimp only; omega)
  refine c_skip (n_blk (n_then (wp_reg zd (l_v (zmI rfl) (l_v (v_add rfl rfl (by first | exact wr_i64 zo zo | rfl)) ?_)))))
  refine l_v (zaI rfl) (l_nil (n_then (⟨(i + 1, mx), _, rfl, by (repeat (first | exact Off.of_over _ _ _ | refine Off.upd ?_ zq _ | refine Off.overs ?_ zq _)), ⟨by first | rfl | exact congrArg (Value.int _) zo | (simp; done), by first | rfl | exact congrArg (Value.int _) zo | (simp; done), trivial⟩, ⟨E, EL1, ?_⟩, ?_⟩)))
  ·
   exact ⟨by omega, by rw [hasN_step, hrd, if_pos (by simpa using hc)]; exact h2⟩
  (dsimp only; omega)
 have hi : i = rs.length := by have := dfalse hlt; omega
 subst hi
 subst h2
 refine c_exit (x_then (x_then (x_hit (n_then (c_seq (wp_reg zd (l_v (zmI rfl) (l_v (zaI rfl) (l_nil ?_)))))))))
 refine n_then (c_ret (ret1v rfl zq (zvI rfl) ?_))
 exact ⟨rfl, E⟩
theorem repBy {w : World} {F : Nat → Prop} {v : Value} {l : List UInt8} (h : Bv w F v l) : (tSl tU8).rep w F [v] l := ⟨v, rfl, h⟩
theorem parts_c {w : World} {F : Nat → Prop} {v : Value} {e : Int} {rs : List RgV} (HG1 : AgV tMp w F v (e, rs)) (hn : rs.length ≤ 1000) : CallsR Try.prog 41 #[v] w (fun o w' => (∃ a c a2 c2, o = .tuple #[.slice a rs.length c, .slice a2 rs.length c2] ∧ OwV (tSl tU8) 33 w' w.heap.size (fun b => (F b ∧ b < w.heap.size) ∨ (w.heap.size ≤ b ∧ (Value.slice a2 rs.length c2).ownBlock ≠ some b)) (.slice a rs.length c) (rs.map (·.1)) ∧ OwV (tInt .i64) 3 w' w.heap.size NoK (.slice a2 rs.length c2) (rs.map (·.2.2.2)) ∧ ∀ q, (Value.slice a rs.length c).ownBlock = some q → (Value.slice a2 rs.length c2).ownBlock ≠ some q) ∧ Ext w w') := by
 obtain ⟨a, c, rfl, HSr, he⟩ := HG1.mp
 simp only at HSr he
 replace HSr := HSr.mono (F' := fun b => F b ∧ b < w.heap.size) fun b hb h => ⟨h, hb⟩
 have hmx := HSr.len_max
 refine enter 34 Try.func41 rfl rfl (by simp) ?_
 refine c_seq ?_
 have E := Keep.refl (K := NoK) w
 refine wp_reg zd (l_to (to_box (zvA rfl) ?_))
 rintro b1 w1 zb1 HB1 e1 z1
 have := e1.size
 try simp only [Value.cells] at HB1
 obtain ⟨n4, hn4⟩ : ∃ n, n = w1.heap.size := ⟨_, rfl⟩
 refine l_v (v_assign rfl) (l_v (v_assign rfl) (l_nil (n_then (c_seq (wp_reg zd (l_v (v_assign rfl) (l_nil (n_then (c_seq ?_)))))))))
 refine wp_reg zd (l_v (v_assign rfl) (l_nil (n_then (c_seq (c_seq (wp_reg zd (l_v (v_assign rfl) (l_nil (n_then ?_)))))))))
 replace E := E.trans e1.keep
 refine c_block (c_loop (τ := Nat × Option Addr × Nat × Option Addr × Nat) [4, 5, 6, 7, 8, 9, 10, 11, 12, 13, 14, 15, 16, 17, 18, 19, 20, 21, 22, 23, 24, 25, 26, 27, 28, 29, 30, 31] (fun (i, a5, c5, a6, c6) => [(4, .slice a5 i c5), (5, .slice a6 i c6), (6, .int .i64 i)]) (fun (i, a5, c5, a6, c6) W => Ext w W ∧ Keep (fun b => n4 ≤ b) w1 W ∧ i ≤ rs.length ∧ OwV (tSl tU8) 33 W n4 (fun b => (F b ∧ b < w.heap.size) ∨ (n4 ≤ b ∧ b < W.heap.size ∧ (Value.slice a6 i c6).ownBlock ≠ some b)) (.slice a5 i c5) ((rs.take i).map (·.1)) ∧ OwV (tInt .i64) 3 W n4 NoK (.slice a6 i c6) ((rs.take i).map (·.2.2.2)) ∧ ∀ q, (Value.slice a5 i c5).ownBlock = some q → (Value.slice a6 i c6).ownBlock ≠ some q) (fun (i, a5, c5, a6, c6) => rs.length - i) (0, none, 0, none, 0) (by exact ⟨rfl, rfl, rfl, trivial⟩) (by exact ⟨E, Keep.refl _, Nat.zero_le _, OwV.nil _ _ _ _ _, OwV.nil _ _ _ _ _, fun q h => by simp [Value.ownBlock] at h⟩) ?_)
 rintro ⟨i, a5, c5, a6, c6⟩ w101 j ⟨E, EL1, h1, HOx, HOy, hdd⟩
 have := EL1.size
 have zo_HOx := fun (b : Nat) h => HOx.own_lt (b := b) h
 have zo_HOy := fun (b : Nat) h => HOy.own_lt (b := b) h
 replace HB1 := HB1.keep EL1 dj4
 refine c_seq (c_seq (wp_reg zd (l_v (zmI rfl) (l_v (v_fieldAddr (off := 1) (ft := 22) zk rfl) (l_v (v_load zk rfl (by first | exact HB1.pv 1 _ rfl | assumption)) ?_)))))
 refine l_v (v_len (et := 63) zk rfl) ?_
 refine l_v (v_lss rfl rfl) ?_
 replace HSr := (HSr.ext e1).keep EL1 dj1
 refine l_nil (n_then (c_cond rfl rfl (fun hlt => ?_) (fun hlt => ?_)))
 ·
  have hlt := dtrue hlt
  have htl : (rs.take i).length = i := by rw [List.length_take]; omega
  obtain ⟨r, hx, hdr⟩ := getE (l := rs) (i := i) zo
  have htk : rs.take (i + 1) = rs.take i ++ [r] := by rw [List.take_add_one, hx]; rfl
  obtain ⟨q, cs, rfl, hF, hqb, HPq, hr⟩ := HSr.el hx
  obtain ⟨b5, d5, b6, d6, rfl, HSf, _, hg⟩ := tRg_cells hr
  have hFq := hF.2
  refine c_skip (n_then (c_seq (c_block (c_seq (wp_reg zd (l_v (zmS rfl) (l_v (v_fieldAddr (off := 1) (ft := 22) zk rfl) (l_v (v_load zk rfl (by first | exact HPq 1 _ rfl | exact pv_1 HPq | exact HB1.pv 1 _ rfl | assumption)) ?_))))))))
  refine l_v (zmI rfl) (l_v (v_indexAddr (et := 63) (sz := 4) (k := i) zk zk rfl rfl (by first | rfl | omega) zo) ?_)
  obtain ⟨n5, hn5⟩ : ∃ n, n = w101.heap.size := ⟨_, rfl⟩
  refine l_v (v_fieldAddr (off := 0) (ft := 33) zk rfl) (l_v (v_load zk rfl (by first | exact HPq 0 _ rfl | exact HB1.pv 0 _ rfl | assumption)) ?_)
  refine l_to (to_slice1 (t := (tSl tU8)) (et := 33) (bytes := 24) zk zq (zvS rfl) (repBy HSf) ?_)
  rintro b9 w9 zb9 HO9 e9 z9
  have := e9.size
  have zo_HO9 := fun (b : Nat) h => HO9.own_lt (b := b) h
  have HS32 : SlV (tSl tU8) w9 (fun b => (F b ∧ b < w.heap.size) ∨ n5 ≤ b) (.slice (some ⟨b9, 0, none⟩) 1 1) [r.1] := HO9.view.mono fun b _ h => by rcases h with h | h; exact .inr zo; exact .inl h.1
  replace HOx := HOx.ext e9
  have HOz := HOx.mono (F' := fun b => (F b ∧ b < w.heap.size) ∨ (n4 ≤ b ∧ (Value.slice a6 i c6).ownBlock ≠ some b)) fun b _ h => h.elim .inl fun h => .inr ⟨h.1, h.2.2⟩
  have zo_HOz := fun (b : Nat) h => HOz.own_lt (b := b) h
  have zo_HOz := zo_HOx
  refine l_to (to_append (et := 33) (bytes := 24) zk (zvS rfl) HOz (zvS rfl) HS32 (deepF fun b hb hb2 => ⟨hb2.elim .inl fun h => .inr ⟨by omega, fun h9 => by have := zo_HOy _ h9; omega⟩, fun ho => by have := zo_HOx _ ho; exact hb2.elim (fun h => by omega) (fun h => by omega)⟩) (by first | omega | (simp; done) | (simp; omega)) (by simp only [maxLen]; first | omega | (simp; done) | (simp; omega)) zo ?_)
  rintro a9 n9 c9 w11 HO19 hn9 k9 h9 i9
  have := k9.size
  obtain rfl : n9 = i + 1 := hn9.trans (by rw [List.length_append, List.length_map, htl]; rfl)
  have hml : (rs.take i).map (·.1) ++ [r.1] = (rs.take (i + 1)).map (·.1) := by rw [htk, List.map_append]; rfl
  rw [hml] at HO19
  have hdd2 : ∀ q, (Value.slice a9 (i + 1) c9).ownBlock = some q → (Value.slice a6 i c6).ownBlock ≠ some q := fun q hq h2 => by rcases h9 q hq with h | h; exact hdd q h h2; (have := zo_HOy q h2; omega)
  have zo_HO19 := fun (b : Nat) h => HO19.own_lt (b := b) h
  replace E := (E.trans e9.keep).step k9 (by intro i hi he; have he0 := he; (try dsimp only [NoK] at hi he ⊢); (try simp only [Value.ownBlock, Option.some.injEq] at he); first | exact he.elim | omega | exact he | (have := (HOz).own_lt he0; omega) | (have := zo_HOz _ he0; omega) | (have := (HOz).own_lt he0; rcases hi with hi | hi <;> omega) | (first | exact absurd ho0 (hdd _ he0) | exact absurd he0 (hdd _ ho0)))
  replace HSr := (HSr.ext e9).keep k9 (by intro i _ hi he; have he0 := he; (try dsimp only [NoK, AllB] at hi he); (try simp only [Value.ownBlock, Option.some.injEq] at he); first | exact hi.elim | exact he.elim | omega | (rcases hi with hi | hi <;> omega) | (rcases he with he | he <;> omega) | (have := (HOz).own_lt he0; omega) | (have := zo_HOz _ he0; omega) | (have := (HOz).own_lt he0; rcases hi with hi | hi <;> omega) | (first | exact absurd ho0 (hdd _ he0) | exact absurd he0 (hdd _ ho0)))
  replace HB1 := (HB1.ext e9).keep k9 (by intro h; have he0 := h; (try dsimp only at h); (try simp only [Value.ownBlock, Option.some.injEq] at h); first | omega | (have := (HOz).own_lt he0; omega) | (have := zo_HOz _ he0; omega) | (have he := he0; first | exact absurd ho0 (hdd _ he0) | exact absurd he0 (hdd _ ho0)))
  replace HOy := (HOy.ext e9).keep k9 (by intro i ho he; have he0 := he; have ho0 := ho; (try dsimp only [NoK] at he); (try simp only [Value.ownBlock, Option.some.injEq, reduceCtorEq] at ho); (try simp only [Value.ownBlock, Option.some.injEq, reduceCtorEq] at he); first | exact he.elim | exact ho.elim | omega | (have := zo_HOy _ ho0; omega) | (have := (HOz).own_lt he0; omega) | (have := zo_HOz _ he0; omega) | (first | exact absurd ho0 (hdd _ he0) | exact absurd he0 (hdd _ ho0)) | (have := zo_HOy _ ho0; have := (HOz).own_lt he0; omega)) (by intro i _ hi _ he; have he0 := he; have hi := hi; have he := he; (try dsimp only [NoK, AllB] at hi he); (try simp only [Value.ownBlock, Option.some.injEq, reduceCtorEq] at he); all_goals first | exact hi.elim | exact hi.1.elim | exact he.elim | omega | (rcases hi with hi | hi <;> omega) | (rcases he with he | he <;> omega) | (have := (HOz).own_lt he0; omega) | (have := zo_HOz _ he0; omega) | (have := (HOz).own_lt he0; rcases hi with hi | hi <;> omega) | (first | exact absurd ho0 (hdd _ he0) | exact absurd he0 (hdd _ ho0)))
  replace EL1 := (EL1.trans e9.keep).step k9 (by intro i hi he; have he0 := he; (try dsimp only [NoK] at hi he ⊢); (try simp only [Value.ownBlock, Option.some.injEq] at he); first | exact he.elim | omega | exact he | (have := (HOz).own_lt he0; omega) | (have := zo_HOz _ he0; omega) | (have := (HOz).own_lt he0; rcases hi with hi | hi <;> omega) | (first | exact absurd ho0 (hdd _ he0) | exact absurd he0 (hdd _ ho0)))
  replace HPq := (HPq.ext e9).keep k9 (by intro h; have he0 := h; (try dsimp only at h); (try simp only [Value.ownBlock, Option.some.injEq] at h); (try simp only [add_block] at h); (try simp only [add_block] at he0); first | omega | (have := (HOz).own_lt he0; omega) | (have := zo_HOz _ he0; omega) | (have he := he0; first | exact absurd ho0 (hdd _ he0) | exact absurd he0 (hdd _ ho0)))
  replace HSf := (HSf.ext e9).keep k9 (by intro i _ hi he; have he0 := he; (try dsimp only [NoK, AllB] at hi he); (try simp only [Value.ownBlock, Option.some.injEq] at he); first | exact hi.elim | exact he.elim | omega | (rcases hi with hi | hi <;> omega) | (rcases he with he | he <;> omega) | (have := (HOz).own_lt he0; omega) | (have := zo_HOz _ he0; omega) | (have := (HOz).own_lt he0; rcases hi with hi | hi <;> omega) | (first | exact absurd ho0 (hdd _ he0) | exact absurd he0 (hdd _ ho0)))
  obtain ⟨n6, hn6⟩ : ∃ n, n = w11.heap.size := ⟨_, rfl⟩
  replace HO19 := HO19.mono (F' := fun b => (F b ∧ b < w.heap.size) ∨ (n4 ≤ b ∧ b < n6 ∧ (Value.slice a6 i c6).ownBlock ≠ some b)) fun b hb h => h.elim .inl fun h => .inr ⟨h.1, by omega, h.2⟩
  refine l_v (zaS rfl) (l_nil (n_then (wp_reg zd (l_v (zmS rfl) (l_v (v_fieldAddr (off := 1) (ft := 22) zk rfl) (l_v (v_load zk rfl (by first | exact HPq 1 _ rfl | exact pv_1 HPq | exact HB1.pv 1 _ rfl | assumption)) ?_))))))
  refine l_v (zmI rfl) (l_v (v_indexAddr (et := 63) (sz := 4) (k := i) zk zk rfl rfl (by first | rfl | omega) zo) ?_)
  refine l_v (v_fieldAddr (off := 3) (ft := 3) zk rfl) (l_v (v_load zk rfl (by first | exact HPq 3 _ rfl | exact pv_1 HPq | exact HB1.pv 3 _ rfl | assumption)) ?_)
  refine l_to (to_slice1 (t := (tInt .i64)) (et := 3) (bytes := 8) zk zq (zvI rfl) ((show (tInt .i64).rep _ NoK _ r.2.2.2 from ⟨rfl, wf_of_i64 hg⟩)) ?_)
  rintro b10 w10 zb10 HO10 e10 z10
  have := e10.size
  have zo_HO10 := fun (b : Nat) h => HO10.own_lt (b := b) h
  have zo10 := zo_HO19
  replace HOy := HOy.ext e10
  refine l_to (to_append (et := 3) (bytes := 8) zk (zvS rfl) HOy (zvS rfl) HO10.view ((fun cs x h => h)) (by first | omega | (simp; done) | (simp; omega)) (by simp only [maxLen]; first | omega | (simp; done) | (simp; omega)) zo ?_)
  rintro a11 n11 c11 w12 HO11 hn11 k11 h11 i11
  have := k11.size
  obtain rfl : n11 = i + 1 := hn11.trans (by rw [List.length_append, List.length_map, htl]; rfl)
  have hml2 : (rs.take i).map (·.2.2.2) ++ [r.2.2.2] = (rs.take (i + 1)).map (·.2.2.2) := by rw [htk, List.map_append]; rfl
  rw [hml2] at HO11
  have hdd3 : ∀ q, (Value.slice a9 (i + 1) c9).ownBlock = some q → (Value.slice a11 (i + 1) c11).ownBlock ≠ some q := fun q hq h2 => by rcases h11 q h2 with h | h; exact hdd2 q hq h; (have := zo10 q hq; omega)
  have zo_HO11 := fun (b : Nat) h => HO11.own_lt (b := b) h
  refine l_v (zaS rfl) (l_nil (n_blk (n_then (wp_reg zd (l_v (zmI rfl) (l_v (v_add rfl rfl (by first | exact wr_i64 zo zo | rfl)) ?_))))))
  replace E := (E.trans e10.keep).step k11 (by intro i hi he; have he0 := he; (try dsimp only [NoK] at hi he ⊢); (try simp only [Value.ownBlock, Option.some.injEq] at he); first | exact he.elim | omega | exact he | (have := (HOy).own_lt he0; omega) | (have := zo_HOy _ he0; omega) | (have := (HOy).own_lt he0; rcases hi with hi | hi <;> omega) | (first | exact absurd ho0 (hdd2 _ he0) | exact absurd he0 (hdd2 _ ho0) | (rcases hi with h | h; (have := zo_HOy _ he0; omega); exact absurd he0 h.2.2)))
  replace HSr := (HSr.ext e10).keep k11 (by intro i _ hi he; have he0 := he; (try dsimp only [NoK, AllB] at hi he); (try simp only [Value.ownBlock, Option.some.injEq] at he); first | exact hi.elim | exact he.elim | omega | (rcases hi with hi | hi <;> omega) | (rcases he with he | he <;> omega) | (have := (HOy).own_lt he0; omega) | (have := zo_HOy _ he0; omega) | (have := (HOy).own_lt he0; rcases hi with hi | hi <;> omega) | (first | exact absurd ho0 (hdd2 _ he0) | exact absurd he0 (hdd2 _ ho0) | (rcases hi with h | h; (have := zo_HOy _ he0; omega); exact absurd he0 h.2.2)))
  replace HB1 := (HB1.ext e10).keep k11 (by intro h; have he0 := h; (try dsimp only at h); (try simp only [Value.ownBlock, Option.some.injEq] at h); first | omega | (have := (HOy).own_lt he0; omega) | (have := zo_HOy _ he0; omega) | (have := zo_HOy _ he0; omega) | (have he := he0; first | exact absurd ho0 (hdd2 _ he0) | exact absurd he0 (hdd2 _ ho0) | (rcases hi with h | h; (have := zo_HOy _ he0; omega); exact absurd he0 h.2.2)))
  replace EL1 := (EL1.trans e10.keep).step k11 (by intro i hi he; have he0 := he; (try dsimp only [NoK] at hi he ⊢); (try simp only [Value.ownBlock, Option.some.injEq] at he); first | exact he.elim | omega | exact he | (have := (HOy).own_lt he0; omega) | (have := zo_HOy _ he0; omega) | (have := (HOy).own_lt he0; rcases hi with hi | hi <;> omega) | (first | exact absurd ho0 (hdd2 _ he0) | exact absurd he0 (hdd2 _ ho0) | (rcases hi with h | h; (have := zo_HOy _ he0; omega); exact absurd he0 h.2.2)))
  replace HPq := (HPq.ext e10).keep k11 (by intro h; have he0 := h; (try dsimp only at h); (try simp only [Value.ownBlock, Option.some.injEq] at h); (try simp only [add_block] at h); (try simp only [add_block] at he0); first | omega | (have := (HOy).own_lt he0; omega) | (have := zo_HOy _ he0; omega) | (have := zo_HOy _ he0; omega) | (have he := he0; first | exact absurd ho0 (hdd2 _ he0) | exact absurd he0 (hdd2 _ ho0) | (rcases hi with h | h; (have := zo_HOy _ he0; omega); exact absurd he0 h.2.2)))
  replace HSf := (HSf.ext e10).keep k11 (by intro i _ hi he; have he0 := he; (try dsimp only [NoK, AllB] at hi he); (try simp only [Value.ownBlock, Option.some.injEq] at he); first | exact hi.elim | exact he.elim | omega | (rcases hi with hi | hi <;> omega) | (rcases he with he | he <;> omega) | (have := (HOy).own_lt he0; omega) | (have := zo_HOy _ he0; omega) | (have := (HOy).own_lt he0; rcases hi with hi | hi <;> omega) | (first | exact absurd ho0 (hdd2 _ he0) | exact absurd he0 (hdd2 _ ho0) | (rcases hi with h | h; (have := zo_HOy _ he0; omega); exact absurd he0 h.2.2)))
  replace HO19 := (HO19.ext e10).keep k11 (by intro i ho he; have he0 := he; have ho0 := ho; (try dsimp only [NoK] at he); (try simp only [Value.ownBlock, Option.some.injEq, reduceCtorEq] at ho); (try simp only [Value.ownBlock, Option.some.injEq, reduceCtorEq] at he); first | exact he.elim | exact ho.elim | omega | (have := zo_HO19 _ ho0; omega) | (have := (HOy).own_lt he0; omega) | (have := zo_HOy _ he0; omega) | (first | exact absurd ho0 (hdd2 _ he0) | exact absurd he0 (hdd2 _ ho0) | (rcases hi with h | h; (have := zo_HOy _ he0; omega); exact absurd he0 h.2.2)) | (have := zo_HO19 _ ho0; have := (HOy).own_lt he0; omega)) (by intro i _ hi _ he; have he0 := he; have hi := hi; have he := he; (try dsimp only [NoK, AllB] at hi he); (try simp only [Value.ownBlock, Option.some.injEq, reduceCtorEq] at he); all_goals first | exact hi.elim | exact hi.1.elim | exact he.elim | omega | (rcases hi with hi | hi <;> omega) | (rcases he with he | he <;> omega) | (have := (HOy).own_lt he0; omega) | (have := zo_HOy _ he0; omega) | (have := (HOy).own_lt he0; rcases hi with hi | hi <;> omega) | (first | exact absurd ho0 (hdd2 _ he0) | exact absurd he0 (hdd2 _ ho0) | (rcases hi with h | h; (have := zo_HOy _ he0; omega); exact absurd he0 h.2.2)))
  replace HO10 := HO10.keep k11 (by intro i ho he; have he0 := he; have ho0 := ho; (try dsimp only [NoK] at he); (try simp only [Value.ownBlock, Option.some.injEq, reduceCtorEq] at ho); (try simp only [Value.ownBlock, Option.some.injEq, reduceCtorEq] at he); first | exact he.elim | exact ho.elim | omega | (have := zo_HO10 _ ho0; omega) | (have := (HOy).own_lt he0; omega) | (have := zo_HOy _ he0; omega) | (first | exact absurd ho0 (hdd2 _ he0) | exact absurd he0 (hdd2 _ ho0) | (rcases hi with h | h; (have := zo_HOy _ he0; omega); exact absurd he0 h.2.2)) | (have := zo_HO10 _ ho0; have := (HOy).own_lt he0; omega)) (by intro i _ hi _ he; have he0 := he; have hi := hi; have he := he; (try dsimp only [NoK, AllB] at hi he); (try simp only [Value.ownBlock, Option.some.injEq, reduceCtorEq] at he); all_goals first | exact hi.elim | exact hi.1.elim | exact he.elim | omega | (rcases hi with hi | hi <;> omega) | (rcases he with he | he <;> omega) | (have := (HOy).own_lt he0; omega) | (have := zo_HOy _ he0; omega) | (have := (HOy).own_lt he0; rcases hi with hi | hi <;> omega) | (first | exact absurd ho0 (hdd2 _ he0) | exact absurd he0 (hdd2 _ ho0) | (rcases hi with h | h; (have := zo_HOy _ he0; omega); exact absurd he0 h.2.2)))
  refine l_v (zaI rfl) (l_nil (n_then (⟨(i + 1, a9, c9, a11, c11), _, rfl, by (repeat (first | exact Off.of_over _ _ _ | refine Off.upd ?_ zq _ | refine Off.overs ?_ zq _)), ⟨by first | rfl | exact congrArg (Value.int _) zo | (simp; done), by first | rfl | exact congrArg (Value.int _) zo | (simp; done), by first | rfl | exact congrArg (Value.int _) zo | (simp; done), trivial⟩, ⟨E, EL1, ?_⟩, ?_⟩)))
  ·
   exact ⟨by omega, HO19.mono fun b hb h => h.elim .inl fun h => .inr ⟨h.1, hb, fun h9 => by rcases h11 b h9 with h8 | h8; exact h.2.2 h8; omega⟩, HO11, hdd3⟩
  (dsimp only; omega)
 have hi : i = rs.length := by have := dfalse hlt; omega
 subst hi
 rw [List.take_length] at HOx HOy
 refine c_exit (x_then (x_then (x_hit (n_then (c_seq (wp_reg zd (l_v (zmS rfl) (l_v (zmS rfl) (l_v (zaS rfl) ?_)))))))))
 refine l_v (zaS rfl) (l_nil (n_then (c_ret (ret2v rfl zq zq (zvS rfl) (zvS rfl) ?_))))
 exact ⟨⟨_, _, _, _, rfl, (HOx.mono fun b _ h => h.elim .inl fun h => .inr ⟨by omega, h.2.2⟩).base zo, HOy.base zo, hdd⟩, E⟩
end Go.Proofs.Yteehplloacefmaa
