/- A part of the proof: steps and lemmas for the walks through the given program. -/
import Derived.Test.YteehplloacefmaaM13
namespace Go.Proofs.Yteehplloacefmaa
open Go.Vc
set_option linter.unusedVariables false
set_option linter.unusedSimpArgs false
set_option maxRecDepth 100000

theorem parts1 {e : Nat → Value} {i0 : Nat} {x0 : Operand} {v0 : Value} (h0 : ev e x0 = v0) : (#[(i0, x0)] : Array (Nat × Operand)).toList.map (fun x => (x.1, ev e x.2)) = [(i0, v0)] := by simp [h0]
theorem hasN_lt {rs : List RgV} {k : List UInt8} : ∀ n, 0 < n → hasN rs k n < n
  | 0, h => by omega
  | n + 1, _ => by
    rw [hasN_step]; split
    · rcases Nat.eq_zero_or_pos n with h | h
      · subst h; show (0 : Nat) < 0 + 1; omega
      · have := hasN_lt (rs := rs) (k := k) n h; omega
    · omega
def lastN (p : MaV → Bool) (l : List MaV) : Nat → Option Nat
  | 0 => none
  | n + 1 => if (l[n]?).any p then some n else lastN p l n
theorem lastN_at {p : MaV → Bool} {l : List MaV} : ∀ {n i : Nat}, lastN p l n = some i → ∃ x, l[i]? = some x ∧ p x = true
  | 0, i, h => by cases h
  | n + 1, i, h => by
    rw [lastN] at h
    split at h
    · rename_i hp
      obtain rfl : n = i := Option.some.inj h
      rcases hx : l[n]? with _ | x
      · rw [hx] at hp; cases hp
      · rw [hx] at hp; exact ⟨x, rfl, by simpa using hp⟩
    · exact lastN_at h
def rDoMt (s : MtV) (c : CmV) : MtV × Int :=
  if c.1 = 6 then (if mvgB s.2.2 (s.1.2.getD (hasN s.1.2 c.2.2.2.2.2.1 s.1.2.length) rg0).1 then (s, 9) else if 0 ≤ optI (begI s.1.2 c.2.2.2.2.2.1) then (s, 7) else if s.1.2.length = 16 ∨ s.1.1 = 2147483647 then (s, 5) else
    (((s.1.1 + 1, bldR (((s.1.2.map (·.1)).take (hasN s.1.2 c.2.2.2.2.2.1 s.1.2.length + 1)) ++ [c.2.2.2.2.2.1] ++ ((s.1.2.map (·.1)).drop (hasN s.1.2 c.2.2.2.2.2.1 s.1.2.length + 1))) (((s.1.2.map (·.2.2.2)).take (hasN s.1.2 c.2.2.2.2.2.1 s.1.2.length + 1)) ++ [(s.1.2.getD (hasN s.1.2 c.2.2.2.2.2.1 s.1.2.length) rg0).2.2.2] ++ ((s.1.2.map (·.2.2.2)).drop (hasN s.1.2 c.2.2.2.2.2.1 s.1.2.length + 1)))), s.2), 0))
  else if c.1 = 7 then (match begI s.1.2 c.2.2.2.2.2.1 with
    | some (i + 1) => if mvgB s.2.2 c.2.2.2.2.2.1 || mvgB s.2.2 (s.1.2.getD i rg0).1 || !decide ((s.1.2.getD (i + 1) rg0).2.2.2 = (s.1.2.getD i rg0).2.2.2) then (s, 9) else if s.1.1 = 2147483647 then (s, 5) else
      (((s.1.1 + 1, bldR ((s.1.2.map (·.1)).take (i + 1) ++ (s.1.2.map (·.1)).drop (i + 1 + 1)) ((s.1.2.map (·.2.2.2)).take (i + 1) ++ (s.1.2.map (·.2.2.2)).drop (i + 1 + 1))), s.2), 0)
    | _ => (s, 6))
  else if c.1 = 8 then (match begI s.1.2 c.2.2.2.2.2.1 with
    | none => (s, 6)
    | some i => if mvgB s.2.2 c.2.2.2.2.2.1 || decide ((s.1.2.getD i rg0).2.2.2 = c.2.2.2.2.2.2) then (s, 9) else if s.2.1 = 2147483647 then (s, 5) else
      ((s.1, s.2.1 + 1, s.2.2 ++ [((s.2.1, (s.1.2.getD i rg0).1, (s.1.2.getD i rg0).2.1, (s.1.2.getD i rg0).2.2.1, (s.1.2.getD i rg0).2.2.2, c.2.2.2.2.2.2), false)]), 0))
  else (match lastN (fun x => decide (x.1 = c.2.2.1) && (x.2 == decide (c.1 = 10))) s.2.2 s.2.2.length with
    | none => (s, 9)
    | some i => if c.1 = 10 then ((s.1, s.2.1, s.2.2.take i ++ s.2.2.drop (i + 1)), 0) else if s.1.1 = 2147483647 then (s, 5) else
      (((s.1.1 + 1, bldR (s.1.2.map (·.1)) ((s.1.2.map (·.2.2.2)).set (optI (begI s.1.2 c.2.2.1.2.1)).toNat c.2.2.1.2.2.2.2.2)), s.2.1, s.2.2.set i ((s.2.2.getD i (mv0, false)).1, true)), 0))
set_option maxHeartbeats 4000000 in
theorem rDo_c {w : World} {F G : Nat → Prop} {v vc : Value} {e0 n : Int} {rs : List RgV} {ms : List MaV} {c : CmV} (HG1 : AgV tMt w F v ((e0, rs), n, ms)) (HG2 : AgV tCm w G vc c) (hn : ms.length ≤ 1000) (hms : mayMt ((e0, rs), n, ms) = true) :
    CallsR Try.prog 16 #[v, vc] w (fun o w' => (∃ x, o = .tuple #[x, .int .i64 (rDoMt ((e0, rs), n, ms) c).2] ∧ AgV tMt w' AllB x (rDoMt ((e0, rs), n, ms) c).1) ∧ Ext w w') := by
 obtain ⟨k, rq, mv, en, an, key, g⟩ := c
 obtain ⟨x1, d1, x2, d2, x3, d3, x4, d4, x5, d5, x6, d6, x7, d7, x8, d8, x9, d9, hvc, _, HGv, _, _, HSk, ik, ig⟩ := HG2.cm
 subst hvc
 obtain ⟨a1, c1, a2, c2, rfl, HSr, HSm, ie, im⟩ := HG1.mt
 simp only at HSr HSm ie im
 have HGm := AgV.mpOf HSr ie
 obtain ⟨y1, f1, y2, f2, hvm, HSvf, _, iv1, iv2, iv3⟩ := HGv.mv
 simp only [Value.agg.injEq, Array.mk.injEq, List.cons.injEq, Value.slice.injEq, and_true, true_and] at hvm
 obtain ⟨⟨rfl, rfl⟩, rfl, rfl⟩ := hvm
 obtain ⟨p1, p2, p3, p4⟩ := mayMt_iff.1 hms
 simp only at p1 p2 p3 p4
 obtain ⟨q1, q2, q3, q4, q5, q6⟩ := mayM_parts p1
 simp only at q1 q2 q3 q4 q5 q6
 refine enter 315 Try.func16 rfl rfl (by simp) ?_
 refine c_seq ?_
 have E := Keep.refl (K := NoK) w
 replace HG1 := HG1.all
 replace HSk := HSk.all
 replace HGm := HGm.all
 replace HSr := HSr.all
 replace HSm := HSm.all
 replace HGv := HGv.all
 replace HSvf := HSvf.all
 obtain ⟨nw, hnw⟩ : ∃ n, n = w.heap.size := ⟨_, rfl⟩
 refine wp_reg zd (l_to (to_box (zvA rfl) ?_))
 rintro b2 w2 zb2 HB2 e2 z2
 have := e2.size
 try simp only [Value.cells] at HB2
 refine l_to (to_box (zvA rfl) ?_)
 rintro b3 w3 zb3 HB3 e3 z3
 have := e3.size
 try simp only [Value.cells] at HB3
 refine l_to (to_alloc (z := (.agg #[.int .i64 0, .slice none 0 0, .int .i64 0, .slice none 0 0])) (by unfold kZero; kernel_rfl) ?_)
 rintro b4 w4 zb4 HB4 e4 z4
 have := e4.size
 try simp only [Value.cells] at HB4
 obtain ⟨n5, hn5⟩ : ∃ n, n = w4.heap.size := ⟨_, rfl⟩
 replace HB2 := (HB2.ext e3).ext e4
 replace HB3 := HB3.ext e4
 refine l_v (v_assign rfl) (l_nil (n_then (c_seq (wp_reg zd (l_v (v_fieldAddr (off := 0) (ft := 24) zk rfl) (l_v (v_loadA zk rfl (by first | exact (show Pv _ _ [_, _] from pv_sub 0 2 HB4.pv) | exact (show Pv _ _ [_, _] from pv_sub 0 2 HB3.pv) | exact (show Pv _ _ [_, _] from pv_sub 0 2 HB2.pv) | exact pv_at 0 HB4.pv | exact pv_at 0 HB3.pv | exact pv_at 0 HB2.pv | assumption) rfl) ?_))))))
 replace HGm := ((HGm.ext e2).ext e3).ext e4
 refine l_to (to_f1 zk (zvA rfl) (CallsR.mono (parts_c HGm zo) ?_))
 rintro _ w20 ⟨⟨a6, c6, a7, c7, rfl, HO6, HO7, hdd⟩, e20⟩
 have := e20.size
 have zo_HO6 := fun (q : Nat) h => HO6.own_lt (b := q) h
 have zo_HO7 := fun (q : Nat) h => HO7.own_lt (b := q) h
 replace HO6 := HO6.mono (F' := fun b => b < w.heap.size ∨ (n5 ≤ b ∧ b < w20.heap.size ∧ (Value.slice a7 rs.length c7).ownBlock ≠ some b)) fun b hb h => h.elim (fun h => .inl h.1) fun h => .inr ⟨by omega, hb, h.2⟩
 have zo_HO6 := fun (b : Nat) h => HO6.own_lt (b := b) h
 have zo_HO7 := fun (b : Nat) h => HO7.own_lt (b := b) h
 refine l_v (zmT rfl) (l_v (v_extract (t := .slice _ _ _) rfl rfl) (l_v (v_extract (t := .slice _ _ _) rfl rfl) (l_v (zaS rfl) (l_v (zaS rfl) (l_nil (n_then (c_seq (wp_reg zd (l_v (v_assign rfl) ?_)))))))))
 replace E := (((E.trans e2.keep).trans e3.keep).trans e4.keep).trans e20.keep
 replace HG1 := (((HG1.ext e2).ext e3).ext e4).ext e20
 replace HSk := (((HSk.ext e2).ext e3).ext e4).ext e20
 replace HSr := (((HSr.ext e2).ext e3).ext e4).ext e20
 replace HSm := (((HSm.ext e2).ext e3).ext e4).ext e20
 replace HGv := (((HGv.ext e2).ext e3).ext e4).ext e20
 replace HSvf := (((HSvf.ext e2).ext e3).ext e4).ext e20
 replace HGm := HGm.ext e20
 replace HB2 := HB2.ext e20
 replace HB3 := HB3.ext e20
 replace HB4 := HB4.ext e20
 refine l_nil (n_then (c_seq (wp_reg zd (l_v (v_assign rfl) (l_nil (n_then (c_cut (fun a wc => ∃ e, a = FrD 315 e [] ∧ (Holds [(2, .pointer (some ⟨b2, 0, none⟩)), (4, .pointer (some ⟨b4, 0, none⟩))] e ∧ Keep NoK w wc ∧ Blk wc b4 [.int .i64 0, .slice none 0 0, .int .i64 0, .slice none 0 0] 27 ∧ ∃ s' v u, (rDoMt ((e0, rs), n, ms) (k, rq, mv, en, an, key, g)) = (s', 0) ∧ Blk wc b2 [.int .i64 s'.1.1, v, .int .i64 s'.2.1, u] 27 ∧ I64' s'.1.1 ∧ I64' s'.2.1 ∧ SlV tRg wc (fun q => True ∧ q ≠ b4) v s'.1.2 ∧ SlV tMa wc (fun q => True ∧ q ≠ b4) u s'.2.2)) ?_ ?_)))))))
 ·
  refine c_seq (wp_reg zd (l_v (v_fieldAddr (off := 0) (ft := 31) zk rfl) (l_v (v_load zk rfl (by first | exact HB4.pv 0 _ rfl | exact HB3.pv 0 _ rfl | exact HB2.pv 0 _ rfl | assumption)) ?_)))
  refine l_nil (n_then (c_block (c_seq (wp_reg zd (l_v (v_eql rfl rfl) ?_)))))
  refine l_v (zaB rfl) (l_nil (n_then (c_cond rfl rfl (fun h6 => ?_) (fun h6 => ?_))))
  ·
   have hk : k = 6 := dtrue h6
   obtain ⟨a, ha⟩ : ∃ a, a = hasN rs key rs.length := ⟨_, rfl⟩
   have hal : a < rs.length := by rw [ha]; exact hasN_lt _ zo
   obtain ⟨ra, hra, _⟩ := getE (l := rs) (i := a) hal
   have hrd : rs.getD a rg0 = ra := by simp [hra]
   have hrx : (rDoMt ((e0, rs), n, ms) (k, rq, mv, en, an, key, g)) = if mvgB ms ra.1 then (((e0, rs), n, ms), 9) else if 0 ≤ optI (begI rs key) then (((e0, rs), n, ms), 7) else if rs.length = 16 ∨ e0 = 2147483647 then (((e0, rs), n, ms), 5) else (((e0 + 1, bldR ((rs.map (·.1)).take (a + 1) ++ [key] ++ (rs.map (·.1)).drop (a + 1)) ((rs.map (·.2.2.2)).take (a + 1) ++ [ra.2.2.2] ++ (rs.map (·.2.2.2)).drop (a + 1))), n, ms), 0) := by unfold rDoMt; simp only []; rw [if_pos hk, ← ha, hrd]
   refine c_seq (wp_reg zd (l_v (v_fieldAddr (off := 0) (ft := 24) zk rfl) (l_v (v_loadA zk rfl (by first | exact (show Pv _ _ [_, _] from pv_sub 0 2 HB4.pv) | exact (show Pv _ _ [_, _] from pv_sub 0 2 HB3.pv) | exact (show Pv _ _ [_, _] from pv_sub 0 2 HB2.pv) | exact pv_at 0 HB4.pv | exact pv_at 0 HB3.pv | exact pv_at 0 HB2.pv | assumption) rfl) ?_)))
   refine l_v (v_fieldAddr (off := 18) (ft := 33) zk rfl) (l_v (v_load zk rfl (by first | exact HB4.pv 18 _ rfl | exact HB3.pv 18 _ rfl | exact HB2.pv 18 _ rfl | assumption)) ?_)
   refine l_to (to_f2 zk (zvA rfl) (zvS rfl) (CallsR.mono (rHas_c HGm HSk) ?_))
   rintro _ w101 ⟨rfl, e101⟩
   have := e101.size
   rw [← ha]
   replace HO6 := HO6.ext e101
   obtain ⟨qa, csa, hqa, hFa, hqb, HPa, ⟨va, rfl, HSa⟩⟩ := HO6.view.el (k := a) (x := ra.1) (by rw [List.getElem?_map, hra]; rfl)
   subst hqa
   obtain ⟨y5, f5, rfl⟩ := HSa.shape
   refine l_v (zaI rfl) (l_nil (n_then (c_seq (c_block (c_seq (wp_regd (NoK) zk zd zd ?_))))))
   replace HB2 := HB2.ext e101
   replace HB3 := HB3.ext e101
   replace HB4 := HB4.ext e101
   refine rt_v (fun vals w hR hd => v_loadA zk rfl (by first | exact (HPa.ext hR) | exact (HB4.ext hR).pv | exact (HB3.ext hR).pv | exact (HB2.ext hR).pv | assumption) rfl) ?_
   refine rt_v (fun vals w hR hd => zmS rfl) ?_
   refine rt_v (fun vals w hR hd => zmI rfl) ?_
   refine rt_v (fun vals w hR hd => v_indexAddr (et := 33) (sz := 1) (k := a) zk zk (hd 1 rfl) (hd 2 rfl) (by first | rfl | omega) (by simpa using hal)) ?_
   refine rt_v (fun vals w hR hd => v_load zk (hd 3 rfl) (by first | exact pv_1 (HPa.ext hR) | exact (HB4.ext hR).cell rfl | exact (HB3.ext hR).cell rfl | exact (HB2.ext hR).cell rfl | assumption)) ?_
   replace HG1 := HG1.ext e101
   refine rt_vf (fun vals w hR hd => to_f2 zk (hd 0 rfl) (hd 4 rfl) (rMoving_c (HG1.ext hR) (HSa.ext hR))) ?_
   refine rt_v (fun vals w hR hd => v_assign (t := .bool _) (hd 5 rfl)) ?_
   refine rt_nil (fun w102 e102 => ?_)
   rintro _ rfl _ rfl _ rfl _ rfl _ rfl _ rfl _ rfl
   have := e102.size
   replace E := (E.trans e101.keep).trans e102.keep
   replace HSk := (HSk.ext e101).ext e102
   replace HGm := (HGm.ext e101).ext e102
   replace HSr := (HSr.ext e101).ext e102
   replace HSm := (HSm.ext e101).ext e102
   replace HGv := (HGv.ext e101).ext e102
   replace HSvf := (HSvf.ext e101).ext e102
   replace HO7 := (HO7.ext e101).ext e102
   replace HG1 := HG1.ext e102
   replace HB2 := HB2.ext e102
   replace HB3 := HB3.ext e102
   replace HB4 := HB4.ext e102
   replace HO6 := HO6.ext e102
   replace HPa := HPa.ext e102
   replace HSa := HSa.ext e102
   refine fin_nil (n_then (c_cond rfl rfl (fun h113 => ?_) (fun h113 => ?_)))
   ·
    refine c_seq (wp_reg zd (l_v (v_loadA zk rfl (by first | exact HPa | exact HB4.pv | exact HB3.pv | exact HB2.pv | assumption) rfl) ?_))
    refine l_to (to_storeA (n := 4) rfl rfl (zvA rfl) zk rfl dj6 HB4 dj5 ?_)
    rintro w103 HX103 k103 z103
    have := k103.size
    replace HB4 := HX103
    clear HX103
    try simp only [zS, Nat.zero_add, Nat.reduceAdd, List.drop_nil] at HB4
    refine l_v (v_assign rfl) (l_nil (n_then (c_ret (r_blk (r_then (r_blk (r_then (ret2cv (n := 4) rfl zq zq rfl zk HB4.pv rfl (zvI rfl) ?_))))))))
    have hq : (rDoMt ((e0, rs), n, ms) (k, rq, mv, en, an, key, g)) = (((e0, rs), n, ms), 9) := by rw [hrx, if_pos h113]
    rw [hq]
    replace E := E.step k103 dj3
    replace HG1 := HG1.keep k103 dj1
    exact ⟨⟨_, rfl, HG1.mono fun _ _ _ => trivial⟩, E⟩
   rw [if_neg (by rw [h113]; simp)] at hrx
   refine c_seq (wp_reg zd (l_v (v_fieldAddr (off := 0) (ft := 24) zk rfl) (l_v (v_loadA zk rfl (by first | exact (show Pv _ _ [_, _] from pv_sub 0 2 HPa) | exact (show Pv _ _ [_, _] from pv_sub 0 2 HB4.pv) | exact (show Pv _ _ [_, _] from pv_sub 0 2 HB3.pv) | exact (show Pv _ _ [_, _] from pv_sub 0 2 HB2.pv) | exact pv_at 0 HPa | exact pv_at 0 HB4.pv | exact pv_at 0 HB3.pv | exact pv_at 0 HB2.pv | exact HPa | assumption) rfl) ?_)))
   refine l_v (v_fieldAddr (off := 18) (ft := 33) zk rfl) (l_v (v_load zk rfl (by first | exact HPa 18 _ rfl | exact pv_1 HPa | exact HB4.pv 18 _ rfl | exact HB3.pv 18 _ rfl | exact HB2.pv 18 _ rfl | assumption)) ?_)
   refine l_to (to_f2 zk (zvA rfl) (zvS rfl) (CallsR.mono (rBegins_c HGm HSk) ?_))
   rintro _ w104 ⟨rfl, e104⟩
   have := e104.size
   refine l_v (v_geq rfl rfl) ?_
   replace E := E.trans e104.keep
   replace HG1 := HG1.ext e104
   replace HSk := HSk.ext e104
   replace HGm := HGm.ext e104
   replace HSr := HSr.ext e104
   replace HSm := HSm.ext e104
   replace HGv := HGv.ext e104
   replace HSvf := HSvf.ext e104
   replace HB2 := HB2.ext e104
   replace HB3 := HB3.ext e104
   replace HB4 := HB4.ext e104
   replace HO6 := HO6.ext e104
   replace HO7 := HO7.ext e104
   replace HPa := HPa.ext e104
   replace HSa := HSa.ext e104
   refine l_v (zaB rfl) (l_nil (n_then (c_cond rfl rfl (fun h121 => ?_) (fun h121 => ?_))))
   ·
    refine c_seq (wp_reg zd (l_v (v_loadA zk rfl (by first | exact HPa | exact HB4.pv | exact HB3.pv | exact HB2.pv | assumption) rfl) ?_))
    refine l_to (to_storeA (n := 4) rfl rfl (zvA rfl) zk rfl dj6 HB4 dj5 ?_)
    rintro w105 HX105 k105 z105
    have := k105.size
    replace HB4 := HX105
    clear HX105
    try simp only [zS, Nat.zero_add, Nat.reduceAdd, List.drop_nil] at HB4
    refine l_v (v_assign rfl) (l_nil (n_then (c_ret (r_blk (r_then (r_blk (r_then (ret2cv (n := 4) rfl zq zq rfl zk HB4.pv rfl (zvI rfl) ?_))))))))
    have hq : (rDoMt ((e0, rs), n, ms) (k, rq, mv, en, an, key, g)) = (((e0, rs), n, ms), 7) := by rw [hrx, if_pos (dtrue h121)]
    rw [hq]
    replace E := E.step k105 dj3
    replace HG1 := HG1.keep k105 dj1
    exact ⟨⟨_, rfl, HG1.mono fun _ _ _ => trivial⟩, E⟩
   rw [if_neg (dfalse h121)] at hrx
   refine c_seq (wp_reg zd (l_v (zmS rfl) (l_v (v_len (et := 33) zk rfl) ?_)))
   refine l_v (v_eql rfl rfl) ?_
   refine l_v (zmB rfl) (l_g1 rfl rfl (fun hG => v_fieldAddr (off := 0) (ft := 24) zk rfl) ?_)
   refine l_g1 rfl rfl (fun hG => v_fieldAddr (off := 0) (ft := 2) zk (gd hG rfl)) ?_
   refine l_g1 rfl rfl (fun hG => v_load zk (gd hG rfl) (by first | exact HPa 0 _ rfl | exact HB4.pv 0 _ rfl | exact HB3.pv 0 _ rfl | exact HB2.pv 0 _ rfl | assumption)) ?_
   refine l_g1 rfl rfl (fun hG => v_eql (gd hG rfl) rfl) ?_
   refine l_v (v_or rfl rfl) ?_
   refine l_v (zaB rfl) (l_nil (n_then (c_cond rfl rfl (fun h129 => ?_) (fun h129 => ?_))))
   ·
    refine c_seq (wp_reg zd (l_v (v_loadA zk rfl (by first | exact HPa | exact HB4.pv | exact HB3.pv | exact HB2.pv | assumption) rfl) ?_))
    refine l_to (to_storeA (n := 4) rfl rfl (zvA rfl) zk rfl dj6 HB4 dj5 ?_)
    rintro w106 HX106 k106 z106
    have := k106.size
    replace HB4 := HX106
    clear HX106
    try simp only [zS, Nat.zero_add, Nat.reduceAdd, List.drop_nil] at HB4
    refine l_v (v_assign rfl) (l_nil (n_then (c_ret (r_blk (r_then (r_blk (r_then (ret2cv (n := 4) rfl zq zq rfl zk HB4.pv rfl (zvI rfl) ?_))))))))
    have hq : (rDoMt ((e0, rs), n, ms) (k, rq, mv, en, an, key, g)) = (((e0, rs), n, ms), 5) := by rw [hrx, if_pos (by have h := h129; simp at h; omega)]
    rw [hq]
    replace E := E.step k106 dj3
    replace HG1 := HG1.keep k106 dj1
    exact ⟨⟨_, rfl, HG1.mono fun _ _ _ => trivial⟩, E⟩
   rw [if_neg (by have h := h129; simp at h; omega)] at hrx
   obtain ⟨n6, hn6⟩ : ∃ n, n = w104.heap.size := ⟨_, rfl⟩
   have HS6 := HO6.view.mono (F' := fun b => b < w.heap.size ∨ (n5 ≤ b ∧ b < n6)) fun b hb h => h.elim (fun h => .inr zo) fun h => h.elim .inl fun h => .inr zo
   have HS7 := HO7.view.mono (F' := fun b => b < w.heap.size ∨ (n5 ≤ b ∧ b < n6)) fun b hb h => h.elim (fun h => .inr zo) fun h => h.elim
   have hc6 : rs.length ≤ c6 := by obtain ⟨_, _, hv, hcl, _⟩ := HS6; simp only [Value.slice.injEq] at hv; obtain ⟨_, _, rfl⟩ := hv; simpa using hcl
   have hc7 : rs.length ≤ c7 := by obtain ⟨_, _, hv, hcl, _⟩ := HS7; simp only [Value.slice.injEq] at hv; obtain ⟨_, _, rfl⟩ := hv; simpa using hcl
   refine c_skip (n_blk (n_then (c_seq (wp_any zk ?_))))
   have e107 : Ext w104 { w104 with drawn := w104.drawn + 1 } := Keep.drawn _ _
   generalize hw107 : ({ w104 with drawn := w104.drawn + 1 } : World) = w107 at e107 ⊢
   clear hw107
   have := e107.size
   refine r_cut 14 rfl zd zd zd ?_
   refine wp_regJW (fun k => w107.heap.size ≤ k) (EqJ [] (ChainJ (tSl tU8) (33) w107.heap.size (w107.heap.size) (fun b => b < w.heap.size ∨ n5 ≤ b) (fun b => b < w.heap.size ∨ n5 ≤ b) (.slice none 0 0 : Value) ([]) [5, 9] [none, some 8] [(rs.map (·.1)).take (a + 1), [key]])) zd zd (fun vals done hd => EqJ.start (ChainJ.start (OwV.nil _ _ _ _ _) (Nat.le_refl _) (Nat.le_refl _) (fun i hi => hd i (dOf_lt zq hi))) (fun k j hq => hd k (dQ_lt zq k j hq))) ?_
   refine rj_v (EqJ.on ChainJ.on) zq (fun done vals w hR hJ hdn hd => zmS rfl) ?_
   refine rj_v (EqJ.on ChainJ.on) zq (fun done vals w hR hJ hdn hd => zmS rfl) ?_
   refine rj_v (EqJ.on ChainJ.on) zq (fun done vals w hR hJ hdn hd => zmI rfl) ?_
   refine rj_v (EqJ.on ChainJ.on) zq (fun done vals w hR hJ hdn hd => v_add (hd 2 rfl) rfl (by first | exact wr_i64 zo zo | rfl)) ?_
   refine rj_v (EqJ.on ChainJ.on) zq (fun done vals w hR hJ hdn hd => v_slice (et := 33) (sz := 1) (l := 0) (h := a + 1) zk zk (hd 1 rfl) rfl ⟨.i64, ((hd 3 rfl)).trans (congrArg (Value.int _) zo)⟩ zo zo) ?_
   replace E := E.trans e107.keep
   replace HG1 := HG1.ext e107
   replace HSk := HSk.ext e107
   replace HGm := HGm.ext e107
   replace HSr := HSr.ext e107
   replace HSm := HSm.ext e107
   replace HGv := HGv.ext e107
   replace HSvf := HSvf.ext e107
   replace HB2 := HB2.ext e107
   replace HB3 := HB3.ext e107
   replace HB4 := HB4.ext e107
   replace HS6 := HS6.ext e107
   replace HS7 := HS7.ext e107
   refine rj_d (fun done vals w hR hcl hdk hJ hdn hd => by
     have := hR.size
     obtain ⟨hacc, hown, hsrc⟩ := hJ.1.at (n := 0) rfl hdk (fun m h => by cases h)
     exact to_append (et := 33) (bytes := 24) zk (hd 0 rfl) hacc (hd 4 rfl) ((HS6.keep hR dj2).sub (l := 0) (h := a + 1) zo (by simp; omega)) (fun cs x h => Ty.mono _ h (fun b _ h => ⟨h.elim .inl (fun h => .inr h.1), fun ho => (hown b ho).elim (fun h' => by cases h') (fun h' => h.elim (fun h => by omega) (fun h => by omega))⟩)) (by (simp; omega)) (by simp only [maxLen]; (simp; omega)) zo (fun a n cc w1 o hn kk ho _ => ⟨kk.mono (fun b _ h => (hown b h).resolve_left (fun h => by cases h)), hJ.step hdk zq (hJ.1.app (n := 0) rfl hdk (fun m h => by cases h) rfl (once_as zq) (ps_ne zq) o kk ho)⟩)) ?_
   refine rj_v (EqJ.on ChainJ.on) zq (fun done vals w hR hJ hdn hd => v_fieldAddr (off := 18) (ft := 33) zk rfl) ?_
   refine rj_v (EqJ.on ChainJ.on) zq (fun done vals w hR hJ hdn hd => v_load zk (hd 6 rfl) (by first | exact (HB4.keep hR dj4).pv 18 _ rfl | exact (HB3.keep hR dj4).pv 18 _ rfl | exact (HB2.keep hR dj4).pv 18 _ rfl | assumption)) ?_
   refine rj_d (fun done vals w hR hcl hdk hJ hdn hd => by
     have := hR.size
     exact to_slice1 (t := tSl tU8) (et := 33) (bytes := 24) zk zq (hd 7 rfl) (repBy (HSk.keep hR dj2)) (fun b w1 hb HO e z => ⟨Ext.keep e, hJ.step hdk zq (hJ.1.prodO (n := 1) e rfl rfl (once_ps zq) zq (HO.view.mono fun b' hb' hF => by rcases hF with hF | hF; exact ⟨by first | trivial | omega | (dsimp only; omega), .inl zo⟩; (have h5 := hF.1; (try dsimp only at h5); exact ⟨by first | trivial | omega | (dsimp only; omega), .inr ⟨by omega, by simp [Value.ownBlock]⟩⟩)))⟩)) ?_
   refine rj_d (fun done vals w hR hcl hdk hJ hdn hd => by
     have := hR.size
     obtain ⟨hacc, hown, hsrc⟩ := hJ.1.at (n := 1) rfl hdk (fun m h => ⟨5, by cases h; rfl, hdn 5 rfl⟩)
     exact to_append (et := 33) (bytes := 24) zk rfl hacc rfl (hsrc _ _ rfl rfl (hdn 8 rfl)) (fun cs x h => Ty.mono _ h (fun b _ h => ⟨h.1, h.2.1⟩)) (by (simp; omega)) (by simp only [maxLen]; (simp; omega)) zo (fun a n cc w1 o hn kk ho _ => ⟨kk.mono (fun b _ h => (hown b h).resolve_left (fun h => by cases h)), hJ.step hdk zq (hJ.1.app (n := 1) rfl hdk (fun m h => ⟨5, by cases h; rfl, hdn 5 rfl⟩) rfl (once_as zq) (ps_ne zq) o kk ho)⟩)) ?_
   refine rj_v (EqJ.on ChainJ.on) zq (fun done vals w hR hJ hdn hd => zmS rfl) ?_
   refine rj_v (EqJ.on ChainJ.on) zq (fun done vals w hR hJ hdn hd => zmI rfl) ?_
   refine rj_v (EqJ.on ChainJ.on) zq (fun done vals w hR hJ hdn hd => v_add (hd 11 rfl) rfl (by first | exact wr_i64 zo zo | rfl)) ?_
   refine rj_v (EqJ.on ChainJ.on) zq (fun done vals w hR hJ hdn hd => v_slice (et := 33) (sz := 1) (l := a + 1) (h := rs.length) zk zk (hd 10 rfl) ⟨.i64, ((hd 12 rfl)).trans (congrArg (Value.int _) zo)⟩ rfl zo zo) ?_
   refine rj_nil (fun vals w108 k108 J108 => ?_)
   rintro _ _ rfl _ _ rfl _ _ rfl _ _ rfl _ _ rfl _ rfl - _ _ rfl _ _ rfl _ rfl - v149 hv149 - _ _ rfl _ _ rfl _ _ rfl _ _ rfl
   have := k108.size
   have HO149 : OwV (tSl tU8) (33) w108 (w107.heap.size) (fun b => b < w.heap.size ∨ n5 ≤ b) v149 ((rs.map (·.1)).take (a + 1) ++ [key]) := by
    have h := J108.1.fin (by exact Nat.le_refl _)
    have h2 : [] ++ ([(rs.map (·.1)).take (a + 1), [key]]).flatten = (rs.map (·.1)).take (a + 1) ++ [key] := by simp
    rw [h2] at h; rw [hv149]; exact h
   clear hv149
   obtain ⟨a149, c149, rfl⟩ := HO149.shape
   have zo_HO149 := fun (b : Nat) h => HO149.own_lt (b := b) h
   refine fin_nilJ (n_then (r_cut 1 rfl zd zd zd ?_))
   refine r_one zd rfl ?_
   replace HS6 := HS6.keep k108 dj1
   refine l_to (to_append (et := 33) (bytes := 24) zk (zvS rfl) HO149 (zvS rfl) (HS6.sub (l := a + 1) (h := rs.length) zo (by simp)) ((fun cs x h => Ty.mono _ h (fun b hb h => ⟨h.elim .inl (fun h => .inr h.1), fun ho => by have := (HO149).own_lt ho; exact h.elim (fun h => by omega) (fun h => by omega)⟩))) (by first | omega | (simp; done) | (simp; omega)) (by simp only [maxLen]; first | omega | (simp; done) | (simp; omega)) zo ?_)
   rintro a154 n154 c154 w154 HO154 hn154 k154 ho154 hz154
   have := k154.size
   rw [show ((rs.map (·.1))).take rs.length = (rs.map (·.1)) from List.take_of_length_le (by simp)] at HO154
   have zo_HO154 := fun (b : Nat) h => HO154.own_lt (b := b) h
   refine l_nil (n_then (r_one zd rfl ?_))
   replace E := (E.step k108 dj3).step k154 (by intro i hi he; have he0 := he; (try dsimp only [NoK] at hi he ⊢); (try simp only [Value.ownBlock, Option.some.injEq] at he); first | exact he.elim | omega | exact he | (have := (HO149).own_lt he0; omega) | (have := zo_HO149 _ he0; omega) | (have := (HO149).own_lt he0; rcases hi with hi | hi <;> omega))
   replace HG1 := (HG1.keep k108 dj1).keep k154 (by intro i _ hi he; have he0 := he; (try dsimp only [NoK, AllB] at hi he); (try simp only [Value.ownBlock, Option.some.injEq] at he); first | exact hi.elim | exact he.elim | omega | (rcases hi with hi | hi <;> omega) | (rcases he with he | he <;> omega) | (have := (HO149).own_lt he0; omega) | (have := zo_HO149 _ he0; omega) | (have := (HO149).own_lt he0; rcases hi with hi | hi <;> omega))
   replace HSk := (HSk.keep k108 dj1).keep k154 (by intro i _ hi he; have he0 := he; (try dsimp only [NoK, AllB] at hi he); (try simp only [Value.ownBlock, Option.some.injEq] at he); first | exact hi.elim | exact he.elim | omega | (rcases hi with hi | hi <;> omega) | (rcases he with he | he <;> omega) | (have := (HO149).own_lt he0; omega) | (have := zo_HO149 _ he0; omega) | (have := (HO149).own_lt he0; rcases hi with hi | hi <;> omega))
   replace HGm := (HGm.keep k108 dj1).keep k154 (by intro i _ hi he; have he0 := he; (try dsimp only [NoK, AllB] at hi he); (try simp only [Value.ownBlock, Option.some.injEq] at he); first | exact hi.elim | exact he.elim | omega | (rcases hi with hi | hi <;> omega) | (rcases he with he | he <;> omega) | (have := (HO149).own_lt he0; omega) | (have := zo_HO149 _ he0; omega) | (have := (HO149).own_lt he0; rcases hi with hi | hi <;> omega))
   replace HSr := (HSr.keep k108 dj1).keep k154 (by intro i _ hi he; have he0 := he; (try dsimp only [NoK, AllB] at hi he); (try simp only [Value.ownBlock, Option.some.injEq] at he); first | exact hi.elim | exact he.elim | omega | (rcases hi with hi | hi <;> omega) | (rcases he with he | he <;> omega) | (have := (HO149).own_lt he0; omega) | (have := zo_HO149 _ he0; omega) | (have := (HO149).own_lt he0; rcases hi with hi | hi <;> omega))
   replace HSm := (HSm.keep k108 dj1).keep k154 (by intro i _ hi he; have he0 := he; (try dsimp only [NoK, AllB] at hi he); (try simp only [Value.ownBlock, Option.some.injEq] at he); first | exact hi.elim | exact he.elim | omega | (rcases hi with hi | hi <;> omega) | (rcases he with he | he <;> omega) | (have := (HO149).own_lt he0; omega) | (have := zo_HO149 _ he0; omega) | (have := (HO149).own_lt he0; rcases hi with hi | hi <;> omega))
   replace HGv := (HGv.keep k108 dj1).keep k154 (by intro i _ hi he; have he0 := he; (try dsimp only [NoK, AllB] at hi he); (try simp only [Value.ownBlock, Option.some.injEq] at he); first | exact hi.elim | exact he.elim | omega | (rcases hi with hi | hi <;> omega) | (rcases he with he | he <;> omega) | (have := (HO149).own_lt he0; omega) | (have := zo_HO149 _ he0; omega) | (have := (HO149).own_lt he0; rcases hi with hi | hi <;> omega))
   replace HSvf := (HSvf.keep k108 dj1).keep k154 (by intro i _ hi he; have he0 := he; (try dsimp only [NoK, AllB] at hi he); (try simp only [Value.ownBlock, Option.some.injEq] at he); first | exact hi.elim | exact he.elim | omega | (rcases hi with hi | hi <;> omega) | (rcases he with he | he <;> omega) | (have := (HO149).own_lt he0; omega) | (have := zo_HO149 _ he0; omega) | (have := (HO149).own_lt he0; rcases hi with hi | hi <;> omega))
   replace HB2 := (HB2.keep k108 dj4).keep k154 (by intro h; have he0 := h; (try dsimp only at h); (try simp only [Value.ownBlock, Option.some.injEq] at h); first | omega | (have := (HO149).own_lt he0; omega) | (have := zo_HO149 _ he0; omega))
   replace HB3 := (HB3.keep k108 dj4).keep k154 (by intro h; have he0 := h; (try dsimp only at h); (try simp only [Value.ownBlock, Option.some.injEq] at h); first | omega | (have := (HO149).own_lt he0; omega) | (have := zo_HO149 _ he0; omega))
   replace HB4 := (HB4.keep k108 dj4).keep k154 (by intro h; have he0 := h; (try dsimp only at h); (try simp only [Value.ownBlock, Option.some.injEq] at h); first | omega | (have := (HO149).own_lt he0; omega) | (have := zo_HO149 _ he0; omega))
   replace HS7 := (HS7.keep k108 dj1).keep k154 (by intro i _ hi he; have he0 := he; (try dsimp only [NoK, AllB] at hi he); (try simp only [Value.ownBlock, Option.some.injEq] at he); first | exact hi.elim | exact he.elim | omega | (rcases hi with hi | hi <;> omega) | (rcases he with he | he <;> omega) | (have := (HO149).own_lt he0; omega) | (have := zo_HO149 _ he0; omega) | (have := (HO149).own_lt he0; rcases hi with hi | hi <;> omega))
   replace HS6 := HS6.keep k154 (by intro i _ hi he; have he0 := he; (try dsimp only [NoK, AllB] at hi he); (try simp only [Value.ownBlock, Option.some.injEq] at he); first | exact hi.elim | exact he.elim | omega | (rcases hi with hi | hi <;> omega) | (rcases he with he | he <;> omega) | (have := (HO149).own_lt he0; omega) | (have := zo_HO149 _ he0; omega) | (have := (HO149).own_lt he0; rcases hi with hi | hi <;> omega))
   obtain ⟨n8, hn8⟩ : ∃ n, n = w154.heap.size := ⟨_, rfl⟩
   have HSz := HO154.view.mono (F' := fun b => b < w.heap.size ∨ (n5 ≤ b ∧ b < n8)) fun b hb h => h.elim (fun h => .inr zo) fun h => h.elim .inl fun h => .inr zo
   obtain ⟨qg, csg, hqg, hFg, hqgb, HPg, ⟨rfl, hwg⟩⟩ := HS7.el (k := a) (x := ra.2.2.2) (by rw [List.getElem?_map, hra]; rfl)
   subst hqg
   refine l_v (zaS rfl) (l_nil (n_then (c_seq (wp_any zk ?_))))
   have e109 : Ext w154 { w154 with drawn := w154.drawn + 1 } := Keep.drawn _ _
   generalize hw109 : ({ w154 with drawn := w154.drawn + 1 } : World) = w109 at e109 ⊢
   clear hw109
   have := e109.size
   refine r_cut 16 rfl zd zd zd ?_
   refine wp_regJW (fun k => w109.heap.size ≤ k) (EqJ [] (ChainJ (tInt .i64) (3) w109.heap.size (w109.heap.size) (fun b => b < w.heap.size ∨ n5 ≤ b) (fun b => b < w.heap.size ∨ n5 ≤ b) (.slice none 0 0 : Value) ([]) [5, 11] [none, some 10] [(rs.map (·.2.2.2)).take (a + 1), [ra.2.2.2]])) zd zd (fun vals done hd => EqJ.start (ChainJ.start (OwV.nil _ _ _ _ _) (Nat.le_refl _) (Nat.le_refl _) (fun i hi => hd i (dOf_lt zq hi))) (fun k j hq => hd k (dQ_lt zq k j hq))) ?_
   refine rj_v (EqJ.on ChainJ.on) zq (fun done vals w hR hJ hdn hd => zmS rfl) ?_
   refine rj_v (EqJ.on ChainJ.on) zq (fun done vals w hR hJ hdn hd => zmS rfl) ?_
   refine rj_v (EqJ.on ChainJ.on) zq (fun done vals w hR hJ hdn hd => zmI rfl) ?_
   refine rj_v (EqJ.on ChainJ.on) zq (fun done vals w hR hJ hdn hd => v_add (hd 2 rfl) rfl (by first | exact wr_i64 zo zo | rfl)) ?_
   refine rj_v (EqJ.on ChainJ.on) zq (fun done vals w hR hJ hdn hd => v_slice (et := 3) (sz := 1) (l := 0) (h := a + 1) zk zk (hd 1 rfl) rfl ⟨.i64, ((hd 3 rfl)).trans (congrArg (Value.int _) zo)⟩ zo zo) ?_
   replace E := E.trans e109.keep
   replace HG1 := HG1.ext e109
   replace HSk := HSk.ext e109
   replace HGm := HGm.ext e109
   replace HSr := HSr.ext e109
   replace HSm := HSm.ext e109
   replace HGv := HGv.ext e109
   replace HSvf := HSvf.ext e109
   replace HB2 := HB2.ext e109
   replace HB3 := HB3.ext e109
   replace HB4 := HB4.ext e109
   replace HS6 := HS6.ext e109
   replace HS7 := HS7.ext e109
   replace HSz := HSz.ext e109
   replace HPg := HPg.ext e109
   refine rj_d (fun done vals w hR hcl hdk hJ hdn hd => by
     have := hR.size
     obtain ⟨hacc, hown, hsrc⟩ := hJ.1.at (n := 0) rfl hdk (fun m h => by cases h)
     exact to_append (et := 3) (bytes := 8) zk (hd 0 rfl) hacc (hd 4 rfl) ((HS7.keep hR dj2).sub (l := 0) (h := a + 1) zo (by simp; omega)) (fun cs x h => h) (by (simp; omega)) (by simp only [maxLen]; (simp; omega)) zo (fun a n cc w1 o hn kk ho _ => ⟨kk.mono (fun b _ h => (hown b h).resolve_left (fun h => by cases h)), hJ.step hdk zq (hJ.1.app (n := 0) rfl hdk (fun m h => by cases h) rfl (once_as zq) (ps_ne zq) o kk ho)⟩)) ?_
   refine rj_v (EqJ.on ChainJ.on) zq (fun done vals w hR hJ hdn hd => zmS rfl) ?_
   refine rj_v (EqJ.on ChainJ.on) zq (fun done vals w hR hJ hdn hd => zmI rfl) ?_
   refine rj_v (EqJ.on ChainJ.on) zq (fun done vals w hR hJ hdn hd => v_indexAddr (et := 3) (sz := 1) (k := a) zk zk (hd 6 rfl) (hd 7 rfl) (by first | rfl | omega) (by simpa using hal)) ?_
   refine rj_v (EqJ.on ChainJ.on) zq (fun done vals w hR hJ hdn hd => v_load zk (hd 8 rfl) (by first | exact pv_1 (HPg.keep hR (by intro h; (try dsimp only at h); (try simp only [add_block] at h); first | omega)) | exact (HB4.keep hR dj4).cell rfl | exact (HB3.keep hR dj4).cell rfl | exact (HB2.keep hR dj4).cell rfl | assumption)) ?_
   refine rj_d (fun done vals w hR hcl hdk hJ hdn hd => by
     have := hR.size
     exact to_slice1 (t := tInt .i64) (et := 3) (bytes := 8) zk zq (hd 9 rfl) ((show (tInt .i64).rep _ (fun b => b < nw) _ _ from ⟨rfl, hwg⟩)) (fun b w1 hb HO e z => ⟨Ext.keep e, hJ.step hdk zq (hJ.1.prodO (n := 1) e rfl rfl (once_ps zq) zq (HO.view.mono fun b' hb' hF => by rcases hF with hF | hF; exact ⟨by first | trivial | omega | (dsimp only; omega), .inl zo⟩; (have h5 := hF.1; (try dsimp only at h5); exact ⟨by first | trivial | omega | (dsimp only; omega), .inr ⟨by omega, by simp [Value.ownBlock]⟩⟩)))⟩)) ?_
   refine rj_d (fun done vals w hR hcl hdk hJ hdn hd => by
     have := hR.size
     obtain ⟨hacc, hown, hsrc⟩ := hJ.1.at (n := 1) rfl hdk (fun m h => ⟨5, by cases h; rfl, hdn 5 rfl⟩)
     exact to_append (et := 3) (bytes := 8) zk rfl hacc rfl (hsrc _ _ rfl rfl (hdn 10 rfl)) (fun cs x h => Ty.mono _ h (fun b _ h => ⟨h.1, h.2.1⟩)) (by (simp; omega)) (by simp only [maxLen]; (simp; omega)) zo (fun a n cc w1 o hn kk ho _ => ⟨kk.mono (fun b _ h => (hown b h).resolve_left (fun h => by cases h)), hJ.step hdk zq (hJ.1.app (n := 1) rfl hdk (fun m h => ⟨5, by cases h; rfl, hdn 5 rfl⟩) rfl (once_as zq) (ps_ne zq) o kk ho)⟩)) ?_
   refine rj_v (EqJ.on ChainJ.on) zq (fun done vals w hR hJ hdn hd => zmS rfl) ?_
   refine rj_v (EqJ.on ChainJ.on) zq (fun done vals w hR hJ hdn hd => zmI rfl) ?_
   refine rj_v (EqJ.on ChainJ.on) zq (fun done vals w hR hJ hdn hd => v_add (hd 13 rfl) rfl (by first | exact wr_i64 zo zo | rfl)) ?_
   refine rj_v (EqJ.on ChainJ.on) zq (fun done vals w hR hJ hdn hd => v_slice (et := 3) (sz := 1) (l := a + 1) (h := rs.length) zk zk (hd 12 rfl) ⟨.i64, ((hd 14 rfl)).trans (congrArg (Value.int _) zo)⟩ rfl zo zo) ?_
   refine rj_nil (fun vals w110 k110 J110 => ?_)
   rintro _ _ rfl _ _ rfl _ _ rfl _ _ rfl _ _ rfl _ rfl - _ _ rfl _ _ rfl _ _ rfl _ _ rfl _ rfl - v166 hv166 - _ _ rfl _ _ rfl _ _ rfl _ _ rfl
   have := k110.size
   have HO166 : OwV (tInt .i64) (3) w110 (w109.heap.size) (fun b => b < w.heap.size ∨ n5 ≤ b) v166 ((rs.map (·.2.2.2)).take (a + 1) ++ [ra.2.2.2]) := by
    have h := J110.1.fin (by exact Nat.le_refl _)
    have h2 : [] ++ ([(rs.map (·.2.2.2)).take (a + 1), [ra.2.2.2]]).flatten = (rs.map (·.2.2.2)).take (a + 1) ++ [ra.2.2.2] := by simp
    rw [h2] at h; rw [hv166]; exact h
   clear hv166
   obtain ⟨a166, c166, rfl⟩ := HO166.shape
   have zo_HO166 := fun (b : Nat) h => HO166.own_lt (b := b) h
   refine fin_nilJ (n_then (r_cut 1 rfl zd zd zd ?_))
   refine r_one zd rfl ?_
   replace HS7 := HS7.keep k110 dj1
   refine l_to (to_append (et := 3) (bytes := 8) zk (zvS rfl) HO166 (zvS rfl) (HS7.sub (l := a + 1) (h := rs.length) zo (by simp)) ((fun cs x h => h)) (by first | omega | (simp; done) | (simp; omega)) (by simp only [maxLen]; first | omega | (simp; done) | (simp; omega)) zo ?_)
   rintro a171 n171 c171 w171 HO171 hn171 k171 ho171 hz171
   have := k171.size
   rw [show ((rs.map (·.2.2.2))).take rs.length = (rs.map (·.2.2.2)) from List.take_of_length_le (by simp)] at HO171
   have zo_HO171 := fun (b : Nat) h => HO171.own_lt (b := b) h
   refine l_nil (n_then (r_one zd rfl ?_))
   replace HB2 := (HB2.keep k110 dj4).keep k171 (by intro h; have he0 := h; (try dsimp only at h); (try simp only [Value.ownBlock, Option.some.injEq] at h); first | omega | (have := (HO166).own_lt he0; omega) | (have := zo_HO166 _ he0; omega))
   replace HB3 := (HB3.keep k110 dj4).keep k171 (by intro h; have he0 := h; (try dsimp only at h); (try simp only [Value.ownBlock, Option.some.injEq] at h); first | omega | (have := (HO166).own_lt he0; omega) | (have := zo_HO166 _ he0; omega))
   replace HB4 := (HB4.keep k110 dj4).keep k171 (by intro h; have he0 := h; (try dsimp only at h); (try simp only [Value.ownBlock, Option.some.injEq] at h); first | omega | (have := (HO166).own_lt he0; omega) | (have := zo_HO166 _ he0; omega))
   refine l_v (zaS rfl) (l_nil (n_then (wp_reg zd (l_v (v_fieldAddr (off := 0) (ft := 24) zk rfl) (l_v (v_fieldAddr (off := 0) (ft := 2) zk rfl) (l_v (v_load zk rfl (by first | exact HB4.pv 0 _ rfl | exact HB3.pv 0 _ rfl | exact HB2.pv 0 _ rfl | assumption)) ?_))))))
   refine l_v (v_add rfl rfl (by first | exact wr_i64 zo zo | rfl)) ?_
   replace HSz := (HSz.keep k110 dj1).keep k171 (by intro i _ hi he; have he0 := he; (try dsimp only [NoK, AllB] at hi he); (try simp only [Value.ownBlock, Option.some.injEq] at he); first | exact hi.elim | exact he.elim | omega | (rcases hi with hi | hi <;> omega) | (rcases he with he | he <;> omega) | (have := (HO166).own_lt he0; omega) | (have := zo_HO166 _ he0; omega) | (have := (HO166).own_lt he0; rcases hi with hi | hi <;> omega))
   refine l_v (zmS rfl) (l_v (zmS rfl) (l_to (to_f3 zk (zvI rfl) (zvS rfl) (zvS rfl) (CallsR.mono (rMap_c (F := fun b => b < w.heap.size ∨ n5 ≤ b) (HSz.mono fun b _ h => h.elim .inl fun h => .inr h.1) (HO171.view.mono fun b _ h => h.elim (fun h => .inr zo) fun h => h) ⟨by omega, by omega⟩ (by simp; (try omega)) (by simp; (try omega))) ?_))))
   replace E := (E.step k110 dj3).step k171 (by intro i hi he; have he0 := he; (try dsimp only [NoK] at hi he ⊢); (try simp only [Value.ownBlock, Option.some.injEq] at he); first | exact he.elim | omega | exact he | (have := (HO166).own_lt he0; omega) | (have := zo_HO166 _ he0; omega) | (have := (HO166).own_lt he0; rcases hi with hi | hi <;> omega))
   replace HG1 := (HG1.keep k110 dj1).keep k171 (by intro i _ hi he; have he0 := he; (try dsimp only [NoK, AllB] at hi he); (try simp only [Value.ownBlock, Option.some.injEq] at he); first | exact hi.elim | exact he.elim | omega | (rcases hi with hi | hi <;> omega) | (rcases he with he | he <;> omega) | (have := (HO166).own_lt he0; omega) | (have := zo_HO166 _ he0; omega) | (have := (HO166).own_lt he0; rcases hi with hi | hi <;> omega))
   replace HSk := (HSk.keep k110 dj1).keep k171 (by intro i _ hi he; have he0 := he; (try dsimp only [NoK, AllB] at hi he); (try simp only [Value.ownBlock, Option.some.injEq] at he); first | exact hi.elim | exact he.elim | omega | (rcases hi with hi | hi <;> omega) | (rcases he with he | he <;> omega) | (have := (HO166).own_lt he0; omega) | (have := zo_HO166 _ he0; omega) | (have := (HO166).own_lt he0; rcases hi with hi | hi <;> omega))
   replace HGm := (HGm.keep k110 dj1).keep k171 (by intro i _ hi he; have he0 := he; (try dsimp only [NoK, AllB] at hi he); (try simp only [Value.ownBlock, Option.some.injEq] at he); first | exact hi.elim | exact he.elim | omega | (rcases hi with hi | hi <;> omega) | (rcases he with he | he <;> omega) | (have := (HO166).own_lt he0; omega) | (have := zo_HO166 _ he0; omega) | (have := (HO166).own_lt he0; rcases hi with hi | hi <;> omega))
   replace HSr := (HSr.keep k110 dj1).keep k171 (by intro i _ hi he; have he0 := he; (try dsimp only [NoK, AllB] at hi he); (try simp only [Value.ownBlock, Option.some.injEq] at he); first | exact hi.elim | exact he.elim | omega | (rcases hi with hi | hi <;> omega) | (rcases he with he | he <;> omega) | (have := (HO166).own_lt he0; omega) | (have := zo_HO166 _ he0; omega) | (have := (HO166).own_lt he0; rcases hi with hi | hi <;> omega))
   replace HSm := (HSm.keep k110 dj1).keep k171 (by intro i _ hi he; have he0 := he; (try dsimp only [NoK, AllB] at hi he); (try simp only [Value.ownBlock, Option.some.injEq] at he); first | exact hi.elim | exact he.elim | omega | (rcases hi with hi | hi <;> omega) | (rcases he with he | he <;> omega) | (have := (HO166).own_lt he0; omega) | (have := zo_HO166 _ he0; omega) | (have := (HO166).own_lt he0; rcases hi with hi | hi <;> omega))
   replace HGv := (HGv.keep k110 dj1).keep k171 (by intro i _ hi he; have he0 := he; (try dsimp only [NoK, AllB] at hi he); (try simp only [Value.ownBlock, Option.some.injEq] at he); first | exact hi.elim | exact he.elim | omega | (rcases hi with hi | hi <;> omega) | (rcases he with he | he <;> omega) | (have := (HO166).own_lt he0; omega) | (have := zo_HO166 _ he0; omega) | (have := (HO166).own_lt he0; rcases hi with hi | hi <;> omega))
   replace HSvf := (HSvf.keep k110 dj1).keep k171 (by intro i _ hi he; have he0 := he; (try dsimp only [NoK, AllB] at hi he); (try simp only [Value.ownBlock, Option.some.injEq] at he); first | exact hi.elim | exact he.elim | omega | (rcases hi with hi | hi <;> omega) | (rcases he with he | he <;> omega) | (have := (HO166).own_lt he0; omega) | (have := zo_HO166 _ he0; omega) | (have := (HO166).own_lt he0; rcases hi with hi | hi <;> omega))
   replace HS6 := (HS6.keep k110 dj1).keep k171 (by intro i _ hi he; have he0 := he; (try dsimp only [NoK, AllB] at hi he); (try simp only [Value.ownBlock, Option.some.injEq] at he); first | exact hi.elim | exact he.elim | omega | (rcases hi with hi | hi <;> omega) | (rcases he with he | he <;> omega) | (have := (HO166).own_lt he0; omega) | (have := zo_HO166 _ he0; omega) | (have := (HO166).own_lt he0; rcases hi with hi | hi <;> omega))
   replace HPg := (HPg.keep k110 (by intro h; (try dsimp only at h); (try simp only [add_block] at h); first | omega)).keep k171 (by intro h; have he0 := h; (try dsimp only at h); (try simp only [Value.ownBlock, Option.some.injEq] at h); (try simp only [add_block] at h); (try simp only [add_block] at he0); first | omega | (have := (HO166).own_lt he0; omega) | (have := zo_HO166 _ he0; omega))
   replace HS7 := HS7.keep k171 (by intro i _ hi he; have he0 := he; (try dsimp only [NoK, AllB] at hi he); (try simp only [Value.ownBlock, Option.some.injEq] at he); first | exact hi.elim | exact he.elim | omega | (rcases hi with hi | hi <;> omega) | (rcases he with he | he <;> omega) | (have := (HO166).own_lt he0; omega) | (have := zo_HO166 _ he0; omega) | (have := (HO166).own_lt he0; rcases hi with hi | hi <;> omega))
   rintro _ w60 ⟨HG9, e60⟩
   have := e60.size
   obtain ⟨a9, c9, rfl, HS9, he9⟩ := HG9.mp
   simp only at HS9 he9
   replace HS9 := HS9.mono (F' := fun b => b < w.heap.size ∨ n5 ≤ b) fun b _ h => h.elim (fun h => h) fun h => .inr zo
   have hst := hrx
   replace HB2 := HB2.ext e60
   refine l_v (v_fieldAddr (off := 0) (ft := 24) zk rfl) (l_to (to_storeA (n := 2) rfl rfl (zvA rfl) zk rfl dj6 HB2 dj5 ?_))
   rintro w111 HX111 k111 z111
   have := k111.size
   replace HB2 := HX111
   clear HX111
   try simp only [zS, Nat.zero_add, Nat.reduceAdd, List.drop_nil] at HB2
   refine l_nil (n_blk (n_then (⟨_, rfl, ?_⟩)))
   replace E := (E.trans e60.keep).step k111 dj3
   replace HSm := (HSm.ext e60).keep k111 dj1
   replace HB4 := (HB4.ext e60).keep k111 dj4
   replace HS9 := HS9.keep k111 dj1
   exact ⟨⟨rfl, rfl, trivial⟩, E, HB4, _, _, _, hst, HB2, he9, im, HS9.mono fun q _ h => ⟨trivial, by rcases h with h | h <;> omega⟩, HSm.mono fun q _ h => ⟨trivial, by omega⟩⟩
  refine c_seq (wp_reg zd (l_v (v_eql rfl rfl) ?_))
  refine l_v (zaB rfl) (l_nil (n_then (c_cond rfl rfl (fun h7 => ?_) (fun h7 => ?_))))
  ·
   have hk : k = 7 := dtrue h7
   refine c_seq (wp_reg zd (l_v (v_fieldAddr (off := 0) (ft := 24) zk rfl) (l_v (v_loadA zk rfl (by first | exact (show Pv _ _ [_, _] from pv_sub 0 2 HB4.pv) | exact (show Pv _ _ [_, _] from pv_sub 0 2 HB3.pv) | exact (show Pv _ _ [_, _] from pv_sub 0 2 HB2.pv) | exact pv_at 0 HB4.pv | exact pv_at 0 HB3.pv | exact pv_at 0 HB2.pv | assumption) rfl) ?_)))
   refine l_v (v_fieldAddr (off := 18) (ft := 33) zk rfl) (l_v (v_load zk rfl (by first | exact HB4.pv 18 _ rfl | exact HB3.pv 18 _ rfl | exact HB2.pv 18 _ rfl | assumption)) ?_)
   refine l_to (to_f2 zk (zvA rfl) (zvS rfl) (CallsR.mono (rBegins_c HGm HSk) ?_))
   rintro _ w112 ⟨rfl, e112⟩
   have := e112.size
   refine l_v (zaI rfl) (l_nil (n_then (c_seq (c_block (c_seq (wp_reg zd (l_v (zmI rfl) (l_v (v_lss rfl rfl) ?_))))))))
   replace E := E.trans e112.keep
   replace HG1 := HG1.ext e112
   replace HSk := HSk.ext e112
   replace HGm := HGm.ext e112
   replace HSr := HSr.ext e112
   replace HSm := HSm.ext e112
   replace HGv := HGv.ext e112
   replace HSvf := HSvf.ext e112
   replace HB2 := HB2.ext e112
   replace HB3 := HB3.ext e112
   replace HB4 := HB4.ext e112
   replace HO6 := HO6.ext e112
   replace HO7 := HO7.ext e112
   refine l_v (zaB rfl) (l_nil (n_then (c_cond rfl rfl (fun h187 => ?_) (fun h187 => ?_))))
   ·
    refine c_seq (wp_reg zd (l_v (v_loadA zk rfl (by first | exact HB4.pv | exact HB3.pv | exact HB2.pv | assumption) rfl) ?_))
    refine l_to (to_storeA (n := 4) rfl rfl (zvA rfl) zk rfl dj6 HB4 dj5 ?_)
    rintro w113 HX113 k113 z113
    have := k113.size
    replace HB4 := HX113
    clear HX113
    try simp only [zS, Nat.zero_add, Nat.reduceAdd, List.drop_nil] at HB4
    refine l_v (v_assign rfl) (l_nil (n_then (c_ret (r_blk (r_then (r_blk (r_then (ret2cv (n := 4) rfl zq zq rfl zk HB4.pv rfl (zvI rfl) ?_))))))))
    have hq : (rDoMt ((e0, rs), n, ms) (k, rq, mv, en, an, key, g)) = (((e0, rs), n, ms), 6) := by (unfold rDoMt; simp only []; rw [if_neg zo, if_pos hk]; rcases hb : begI rs key with _ | _ | i; rfl; rfl; (have h9 := dtrue h187; rw [hb] at h9; have h8 : ((i + 1 : Nat) : Int) < 1 := h9; omega))
    rw [hq]
    replace E := E.step k113 dj3
    replace HG1 := HG1.keep k113 dj1
    exact ⟨⟨_, rfl, HG1.mono fun _ _ _ => trivial⟩, E⟩
   obtain ⟨i, hi⟩ : ∃ i, begI rs key = some (i + 1) := by
    rcases hb : begI rs key with _ | _ | i
    ·
     rw [hb] at h187; simp [optI] at h187
    ·
     rw [hb] at h187; simp [optI] at h187
    exact ⟨i, rfl⟩
   obtain ⟨hil, _⟩ := begI_some hi
   have hoi : optI (some (i + 1)) = ((i + 1 : Nat) : Int) := rfl
   have hwr1 : IntKind.i64.wrap (((i + 1 : Nat) : Int) - 1) = (i : Int) := by rw [wr_i64 zo zo]; omega
   rw [hi, hoi]
   obtain ⟨r1, hr1, _⟩ := getE (l := rs) (i := i + 1) hil
   obtain ⟨r0, hr0, _⟩ := getE (l := rs) (i := i) zo
   have hd1 : rs.getD (i + 1) rg0 = r1 := by simp [hr1]
   have hd0 : rs.getD i rg0 = r0 := by simp [hr0]
   have hrx : (rDoMt ((e0, rs), n, ms) (k, rq, mv, en, an, key, g)) = if (mvgB ms key || mvgB ms r0.1 || !decide (r1.2.2.2 = r0.2.2.2)) = true then (((e0, rs), n, ms), 9) else if e0 = 2147483647 then (((e0, rs), n, ms), 5) else (((e0 + 1, bldR ((rs.map (·.1)).take (i + 1) ++ (rs.map (·.1)).drop (i + 1 + 1)) ((rs.map (·.2.2.2)).take (i + 1) ++ (rs.map (·.2.2.2)).drop (i + 1 + 1))), n, ms), 0) := by unfold rDoMt; simp only []; rw [if_neg zo, if_pos hk]; simp only [hi, hd1, hd0]
   obtain ⟨n6, hn6⟩ : ∃ n, n = w112.heap.size := ⟨_, rfl⟩
   have HS6 := HO6.view.mono (F' := fun b => b < w.heap.size ∨ (n5 ≤ b ∧ b < n6)) fun b hb h => h.elim (fun h => .inr zo) fun h => h.elim .inl fun h => .inr zo
   have HS7 := HO7.view.mono (F' := fun b => b < w.heap.size ∨ (n5 ≤ b ∧ b < n6)) fun b hb h => h.elim (fun h => .inr zo) fun h => h.elim
   have hc6 : rs.length ≤ c6 := by obtain ⟨_, _, hv, hcl, _⟩ := HS6; simp only [Value.slice.injEq] at hv; obtain ⟨_, _, rfl⟩ := hv; simpa using hcl
   have hc7 : rs.length ≤ c7 := by obtain ⟨_, _, hv, hcl, _⟩ := HS7; simp only [Value.slice.injEq] at hv; obtain ⟨_, _, rfl⟩ := hv; simpa using hcl
   obtain ⟨qa, csa, hqa, hFa, hqb, HPa, ⟨va, rfl, HSa⟩⟩ := HS6.el (k := i) (x := r0.1) (by rw [List.getElem?_map, hr0]; rfl)
   subst hqa
   obtain ⟨y5, f5, rfl⟩ := HSa.shape
   obtain ⟨qg, csg, hqg, hFg, hqgb, HPg, ⟨rfl, hwg⟩⟩ := HS7.el (k := i) (x := r0.2.2.2) (by rw [List.getElem?_map, hr0]; rfl)
   subst hqg
   obtain ⟨qh, csh, hqh, hFh, hqhb, HPh, ⟨rfl, hwh⟩⟩ := HS7.el (k := i + 1) (x := r1.2.2.2) (by rw [List.getElem?_map, hr1]; rfl)
   cases hqh
   refine c_seq (wp_regd (NoK) zk zd zd ?_)
   refine rt_v (fun vals w hR hd => v_loadA zk rfl (by first | exact (HPh.ext hR) | exact (HPg.ext hR) | exact (HPa.ext hR) | exact (HB4.ext hR).pv | exact (HB3.ext hR).pv | exact (HB2.ext hR).pv | assumption) rfl) ?_
   refine rt_v (fun vals w hR hd => v_fieldAddr (off := 18) (ft := 33) zk rfl) ?_
   refine rt_v (fun vals w hR hd => v_load zk (hd 1 rfl) (by first | exact (HPh.ext hR) 18 _ rfl | exact pv_1 (HPh.ext hR) | exact (HPg.ext hR) 18 _ rfl | exact pv_1 (HPg.ext hR) | exact (HPa.ext hR) 18 _ rfl | exact pv_1 (HPa.ext hR) | exact (HB4.ext hR).pv 18 _ rfl | exact (HB3.ext hR).pv 18 _ rfl | exact (HB2.ext hR).pv 18 _ rfl | assumption)) ?_
   refine rt_vf (fun vals w hR hd => to_f2 zk (hd 0 rfl) (hd 2 rfl) (rMoving_c (HG1.ext hR) (HSk.ext hR))) ?_
   refine rt_v (fun vals w hR hd => v_move (t := .bool _) (hd 3 rfl)) ?_
   refine rt_g1 rfl (fun vals w hd => hd 4 rfl) (fun vals w hR hd hG => v_loadA zk rfl (by first | exact (HPh.ext hR) | exact (HPg.ext hR) | exact (HPa.ext hR) | exact (HB4.ext hR).pv | exact (HB3.ext hR).pv | exact (HB2.ext hR).pv | assumption) rfl) ?_
   refine rt_g1 rfl (fun vals w hd => hd 4 rfl) (fun vals w hR hd hG => zmS rfl) ?_
   refine rt_g1 rfl (fun vals w hd => hd 4 rfl) (fun vals w hR hd hG => zmI rfl) ?_
   refine rt_g1 rfl (fun vals w hd => hd 4 rfl) (fun vals w hR hd hG => v_sub (gd hG (hd 7 rfl)) rfl (by first | exact wr_i64 zo zo | rfl)) ?_
   refine rt_g1 rfl (fun vals w hd => hd 4 rfl) (fun vals w hR hd hG => v_indexAddr (et := 33) (sz := 1) (k := i) zk zk (gd hG (hd 6 rfl)) (gd hG (hd 8 rfl)) (by (first|exact hwr1|omega|(have := hwr1; exact this))) zo) ?_
   refine rt_g1 rfl (fun vals w hd => hd 4 rfl) (fun vals w hR hd hG => v_load zk (gd hG (hd 9 rfl)) (by first | exact pv_1 (HPh.ext hR) | exact pv_1 (HPg.ext hR) | exact pv_1 (HPa.ext hR) | exact (HB4.ext hR).cell rfl | exact (HB3.ext hR).cell rfl | exact (HB2.ext hR).cell rfl | assumption)) ?_
   refine rt_g1f rfl (fun vals w hd => hd 4 rfl) (fun vals w hR hd hG => to_f2 zk (gd hG (hd 5 rfl)) (gd hG (hd 10 rfl)) (rMoving_c (HG1.ext hR) (HSa.ext hR))) ?_
   refine rt_v (fun vals w hR hd => v_or (hd 4 rfl) (hd 11 rfl)) ?_
   refine rt_v (fun vals w hR hd => v_move (t := .bool _) (hd 12 rfl)) ?_
   refine rt_g1 rfl (fun vals w hd => hd 13 rfl) (fun vals w hR hd hG => zmS rfl) ?_
   refine rt_g1 rfl (fun vals w hd => hd 13 rfl) (fun vals w hR hd hG => zmI rfl) ?_
   refine rt_g1 rfl (fun vals w hd => hd 13 rfl) (fun vals w hR hd hG => v_indexAddr (et := 3) (sz := 1) (k := i + 1) zk zk (gd hG (hd 14 rfl)) (gd hG (hd 15 rfl)) (by first | rfl | omega) zo) ?_
   refine rt_g1 rfl (fun vals w hd => hd 13 rfl) (fun vals w hR hd hG => v_load zk (gd hG (hd 16 rfl)) (by first | exact pv_1 (HPh.ext hR) | exact pv_1 (HPg.ext hR) | exact pv_1 (HPa.ext hR) | exact (HB4.ext hR).cell rfl | exact (HB3.ext hR).cell rfl | exact (HB2.ext hR).cell rfl | assumption)) ?_
   refine rt_g1 rfl (fun vals w hd => hd 13 rfl) (fun vals w hR hd hG => zmS rfl) ?_
   refine rt_g1 rfl (fun vals w hd => hd 13 rfl) (fun vals w hR hd hG => zmI rfl) ?_
   refine rt_g1 rfl (fun vals w hd => hd 13 rfl) (fun vals w hR hd hG => v_sub (gd hG (hd 19 rfl)) rfl (by first | exact wr_i64 zo zo | rfl)) ?_
   refine rt_g1 rfl (fun vals w hd => hd 13 rfl) (fun vals w hR hd hG => v_indexAddr (et := 3) (sz := 1) (k := i) zk zk (gd hG (hd 18 rfl)) (gd hG (hd 20 rfl)) (by (first|exact hwr1|omega|(have := hwr1; exact this))) zo) ?_
   refine rt_g1 rfl (fun vals w hd => hd 13 rfl) (fun vals w hR hd hG => v_load zk (gd hG (hd 21 rfl)) (by first | exact pv_1 (HPh.ext hR) | exact pv_1 (HPg.ext hR) | exact pv_1 (HPa.ext hR) | exact (HB4.ext hR).cell rfl | exact (HB3.ext hR).cell rfl | exact (HB2.ext hR).cell rfl | assumption)) ?_
   refine rt_g1 rfl (fun vals w hd => hd 13 rfl) (fun vals w hR hd hG => v_neq (gd hG (hd 17 rfl)) (gd hG (hd 22 rfl))) ?_
   refine rt_v (fun vals w hR hd => v_or (hd 13 rfl) (hd 23 rfl)) ?_
   refine rt_v (fun vals w hR hd => v_assign (t := .bool _) (hd 24 rfl)) ?_
   refine rt_nil (fun w114 e114 => ?_)
   rintro _ rfl _ rfl _ rfl _ rfl _ rfl _ rfl _ rfl _ rfl _ rfl _ rfl _ rfl _ rfl _ rfl _ rfl _ rfl _ rfl _ rfl _ rfl _ rfl _ rfl _ rfl _ rfl _ rfl _ rfl _ rfl _ rfl
   have := e114.size
   replace E := E.trans e114.keep
   replace HG1 := HG1.ext e114
   replace HSk := HSk.ext e114
   replace HGm := HGm.ext e114
   replace HSr := HSr.ext e114
   replace HSm := HSm.ext e114
   replace HGv := HGv.ext e114
   replace HSvf := HSvf.ext e114
   replace HB2 := HB2.ext e114
   replace HB3 := HB3.ext e114
   replace HB4 := HB4.ext e114
   replace HS6 := HS6.ext e114
   replace HS7 := HS7.ext e114
   replace HPa := HPa.ext e114
   replace HSa := HSa.ext e114
   replace HPg := HPg.ext e114
   replace HPh := HPh.ext e114
   refine fin_nil (n_then (c_cond rfl rfl (fun h191 => ?_) (fun h191 => ?_)))
   ·
    refine c_seq (wp_reg zd (l_v (v_loadA zk rfl (by first | exact HPh | exact HPg | exact HPa | exact HB4.pv | exact HB3.pv | exact HB2.pv | assumption) rfl) ?_))
    refine l_to (to_storeA (n := 4) rfl rfl (zvA rfl) zk rfl dj6 HB4 dj5 ?_)
    rintro w115 HX115 k115 z115
    have := k115.size
    replace HB4 := HX115
    clear HX115
    try simp only [zS, Nat.zero_add, Nat.reduceAdd, List.drop_nil] at HB4
    refine l_v (v_assign rfl) (l_nil (n_then (c_ret (r_blk (r_then (r_blk (r_then (ret2cv (n := 4) rfl zq zq rfl zk HB4.pv rfl (zvI rfl) ?_))))))))
    have hq : (rDoMt ((e0, rs), n, ms) (k, rq, mv, en, an, key, g)) = (((e0, rs), n, ms), 9) := by rw [hrx, if_pos (by simpa using h191)]
    rw [hq]
    replace E := E.step k115 dj3
    replace HG1 := HG1.keep k115 dj1
    exact ⟨⟨_, rfl, HG1.mono fun _ _ _ => trivial⟩, E⟩
   rw [if_neg (by rw [Bool.not_eq_true]; simpa using h191)] at hrx
   refine c_seq (wp_reg zd (l_v (v_fieldAddr (off := 0) (ft := 24) zk rfl) (l_v (v_fieldAddr (off := 0) (ft := 2) zk rfl) (l_v (v_load zk rfl (by first | exact HPh 0 _ rfl | exact HPg 0 _ rfl | exact HPa 0 _ rfl | exact HB4.pv 0 _ rfl | exact HB3.pv 0 _ rfl | exact HB2.pv 0 _ rfl | assumption)) ?_))))
   refine l_v (v_eql rfl rfl) ?_
   refine l_v (zaB rfl) (l_nil (n_then (c_cond rfl rfl (fun h218 => ?_) (fun h218 => ?_))))
   ·
    refine c_seq (wp_reg zd (l_v (v_loadA zk rfl (by first | exact HPh | exact HPg | exact HPa | exact HB4.pv | exact HB3.pv | exact HB2.pv | assumption) rfl) ?_))
    refine l_to (to_storeA (n := 4) rfl rfl (zvA rfl) zk rfl dj6 HB4 dj5 ?_)
    rintro w116 HX116 k116 z116
    have := k116.size
    replace HB4 := HX116
    clear HX116
    try simp only [zS, Nat.zero_add, Nat.reduceAdd, List.drop_nil] at HB4
    refine l_v (v_assign rfl) (l_nil (n_then (c_ret (r_blk (r_then (r_blk (r_then (ret2cv (n := 4) rfl zq zq rfl zk HB4.pv rfl (zvI rfl) ?_))))))))
    have hq : (rDoMt ((e0, rs), n, ms) (k, rq, mv, en, an, key, g)) = (((e0, rs), n, ms), 5) := by rw [hrx, if_pos (dtrue h218)]
    rw [hq]
    replace E := E.step k116 dj3
    replace HG1 := HG1.keep k116 dj1
    exact ⟨⟨_, rfl, HG1.mono fun _ _ _ => trivial⟩, E⟩
   rw [if_neg (dfalse h218)] at hrx
   refine c_skip (n_blk (n_then (c_seq (wp_any zk ?_))))
   have e117 : Ext w114 { w114 with drawn := w114.drawn + 1 } := Keep.drawn _ _
   generalize hw117 : ({ w114 with drawn := w114.drawn + 1 } : World) = w117 at e117 ⊢
   clear hw117
   have := e117.size
   refine r_cut 9 rfl zd zd zd ?_
   refine wp_regJW (fun k => w117.heap.size ≤ k) (EqJ [] (ChainJ (tSl tU8) (33) w117.heap.size (w117.heap.size) (fun b => b < w.heap.size ∨ n5 ≤ b) (fun b => b < w.heap.size ∨ n5 ≤ b) (.slice none 0 0 : Value) ([]) [4] [none] [(rs.map (·.1)).take (i + 1)])) zd zd (fun vals done hd => EqJ.start (ChainJ.start (OwV.nil _ _ _ _ _) (Nat.le_refl _) (Nat.le_refl _) (fun i hi => hd i (dOf_lt zq hi))) (fun k j hq => hd k (dQ_lt zq k j hq))) ?_
   refine rj_v (EqJ.on ChainJ.on) zq (fun done vals w hR hJ hdn hd => zmS rfl) ?_
   refine rj_v (EqJ.on ChainJ.on) zq (fun done vals w hR hJ hdn hd => zmS rfl) ?_
   refine rj_v (EqJ.on ChainJ.on) zq (fun done vals w hR hJ hdn hd => zmI rfl) ?_
   refine rj_v (EqJ.on ChainJ.on) zq (fun done vals w hR hJ hdn hd => v_slice (et := 33) (sz := 1) (l := 0) (h := i + 1) zk zk (hd 1 rfl) rfl ⟨.i64, ((hd 2 rfl)).trans (congrArg (Value.int _) zo)⟩ zo zo) ?_
   replace E := E.trans e117.keep
   replace HG1 := HG1.ext e117
   replace HSk := HSk.ext e117
   replace HGm := HGm.ext e117
   replace HSr := HSr.ext e117
   replace HSm := HSm.ext e117
   replace HGv := HGv.ext e117
   replace HSvf := HSvf.ext e117
   replace HB2 := HB2.ext e117
   replace HB3 := HB3.ext e117
   replace HB4 := HB4.ext e117
   replace HS6 := HS6.ext e117
   replace HS7 := HS7.ext e117
   refine rj_d (fun done vals w hR hcl hdk hJ hdn hd => by
     have := hR.size
     obtain ⟨hacc, hown, hsrc⟩ := hJ.1.at (n := 0) rfl hdk (fun m h => by cases h)
     exact to_append (et := 33) (bytes := 24) zk (hd 0 rfl) hacc (hd 3 rfl) ((HS6.keep hR dj2).sub (l := 0) (h := i + 1) zo (by simp; omega)) (fun cs x h => Ty.mono _ h (fun b _ h => ⟨h.elim .inl (fun h => .inr h.1), fun ho => (hown b ho).elim (fun h' => by cases h') (fun h' => h.elim (fun h => by omega) (fun h => by omega))⟩)) (by (simp; omega)) (by simp only [maxLen]; (simp; omega)) zo (fun a n cc w1 o hn kk ho _ => ⟨kk.mono (fun b _ h => (hown b h).resolve_left (fun h => by cases h)), hJ.step hdk zq (hJ.1.app (n := 0) rfl hdk (fun m h => by cases h) rfl (once_as zq) (ps_ne zq) o kk ho)⟩)) ?_
   refine rj_v (EqJ.on ChainJ.on) zq (fun done vals w hR hJ hdn hd => zmS rfl) ?_
   refine rj_v (EqJ.on ChainJ.on) zq (fun done vals w hR hJ hdn hd => zmI rfl) ?_
   refine rj_v (EqJ.on ChainJ.on) zq (fun done vals w hR hJ hdn hd => v_add (hd 6 rfl) rfl (by first | exact wr_i64 zo zo | rfl)) ?_
   refine rj_v (EqJ.on ChainJ.on) zq (fun done vals w hR hJ hdn hd => v_slice (et := 33) (sz := 1) (l := i + 1 + 1) (h := rs.length) zk zk (hd 5 rfl) ⟨.i64, ((hd 7 rfl)).trans (congrArg (Value.int _) zo)⟩ rfl zo zo) ?_
   refine rj_nil (fun vals w118 k118 J118 => ?_)
   rintro _ _ rfl _ _ rfl _ _ rfl _ _ rfl v228 hv228 - _ _ rfl _ _ rfl _ _ rfl _ _ rfl
   have := k118.size
   have HO228 : OwV (tSl tU8) (33) w118 (w117.heap.size) (fun b => b < w.heap.size ∨ n5 ≤ b) v228 ((rs.map (·.1)).take (i + 1)) := by
    have h := J118.1.fin (by exact Nat.le_refl _)
    have h2 : [] ++ ([(rs.map (·.1)).take (i + 1)]).flatten = (rs.map (·.1)).take (i + 1) := by simp
    rw [h2] at h; rw [hv228]; exact h
   clear hv228
   obtain ⟨a228, c228, rfl⟩ := HO228.shape
   have zo_HO228 := fun (b : Nat) h => HO228.own_lt (b := b) h
   refine fin_nilJ (n_then (r_cut 1 rfl zd zd zd ?_))
   refine r_one zd rfl ?_
   replace HS6 := HS6.keep k118 dj1
   refine l_to (to_append (et := 33) (bytes := 24) zk (zvS rfl) HO228 (zvS rfl) (HS6.sub (l := i + 1 + 1) (h := rs.length) zo (by simp)) ((fun cs x h => Ty.mono _ h (fun b hb h => ⟨h.elim .inl (fun h => .inr h.1), fun ho => by have := (HO228).own_lt ho; exact h.elim (fun h => by omega) (fun h => by omega)⟩))) (by first | omega | (simp; done) | (simp; omega)) (by simp only [maxLen]; first | omega | (simp; done) | (simp; omega)) zo ?_)
   rintro a233 n233 c233 w233 HO233 hn233 k233 ho233 hz233
   have := k233.size
   rw [show ((rs.map (·.1))).take rs.length = (rs.map (·.1)) from List.take_of_length_le (by simp)] at HO233
   have zo_HO233 := fun (b : Nat) h => HO233.own_lt (b := b) h
   refine l_nil (n_then (r_one zd rfl ?_))
   replace E := (E.step k118 dj3).step k233 (by intro i hi he; have he0 := he; (try dsimp only [NoK] at hi he ⊢); (try simp only [Value.ownBlock, Option.some.injEq] at he); first | exact he.elim | omega | exact he | (have := (HO228).own_lt he0; omega) | (have := zo_HO228 _ he0; omega) | (have := (HO228).own_lt he0; rcases hi with hi | hi <;> omega))
   replace HG1 := (HG1.keep k118 dj1).keep k233 (by intro i _ hi he; have he0 := he; (try dsimp only [NoK, AllB] at hi he); (try simp only [Value.ownBlock, Option.some.injEq] at he); first | exact hi.elim | exact he.elim | omega | (rcases hi with hi | hi <;> omega) | (rcases he with he | he <;> omega) | (have := (HO228).own_lt he0; omega) | (have := zo_HO228 _ he0; omega) | (have := (HO228).own_lt he0; rcases hi with hi | hi <;> omega))
   replace HSk := (HSk.keep k118 dj1).keep k233 (by intro i _ hi he; have he0 := he; (try dsimp only [NoK, AllB] at hi he); (try simp only [Value.ownBlock, Option.some.injEq] at he); first | exact hi.elim | exact he.elim | omega | (rcases hi with hi | hi <;> omega) | (rcases he with he | he <;> omega) | (have := (HO228).own_lt he0; omega) | (have := zo_HO228 _ he0; omega) | (have := (HO228).own_lt he0; rcases hi with hi | hi <;> omega))
   replace HGm := (HGm.keep k118 dj1).keep k233 (by intro i _ hi he; have he0 := he; (try dsimp only [NoK, AllB] at hi he); (try simp only [Value.ownBlock, Option.some.injEq] at he); first | exact hi.elim | exact he.elim | omega | (rcases hi with hi | hi <;> omega) | (rcases he with he | he <;> omega) | (have := (HO228).own_lt he0; omega) | (have := zo_HO228 _ he0; omega) | (have := (HO228).own_lt he0; rcases hi with hi | hi <;> omega))
   replace HSr := (HSr.keep k118 dj1).keep k233 (by intro i _ hi he; have he0 := he; (try dsimp only [NoK, AllB] at hi he); (try simp only [Value.ownBlock, Option.some.injEq] at he); first | exact hi.elim | exact he.elim | omega | (rcases hi with hi | hi <;> omega) | (rcases he with he | he <;> omega) | (have := (HO228).own_lt he0; omega) | (have := zo_HO228 _ he0; omega) | (have := (HO228).own_lt he0; rcases hi with hi | hi <;> omega))
   replace HSm := (HSm.keep k118 dj1).keep k233 (by intro i _ hi he; have he0 := he; (try dsimp only [NoK, AllB] at hi he); (try simp only [Value.ownBlock, Option.some.injEq] at he); first | exact hi.elim | exact he.elim | omega | (rcases hi with hi | hi <;> omega) | (rcases he with he | he <;> omega) | (have := (HO228).own_lt he0; omega) | (have := zo_HO228 _ he0; omega) | (have := (HO228).own_lt he0; rcases hi with hi | hi <;> omega))
   replace HGv := (HGv.keep k118 dj1).keep k233 (by intro i _ hi he; have he0 := he; (try dsimp only [NoK, AllB] at hi he); (try simp only [Value.ownBlock, Option.some.injEq] at he); first | exact hi.elim | exact he.elim | omega | (rcases hi with hi | hi <;> omega) | (rcases he with he | he <;> omega) | (have := (HO228).own_lt he0; omega) | (have := zo_HO228 _ he0; omega) | (have := (HO228).own_lt he0; rcases hi with hi | hi <;> omega))
   replace HSvf := (HSvf.keep k118 dj1).keep k233 (by intro i _ hi he; have he0 := he; (try dsimp only [NoK, AllB] at hi he); (try simp only [Value.ownBlock, Option.some.injEq] at he); first | exact hi.elim | exact he.elim | omega | (rcases hi with hi | hi <;> omega) | (rcases he with he | he <;> omega) | (have := (HO228).own_lt he0; omega) | (have := zo_HO228 _ he0; omega) | (have := (HO228).own_lt he0; rcases hi with hi | hi <;> omega))
   replace HB2 := (HB2.keep k118 dj4).keep k233 (by intro h; have he0 := h; (try dsimp only at h); (try simp only [Value.ownBlock, Option.some.injEq] at h); first | omega | (have := (HO228).own_lt he0; omega) | (have := zo_HO228 _ he0; omega))
   replace HB3 := (HB3.keep k118 dj4).keep k233 (by intro h; have he0 := h; (try dsimp only at h); (try simp only [Value.ownBlock, Option.some.injEq] at h); first | omega | (have := (HO228).own_lt he0; omega) | (have := zo_HO228 _ he0; omega))
   replace HB4 := (HB4.keep k118 dj4).keep k233 (by intro h; have he0 := h; (try dsimp only at h); (try simp only [Value.ownBlock, Option.some.injEq] at h); first | omega | (have := (HO228).own_lt he0; omega) | (have := zo_HO228 _ he0; omega))
   replace HS7 := (HS7.keep k118 dj1).keep k233 (by intro i _ hi he; have he0 := he; (try dsimp only [NoK, AllB] at hi he); (try simp only [Value.ownBlock, Option.some.injEq] at he); first | exact hi.elim | exact he.elim | omega | (rcases hi with hi | hi <;> omega) | (rcases he with he | he <;> omega) | (have := (HO228).own_lt he0; omega) | (have := zo_HO228 _ he0; omega) | (have := (HO228).own_lt he0; rcases hi with hi | hi <;> omega))
   replace HS6 := HS6.keep k233 (by intro i _ hi he; have he0 := he; (try dsimp only [NoK, AllB] at hi he); (try simp only [Value.ownBlock, Option.some.injEq] at he); first | exact hi.elim | exact he.elim | omega | (rcases hi with hi | hi <;> omega) | (rcases he with he | he <;> omega) | (have := (HO228).own_lt he0; omega) | (have := zo_HO228 _ he0; omega) | (have := (HO228).own_lt he0; rcases hi with hi | hi <;> omega))
   obtain ⟨n8, hn8⟩ : ∃ n, n = w233.heap.size := ⟨_, rfl⟩
   have HSz := HO233.view.mono (F' := fun b => b < w.heap.size ∨ (n5 ≤ b ∧ b < n8)) fun b hb h => h.elim (fun h => .inr zo) fun h => h.elim .inl fun h => .inr zo
   refine l_v (zaS rfl) (l_nil (n_then (c_seq (wp_any zk ?_))))
   have e119 : Ext w233 { w233 with drawn := w233.drawn + 1 } := Keep.drawn _ _
   generalize hw119 : ({ w233 with drawn := w233.drawn + 1 } : World) = w119 at e119 ⊢
   clear hw119
   have := e119.size
   refine r_cut 9 rfl zd zd zd ?_
   refine wp_regJW (fun k => w119.heap.size ≤ k) (EqJ [] (ChainJ (tInt .i64) (3) w119.heap.size (w119.heap.size) (fun b => b < w.heap.size ∨ n5 ≤ b) (fun b => b < w.heap.size ∨ n5 ≤ b) (.slice none 0 0 : Value) ([]) [4] [none] [(rs.map (·.2.2.2)).take (i + 1)])) zd zd (fun vals done hd => EqJ.start (ChainJ.start (OwV.nil _ _ _ _ _) (Nat.le_refl _) (Nat.le_refl _) (fun i hi => hd i (dOf_lt zq hi))) (fun k j hq => hd k (dQ_lt zq k j hq))) ?_
   refine rj_v (EqJ.on ChainJ.on) zq (fun done vals w hR hJ hdn hd => zmS rfl) ?_
   refine rj_v (EqJ.on ChainJ.on) zq (fun done vals w hR hJ hdn hd => zmS rfl) ?_
   refine rj_v (EqJ.on ChainJ.on) zq (fun done vals w hR hJ hdn hd => zmI rfl) ?_
   refine rj_v (EqJ.on ChainJ.on) zq (fun done vals w hR hJ hdn hd => v_slice (et := 3) (sz := 1) (l := 0) (h := i + 1) zk zk (hd 1 rfl) rfl ⟨.i64, ((hd 2 rfl)).trans (congrArg (Value.int _) zo)⟩ zo zo) ?_
   replace E := E.trans e119.keep
   replace HG1 := HG1.ext e119
   replace HSk := HSk.ext e119
   replace HGm := HGm.ext e119
   replace HSr := HSr.ext e119
   replace HSm := HSm.ext e119
   replace HGv := HGv.ext e119
   replace HSvf := HSvf.ext e119
   replace HB2 := HB2.ext e119
   replace HB3 := HB3.ext e119
   replace HB4 := HB4.ext e119
   replace HS6 := HS6.ext e119
   replace HS7 := HS7.ext e119
   replace HSz := HSz.ext e119
   refine rj_d (fun done vals w hR hcl hdk hJ hdn hd => by
     have := hR.size
     obtain ⟨hacc, hown, hsrc⟩ := hJ.1.at (n := 0) rfl hdk (fun m h => by cases h)
     exact to_append (et := 3) (bytes := 8) zk (hd 0 rfl) hacc (hd 3 rfl) ((HS7.keep hR dj2).sub (l := 0) (h := i + 1) zo (by simp; omega)) (fun cs x h => h) (by (simp; omega)) (by simp only [maxLen]; (simp; omega)) zo (fun a n cc w1 o hn kk ho _ => ⟨kk.mono (fun b _ h => (hown b h).resolve_left (fun h => by cases h)), hJ.step hdk zq (hJ.1.app (n := 0) rfl hdk (fun m h => by cases h) rfl (once_as zq) (ps_ne zq) o kk ho)⟩)) ?_
   refine rj_v (EqJ.on ChainJ.on) zq (fun done vals w hR hJ hdn hd => zmS rfl) ?_
   refine rj_v (EqJ.on ChainJ.on) zq (fun done vals w hR hJ hdn hd => zmI rfl) ?_
   refine rj_v (EqJ.on ChainJ.on) zq (fun done vals w hR hJ hdn hd => v_add (hd 6 rfl) rfl (by first | exact wr_i64 zo zo | rfl)) ?_
   refine rj_v (EqJ.on ChainJ.on) zq (fun done vals w hR hJ hdn hd => v_slice (et := 3) (sz := 1) (l := i + 1 + 1) (h := rs.length) zk zk (hd 5 rfl) ⟨.i64, ((hd 7 rfl)).trans (congrArg (Value.int _) zo)⟩ rfl zo zo) ?_
   refine rj_nil (fun vals w120 k120 J120 => ?_)
   rintro _ _ rfl _ _ rfl _ _ rfl _ _ rfl v238 hv238 - _ _ rfl _ _ rfl _ _ rfl _ _ rfl
   have := k120.size
   have HO238 : OwV (tInt .i64) (3) w120 (w119.heap.size) (fun b => b < w.heap.size ∨ n5 ≤ b) v238 ((rs.map (·.2.2.2)).take (i + 1)) := by
    have h := J120.1.fin (by exact Nat.le_refl _)
    have h2 : [] ++ ([(rs.map (·.2.2.2)).take (i + 1)]).flatten = (rs.map (·.2.2.2)).take (i + 1) := by simp
    rw [h2] at h; rw [hv238]; exact h
   clear hv238
   obtain ⟨a238, c238, rfl⟩ := HO238.shape
   have zo_HO238 := fun (b : Nat) h => HO238.own_lt (b := b) h
   refine fin_nilJ (n_then (r_cut 1 rfl zd zd zd ?_))
   refine r_one zd rfl ?_
   replace HS7 := HS7.keep k120 dj1
   refine l_to (to_append (et := 3) (bytes := 8) zk (zvS rfl) HO238 (zvS rfl) (HS7.sub (l := i + 1 + 1) (h := rs.length) zo (by simp)) ((fun cs x h => h)) (by first | omega | (simp; done) | (simp; omega)) (by simp only [maxLen]; first | omega | (simp; done) | (simp; omega)) zo ?_)
   rintro a243 n243 c243 w243 HO243 hn243 k243 ho243 hz243
   have := k243.size
   rw [show ((rs.map (·.2.2.2))).take rs.length = (rs.map (·.2.2.2)) from List.take_of_length_le (by simp)] at HO243
   have zo_HO243 := fun (b : Nat) h => HO243.own_lt (b := b) h
   refine l_nil (n_then (r_one zd rfl ?_))
   replace HB2 := (HB2.keep k120 dj4).keep k243 (by intro h; have he0 := h; (try dsimp only at h); (try simp only [Value.ownBlock, Option.some.injEq] at h); first | omega | (have := (HO238).own_lt he0; omega) | (have := zo_HO238 _ he0; omega))
   replace HB3 := (HB3.keep k120 dj4).keep k243 (by intro h; have he0 := h; (try dsimp only at h); (try simp only [Value.ownBlock, Option.some.injEq] at h); first | omega | (have := (HO238).own_lt he0; omega) | (have := zo_HO238 _ he0; omega))
   replace HB4 := (HB4.keep k120 dj4).keep k243 (by intro h; have he0 := h; (try dsimp only at h); (try simp only [Value.ownBlock, Option.some.injEq] at h); first | omega | (have := (HO238).own_lt he0; omega) | (have := zo_HO238 _ he0; omega))
   refine l_v (zaS rfl) (l_nil (n_then (wp_reg zd (l_v (v_fieldAddr (off := 0) (ft := 24) zk rfl) (l_v (v_fieldAddr (off := 0) (ft := 2) zk rfl) (l_v (v_load zk rfl (by first | exact HB4.pv 0 _ rfl | exact HB3.pv 0 _ rfl | exact HB2.pv 0 _ rfl | assumption)) ?_))))))
   refine l_v (v_add rfl rfl (by first | exact wr_i64 zo zo | rfl)) ?_
   replace HSz := (HSz.keep k120 dj1).keep k243 (by intro i _ hi he; have he0 := he; (try dsimp only [NoK, AllB] at hi he); (try simp only [Value.ownBlock, Option.some.injEq] at he); first | exact hi.elim | exact he.elim | omega | (rcases hi with hi | hi <;> omega) | (rcases he with he | he <;> omega) | (have := (HO238).own_lt he0; omega) | (have := zo_HO238 _ he0; omega) | (have := (HO238).own_lt he0; rcases hi with hi | hi <;> omega))
   refine l_v (zmS rfl) (l_v (zmS rfl) (l_to (to_f3 zk (zvI rfl) (zvS rfl) (zvS rfl) (CallsR.mono (rMap_c (F := fun b => b < w.heap.size ∨ n5 ≤ b) (HSz.mono fun b _ h => h.elim .inl fun h => .inr h.1) (HO243.view.mono fun b _ h => h.elim (fun h => .inr zo) fun h => h) ⟨by omega, by omega⟩ (by simp; (try omega)) (by simp; (try omega))) ?_))))
   replace E := (E.step k120 dj3).step k243 (by intro i hi he; have he0 := he; (try dsimp only [NoK] at hi he ⊢); (try simp only [Value.ownBlock, Option.some.injEq] at he); first | exact he.elim | omega | exact he | (have := (HO238).own_lt he0; omega) | (have := zo_HO238 _ he0; omega) | (have := (HO238).own_lt he0; rcases hi with hi | hi <;> omega))
   replace HG1 := (HG1.keep k120 dj1).keep k243 (by intro i _ hi he; have he0 := he; (try dsimp only [NoK, AllB] at hi he); (try simp only [Value.ownBlock, Option.some.injEq] at he); first | exact hi.elim | exact he.elim | omega | (rcases hi with hi | hi <;> omega) | (rcases he with he | he <;> omega) | (have := (HO238).own_lt he0; omega) | (have := zo_HO238 _ he0; omega) | (have := (HO238).own_lt he0; rcases hi with hi | hi <;> omega))
   replace HSk := (HSk.keep k120 dj1).keep k243 (by intro i _ hi he; have he0 := he; (try dsimp only [NoK, AllB] at hi he); (try simp only [Value.ownBlock, Option.some.injEq] at he); first | exact hi.elim | exact he.elim | omega | (rcases hi with hi | hi <;> omega) | (rcases he with he | he <;> omega) | (have := (HO238).own_lt he0; omega) | (have := zo_HO238 _ he0; omega) | (have := (HO238).own_lt he0; rcases hi with hi | hi <;> omega))
   replace HGm := (HGm.keep k120 dj1).keep k243 (by intro i _ hi he; have he0 := he; (try dsimp only [NoK, AllB] at hi he); (try simp only [Value.ownBlock, Option.some.injEq] at he); first | exact hi.elim | exact he.elim | omega | (rcases hi with hi | hi <;> omega) | (rcases he with he | he <;> omega) | (have := (HO238).own_lt he0; omega) | (have := zo_HO238 _ he0; omega) | (have := (HO238).own_lt he0; rcases hi with hi | hi <;> omega))
   replace HSr := (HSr.keep k120 dj1).keep k243 (by intro i _ hi he; have he0 := he; (try dsimp only [NoK, AllB] at hi he); (try simp only [Value.ownBlock, Option.some.injEq] at he); first | exact hi.elim | exact he.elim | omega | (rcases hi with hi | hi <;> omega) | (rcases he with he | he <;> omega) | (have := (HO238).own_lt he0; omega) | (have := zo_HO238 _ he0; omega) | (have := (HO238).own_lt he0; rcases hi with hi | hi <;> omega))
   replace HSm := (HSm.keep k120 dj1).keep k243 (by intro i _ hi he; have he0 := he; (try dsimp only [NoK, AllB] at hi he); (try simp only [Value.ownBlock, Option.some.injEq] at he); first | exact hi.elim | exact he.elim | omega | (rcases hi with hi | hi <;> omega) | (rcases he with he | he <;> omega) | (have := (HO238).own_lt he0; omega) | (have := zo_HO238 _ he0; omega) | (have := (HO238).own_lt he0; rcases hi with hi | hi <;> omega))
   replace HGv := (HGv.keep k120 dj1).keep k243 (by intro i _ hi he; have he0 := he; (try dsimp only [NoK, AllB] at hi he); (try simp only [Value.ownBlock, Option.some.injEq] at he); first | exact hi.elim | exact he.elim | omega | (rcases hi with hi | hi <;> omega) | (rcases he with he | he <;> omega) | (have := (HO238).own_lt he0; omega) | (have := zo_HO238 _ he0; omega) | (have := (HO238).own_lt he0; rcases hi with hi | hi <;> omega))
   replace HSvf := (HSvf.keep k120 dj1).keep k243 (by intro i _ hi he; have he0 := he; (try dsimp only [NoK, AllB] at hi he); (try simp only [Value.ownBlock, Option.some.injEq] at he); first | exact hi.elim | exact he.elim | omega | (rcases hi with hi | hi <;> omega) | (rcases he with he | he <;> omega) | (have := (HO238).own_lt he0; omega) | (have := zo_HO238 _ he0; omega) | (have := (HO238).own_lt he0; rcases hi with hi | hi <;> omega))
   replace HS6 := (HS6.keep k120 dj1).keep k243 (by intro i _ hi he; have he0 := he; (try dsimp only [NoK, AllB] at hi he); (try simp only [Value.ownBlock, Option.some.injEq] at he); first | exact hi.elim | exact he.elim | omega | (rcases hi with hi | hi <;> omega) | (rcases he with he | he <;> omega) | (have := (HO238).own_lt he0; omega) | (have := zo_HO238 _ he0; omega) | (have := (HO238).own_lt he0; rcases hi with hi | hi <;> omega))
   replace HS7 := HS7.keep k243 (by intro i _ hi he; have he0 := he; (try dsimp only [NoK, AllB] at hi he); (try simp only [Value.ownBlock, Option.some.injEq] at he); first | exact hi.elim | exact he.elim | omega | (rcases hi with hi | hi <;> omega) | (rcases he with he | he <;> omega) | (have := (HO238).own_lt he0; omega) | (have := zo_HO238 _ he0; omega) | (have := (HO238).own_lt he0; rcases hi with hi | hi <;> omega))
   rintro _ w60 ⟨HG9, e60⟩
   have := e60.size
   obtain ⟨a9, c9, rfl, HS9, he9⟩ := HG9.mp
   simp only at HS9 he9
   replace HS9 := HS9.mono (F' := fun b => b < w.heap.size ∨ n5 ≤ b) fun b _ h => h.elim (fun h => h) fun h => .inr zo
   have hst := hrx
   replace HB2 := HB2.ext e60
   refine l_v (v_fieldAddr (off := 0) (ft := 24) zk rfl) (l_to (to_storeA (n := 2) rfl rfl (zvA rfl) zk rfl dj6 HB2 dj5 ?_))
   rintro w121 HX121 k121 z121
   have := k121.size
   replace HB2 := HX121
   clear HX121
   try simp only [zS, Nat.zero_add, Nat.reduceAdd, List.drop_nil] at HB2
   refine l_nil (n_blk (n_then (⟨_, rfl, ?_⟩)))
   replace E := (E.trans e60.keep).step k121 dj3
   replace HSm := (HSm.ext e60).keep k121 dj1
   replace HB4 := (HB4.ext e60).keep k121 dj4
   replace HS9 := HS9.keep k121 dj1
   exact ⟨⟨rfl, rfl, trivial⟩, E, HB4, _, _, _, hst, HB2, he9, im, HS9.mono fun q _ h => ⟨trivial, by rcases h with h | h <;> omega⟩, HSm.mono fun q _ h => ⟨trivial, by omega⟩⟩
  refine c_seq (wp_reg zd (l_v (v_eql rfl rfl) ?_))
  refine l_v (zaB rfl) (l_nil (n_then (c_cond rfl rfl (fun h8 => ?_) (fun h8 => ?_))))
  ·
   have hk : k = 8 := dtrue h8
   refine c_seq (wp_reg zd (l_v (v_fieldAddr (off := 0) (ft := 24) zk rfl) (l_v (v_loadA zk rfl (by first | exact (show Pv _ _ [_, _] from pv_sub 0 2 HB4.pv) | exact (show Pv _ _ [_, _] from pv_sub 0 2 HB3.pv) | exact (show Pv _ _ [_, _] from pv_sub 0 2 HB2.pv) | exact pv_at 0 HB4.pv | exact pv_at 0 HB3.pv | exact pv_at 0 HB2.pv | assumption) rfl) ?_)))
   refine l_v (v_fieldAddr (off := 18) (ft := 33) zk rfl) (l_v (v_load zk rfl (by first | exact HB4.pv 18 _ rfl | exact HB3.pv 18 _ rfl | exact HB2.pv 18 _ rfl | assumption)) ?_)
   refine l_to (to_f2 zk (zvA rfl) (zvS rfl) (CallsR.mono (rBegins_c HGm HSk) ?_))
   rintro _ w122 ⟨rfl, e122⟩
   have := e122.size
   refine l_v (zaI rfl) (l_nil (n_then (c_seq (c_block (c_seq (wp_reg zd (l_v (zmI rfl) (l_v (v_lss rfl rfl) ?_))))))))
   replace E := E.trans e122.keep
   replace HG1 := HG1.ext e122
   replace HSk := HSk.ext e122
   replace HGm := HGm.ext e122
   replace HSr := HSr.ext e122
   replace HSm := HSm.ext e122
   replace HGv := HGv.ext e122
   replace HSvf := HSvf.ext e122
   replace HB2 := HB2.ext e122
   replace HB3 := HB3.ext e122
   replace HB4 := HB4.ext e122
   replace HO6 := HO6.ext e122
   replace HO7 := HO7.ext e122
   refine l_v (zaB rfl) (l_nil (n_then (c_cond rfl rfl (fun h259 => ?_) (fun h259 => ?_))))
   ·
    refine c_seq (wp_reg zd (l_v (v_loadA zk rfl (by first | exact HB4.pv | exact HB3.pv | exact HB2.pv | assumption) rfl) ?_))
    refine l_to (to_storeA (n := 4) rfl rfl (zvA rfl) zk rfl dj6 HB4 dj5 ?_)
    rintro w123 HX123 k123 z123
    have := k123.size
    replace HB4 := HX123
    clear HX123
    try simp only [zS, Nat.zero_add, Nat.reduceAdd, List.drop_nil] at HB4
    refine l_v (v_assign rfl) (l_nil (n_then (c_ret (r_blk (r_then (r_blk (r_then (ret2cv (n := 4) rfl zq zq rfl zk HB4.pv rfl (zvI rfl) ?_))))))))
    have hq : (rDoMt ((e0, rs), n, ms) (k, rq, mv, en, an, key, g)) = (((e0, rs), n, ms), 6) := by (unfold rDoMt; simp only []; rw [if_neg zo, if_neg zo, if_pos hk]; rcases hb : begI rs key with _ | i; rfl; (have h9 := dtrue h259; rw [hb] at h9; have h8 : ((i : Nat) : Int) < 0 := h9; omega))
    rw [hq]
    replace E := E.step k123 dj3
    replace HG1 := HG1.keep k123 dj1
    exact ⟨⟨_, rfl, HG1.mono fun _ _ _ => trivial⟩, E⟩
   obtain ⟨i, hi⟩ : ∃ i, begI rs key = some i := by
    rcases hb : begI rs key with _ | i
    ·
     rw [hb] at h259; simp [optI] at h259
    exact ⟨i, rfl⟩
   obtain ⟨hil, _⟩ := begI_some hi
   have hoi : optI (some i) = (i : Int) := rfl
   rw [hi, hoi]
   obtain ⟨r, hr, _⟩ := getE (l := rs) (i := i) hil
   have hrd : rs.getD i rg0 = r := by simp [hr]
   have hrx : (rDoMt ((e0, rs), n, ms) (k, rq, mv, en, an, key, g)) = if (mvgB ms key || decide (r.2.2.2 = g)) = true then (((e0, rs), n, ms), 9) else if n = 2147483647 then (((e0, rs), n, ms), 5) else (((e0, rs), n + 1, ms ++ [((n, r.1, r.2.1, r.2.2.1, r.2.2.2, g), false)]), 0) := by unfold rDoMt; simp only []; rw [if_neg zo, if_neg zo, if_pos hk]; simp only [hi, hrd]
   obtain ⟨n6, hn6⟩ : ∃ n, n = w122.heap.size := ⟨_, rfl⟩
   have HS6 := HO6.view.mono (F' := fun b => b < w.heap.size ∨ (n5 ≤ b ∧ b < n6)) fun b hb h => h.elim (fun h => .inr zo) fun h => h.elim .inl fun h => .inr zo
   have HS7 := HO7.view.mono (F' := fun b => b < w.heap.size ∨ (n5 ≤ b ∧ b < n6)) fun b hb h => h.elim (fun h => .inr zo) fun h => h.elim
   obtain ⟨qg, csg, hqg, hFg, hqgb, HPg, ⟨rfl, hwg⟩⟩ := HS7.el (k := i) (x := r.2.2.2) (by rw [List.getElem?_map, hr]; rfl)
   subst hqg
   obtain ⟨q, cs, hq, hF, hql, HPq, hrr⟩ := HSr.el hr
   subst hq
   obtain ⟨y5, f5, y6, f6, rfl, HSf, HSt, hgr⟩ := tRg_cells hrr
   refine c_seq (wp_regd (NoK) zk zd zd ?_)
   refine rt_v (fun vals w hR hd => v_loadA zk rfl (by first | exact (HPq.ext hR) | exact (HPg.ext hR) | exact (HB4.ext hR).pv | exact (HB3.ext hR).pv | exact (HB2.ext hR).pv | assumption) rfl) ?_
   refine rt_v (fun vals w hR hd => v_fieldAddr (off := 18) (ft := 33) zk rfl) ?_
   refine rt_v (fun vals w hR hd => v_load zk (hd 1 rfl) (by first | exact (HPq.ext hR) 18 _ rfl | exact pv_1 (HPq.ext hR) | exact (HPg.ext hR) 18 _ rfl | exact pv_1 (HPg.ext hR) | exact (HB4.ext hR).pv 18 _ rfl | exact (HB3.ext hR).pv 18 _ rfl | exact (HB2.ext hR).pv 18 _ rfl | assumption)) ?_
   refine rt_vf (fun vals w hR hd => to_f2 zk (hd 0 rfl) (hd 2 rfl) (rMoving_c (HG1.ext hR) (HSk.ext hR))) ?_
   refine rt_v (fun vals w hR hd => v_move (t := .bool _) (hd 3 rfl)) ?_
   refine rt_g1 rfl (fun vals w hd => hd 4 rfl) (fun vals w hR hd hG => zmS rfl) ?_
   refine rt_g1 rfl (fun vals w hd => hd 4 rfl) (fun vals w hR hd hG => zmI rfl) ?_
   refine rt_g1 rfl (fun vals w hd => hd 4 rfl) (fun vals w hR hd hG => v_indexAddr (et := 3) (sz := 1) (k := i) zk zk (gd hG (hd 5 rfl)) (gd hG (hd 6 rfl)) (by first | rfl | omega) (by simpa using hil)) ?_
   refine rt_g1 rfl (fun vals w hd => hd 4 rfl) (fun vals w hR hd hG => v_load zk (gd hG (hd 7 rfl)) (by first | exact pv_1 (HPq.ext hR) | exact pv_1 (HPg.ext hR) | exact (HB4.ext hR).cell rfl | exact (HB3.ext hR).cell rfl | exact (HB2.ext hR).cell rfl | assumption)) ?_
   refine rt_g1 rfl (fun vals w hd => hd 4 rfl) (fun vals w hR hd hG => v_fieldAddr (off := 19) (ft := 3) zk rfl) ?_
   refine rt_g1 rfl (fun vals w hd => hd 4 rfl) (fun vals w hR hd hG => v_load zk (gd hG (hd 9 rfl)) (by first | exact (HPq.ext hR) 19 _ rfl | exact pv_1 (HPq.ext hR) | exact (HPg.ext hR) 19 _ rfl | exact pv_1 (HPg.ext hR) | exact (HB4.ext hR).pv 19 _ rfl | exact (HB3.ext hR).pv 19 _ rfl | exact (HB2.ext hR).pv 19 _ rfl | assumption)) ?_
   refine rt_g1 rfl (fun vals w hd => hd 4 rfl) (fun vals w hR hd hG => v_eql (gd hG (hd 8 rfl)) (gd hG (hd 10 rfl))) ?_
   refine rt_v (fun vals w hR hd => v_or (hd 4 rfl) (hd 11 rfl)) ?_
   refine rt_v (fun vals w hR hd => v_assign (t := .bool _) (hd 12 rfl)) ?_
   refine rt_nil (fun w124 e124 => ?_)
   rintro _ rfl _ rfl _ rfl _ rfl _ rfl _ rfl _ rfl _ rfl _ rfl _ rfl _ rfl _ rfl _ rfl _ rfl
   have := e124.size
   replace E := E.trans e124.keep
   replace HG1 := HG1.ext e124
   replace HSk := HSk.ext e124
   replace HGm := HGm.ext e124
   replace HSr := HSr.ext e124
   replace HSm := HSm.ext e124
   replace HGv := HGv.ext e124
   replace HSvf := HSvf.ext e124
   replace HB2 := HB2.ext e124
   replace HB3 := HB3.ext e124
   replace HB4 := HB4.ext e124
   replace HS7 := HS7.ext e124
   replace HPg := HPg.ext e124
   replace HPq := HPq.ext e124
   replace HSf := HSf.ext e124
   replace HSt := HSt.ext e124
   refine fin_nil (n_then (c_cond rfl rfl (fun h263 => ?_) (fun h263 => ?_)))
   ·
    refine c_seq (wp_reg zd (l_v (v_loadA zk rfl (by first | exact HPq | exact HPg | exact HB4.pv | exact HB3.pv | exact HB2.pv | assumption) rfl) ?_))
    refine l_to (to_storeA (n := 4) rfl rfl (zvA rfl) zk rfl dj6 HB4 dj5 ?_)
    rintro w125 HX125 k125 z125
    have := k125.size
    replace HB4 := HX125
    clear HX125
    try simp only [zS, Nat.zero_add, Nat.reduceAdd, List.drop_nil] at HB4
    refine l_v (v_assign rfl) (l_nil (n_then (c_ret (r_blk (r_then (r_blk (r_then (ret2cv (n := 4) rfl zq zq rfl zk HB4.pv rfl (zvI rfl) ?_))))))))
    have hq : (rDoMt ((e0, rs), n, ms) (k, rq, mv, en, an, key, g)) = (((e0, rs), n, ms), 9) := by rw [hrx, if_pos (by simpa using h263)]
    rw [hq]
    replace E := E.step k125 dj3
    replace HG1 := HG1.keep k125 dj1
    exact ⟨⟨_, rfl, HG1.mono fun _ _ _ => trivial⟩, E⟩
   rw [if_neg (by rw [Bool.not_eq_true]; simpa using h263)] at hrx
   refine c_seq (wp_reg zd (l_v (v_fieldAddr (off := 2) (ft := 2) zk rfl) (l_v (v_load zk rfl (by first | exact HPq 2 _ rfl | exact pv_1 HPq | exact HPg 2 _ rfl | exact pv_1 HPg | exact HB4.pv 2 _ rfl | exact HB3.pv 2 _ rfl | exact HB2.pv 2 _ rfl | assumption)) ?_)))
   refine l_v (v_eql rfl rfl) ?_
   refine l_v (zaB rfl) (l_nil (n_then (c_cond rfl rfl (fun h278 => ?_) (fun h278 => ?_))))
   ·
    refine c_seq (wp_reg zd (l_v (v_loadA zk rfl (by first | exact HPq | exact HPg | exact HB4.pv | exact HB3.pv | exact HB2.pv | assumption) rfl) ?_))
    refine l_to (to_storeA (n := 4) rfl rfl (zvA rfl) zk rfl dj6 HB4 dj5 ?_)
    rintro w126 HX126 k126 z126
    have := k126.size
    replace HB4 := HX126
    clear HX126
    try simp only [zS, Nat.zero_add, Nat.reduceAdd, List.drop_nil] at HB4
    refine l_v (v_assign rfl) (l_nil (n_then (c_ret (r_blk (r_then (r_blk (r_then (ret2cv (n := 4) rfl zq zq rfl zk HB4.pv rfl (zvI rfl) ?_))))))))
    have hq : (rDoMt ((e0, rs), n, ms) (k, rq, mv, en, an, key, g)) = (((e0, rs), n, ms), 5) := by rw [hrx, if_pos (dtrue h278)]
    rw [hq]
    replace E := E.step k126 dj3
    replace HG1 := HG1.keep k126 dj1
    exact ⟨⟨_, rfl, HG1.mono fun _ _ _ => trivial⟩, E⟩
   rw [if_neg (dfalse h278)] at hrx
   refine c_skip (n_blk (n_then (c_seq (wp_reg zd (l_v (v_fieldAddr (off := 0) (ft := 24) zk rfl) (l_v (v_fieldAddr (off := 1) (ft := 22) zk rfl) (l_v (v_load zk rfl (by first | exact HPq 1 _ rfl | exact pv_1 HPq | exact HB4.pv 1 _ rfl | exact HB3.pv 1 _ rfl | exact HB2.pv 1 _ rfl | assumption)) ?_)))))))
   refine l_v (zmI rfl) (l_v (v_indexAddr (et := 63) (sz := 4) (k := i) zk zk rfl rfl (by first | rfl | omega) (hil)) ?_)
   refine l_v (v_loadA zk rfl (by first | exact HPq | exact HB4.pv | exact HB3.pv | exact HB2.pv | assumption) rfl) ?_
   refine l_to (to_alloc (z := (.agg #[.slice none 0 0, .slice none 0 0, .bool false, .int .i64 0])) (by unfold kZero; kernel_rfl) ?_)
   rintro b13 w13 zb13 HB13 e13 z13
   have := e13.size
   try simp only [Value.cells] at HB13
   refine l_to (to_storeA (n := 4) rfl rfl (zvA rfl) zk rfl dj6 HB13 dj5 ?_)
   rintro w127 HX127 k127 z127
   have := k127.size
   replace HB13 := HX127
   clear HX127
   try simp only [zS, Nat.zero_add, Nat.reduceAdd, List.drop_nil] at HB13
   replace HB2 := (HB2.ext e13).keep k127 dj4
   replace HB3 := (HB3.ext e13).keep k127 dj4
   replace HB4 := (HB4.ext e13).keep k127 dj4
   refine l_nil (n_then (c_seq (wp_reg zd (l_v (v_fieldAddr (off := 2) (ft := 2) zk rfl) (l_v (v_load zk rfl (by first | exact HB13.pv 2 _ rfl | exact HB4.pv 2 _ rfl | exact HB3.pv 2 _ rfl | exact HB2.pv 2 _ rfl | assumption)) ?_)))))
   refine l_v (v_fieldAddr (off := 0) (ft := 33) zk rfl) (l_v (v_load zk rfl (by first | exact HB13.pv 0 _ rfl | exact HB4.pv 0 _ rfl | exact HB3.pv 0 _ rfl | exact HB2.pv 0 _ rfl | assumption)) ?_)
   refine l_v (v_fieldAddr (off := 1) (ft := 33) zk rfl) (l_v (v_load zk rfl (by first | exact HB13.pv 1 _ rfl | exact HB4.pv 1 _ rfl | exact HB3.pv 1 _ rfl | exact HB2.pv 1 _ rfl | assumption)) ?_)
   refine l_v (v_fieldAddr (off := 2) (ft := 4) zk rfl) (l_v (v_load zk rfl (by first | exact HB13.pv 2 _ rfl | exact HB4.pv 2 _ rfl | exact HB3.pv 2 _ rfl | exact HB2.pv 2 _ rfl | assumption)) ?_)
   refine l_v (v_fieldAddr (off := 3) (ft := 3) zk rfl) (l_v (v_load zk rfl (by first | exact HB13.pv 3 _ rfl | exact HB4.pv 3 _ rfl | exact HB3.pv 3 _ rfl | exact HB2.pv 3 _ rfl | assumption)) ?_)
   refine l_v (v_fieldAddr (off := 19) (ft := 3) zk rfl) (l_v (v_load zk rfl (by first | exact HB13.pv 19 _ rfl | exact HB4.pv 19 _ rfl | exact HB3.pv 19 _ rfl | exact HB2.pv 19 _ rfl | assumption)) ?_)
   refine l_v (v_build (pl := [(0, 1), (1, 1), (2, 1), (3, 1), (4, 1), (5, 1)]) (z := .agg #[.int .i64 0, .slice none 0 0, .slice none 0 0, .bool false, .int .i64 0, .int .i64 0]) (zl := [.int .i64 0, .slice none 0 0, .slice none 0 0, .bool false, .int .i64 0, .int .i64 0]) zk (by unfold kZero; kernel_rfl) rfl rfl (cells := [_, _, _, _, _, _]) rfl) ?_
   refine l_to (to_alloc (z := (.agg #[.int .i64 0, .slice none 0 0, .slice none 0 0, .bool false, .int .i64 0, .int .i64 0])) (by unfold kZero; kernel_rfl) ?_)
   rintro b14 w14 zb14 HB14 e14 z14
   have := e14.size
   try simp only [Value.cells] at HB14
   refine l_to (to_storeA (n := 6) rfl rfl (zvA rfl) zk rfl dj6 HB14 dj5 ?_)
   rintro w128 HX128 k128 z128
   have := k128.size
   replace HB14 := HX128
   clear HX128
   try simp only [zS, Nat.zero_add, Nat.reduceAdd, List.drop_nil] at HB14
   refine l_nil (n_then (c_seq (wp_any zk ?_)))
   have e129 : Ext w128 { w128 with drawn := w128.drawn + 1 } := Keep.drawn _ _
   replace E := (((E.trans e13.keep).step k127 dj3).trans e14.keep).step k128 dj3
   replace HG1 := (((HG1.ext e13).keep k127 dj1).ext e14).keep k128 dj1
   replace HSk := (((HSk.ext e13).keep k127 dj1).ext e14).keep k128 dj1
   replace HGm := (((HGm.ext e13).keep k127 dj1).ext e14).keep k128 dj1
   replace HSr := (((HSr.ext e13).keep k127 dj1).ext e14).keep k128 dj1
   replace HSm := (((HSm.ext e13).keep k127 dj1).ext e14).keep k128 dj1
   replace HGv := (((HGv.ext e13).keep k127 dj1).ext e14).keep k128 dj1
   replace HSvf := (((HSvf.ext e13).keep k127 dj1).ext e14).keep k128 dj1
   replace HSf := (((HSf.ext e13).keep k127 dj1).ext e14).keep k128 dj1
   replace HSt := (((HSt.ext e13).keep k127 dj1).ext e14).keep k128 dj1
   replace HB2 := (HB2.ext e14).keep k128 dj4
   replace HB3 := (HB3.ext e14).keep k128 dj4
   replace HB4 := (HB4.ext e14).keep k128 dj4
   replace HB13 := (HB13.ext e14).keep k128 dj4
   generalize hw129 : ({ w128 with drawn := w128.drawn + 1 } : World) = w129 at e129 ⊢
   clear hw129
   have := e129.size
   refine r_cut 7 rfl zd zd zd ?_
   refine wp_regJW (fun k => w129.heap.size ≤ k) (EqJ [] (ChainJ (tMa) (54) w129.heap.size (w129.heap.size) (fun b => b < w.heap.size ∨ n5 ≤ b) (fun b => b < w.heap.size ∨ n5 ≤ b) (.slice none 0 0 : Value) ([]) [2, 6] [none, some 5] [ms, [((n, r.1, r.2.1, r.2.2.1, r.2.2.2, g), false)]])) zd zd (fun vals done hd => EqJ.start (ChainJ.start (OwV.nil _ _ _ _ _) (Nat.le_refl _) (Nat.le_refl _) (fun i hi => hd i (dOf_lt zq hi))) (fun k j hq => hd k (dQ_lt zq k j hq))) ?_
   refine rj_v (EqJ.on ChainJ.on) zq (fun done vals w hR hJ hdn hd => v_fieldAddr (off := 3) (ft := 25) zk rfl) ?_
   replace HB2 := HB2.ext e129
   replace HB3 := HB3.ext e129
   replace HB4 := HB4.ext e129
   replace HB13 := HB13.ext e129
   replace HB14 := HB14.ext e129
   refine rj_v (EqJ.on ChainJ.on) zq (fun done vals w hR hJ hdn hd => v_load zk (hd 0 rfl) (by first | exact (HB14.keep hR dj4).pv 3 _ rfl | exact (HB13.keep hR dj4).pv 3 _ rfl | exact (HB4.keep hR dj4).pv 3 _ rfl | exact (HB3.keep hR dj4).pv 3 _ rfl | exact (HB2.keep hR dj4).pv 3 _ rfl | assumption)) ?_
   replace HPq := HPq.ext e13
   replace E := E.trans e129.keep
   replace HG1 := HG1.ext e129
   replace HSk := HSk.ext e129
   replace HGm := HGm.ext e129
   replace HSr := HSr.ext e129
   replace HSm := HSm.ext e129
   replace HGv := HGv.ext e129
   replace HSvf := HSvf.ext e129
   replace HSf := HSf.ext e129
   replace HSt := HSt.ext e129
   refine rj_d (fun done vals w hR hcl hdk hJ hdn hd => by
     have := hR.size
     obtain ⟨hacc, hown, hsrc⟩ := hJ.1.at (n := 0) rfl hdk (fun m h => by cases h)
     exact to_append (et := 54) (bytes := 88) zk rfl hacc (hd 1 rfl) (HSm.keep hR dj2) (fun cs x h => Ty.mono _ h (fun b _ h => ⟨.inl h, fun ho => (hown b ho).elim (fun h' => by cases h') (fun h' => by omega)⟩)) (by (simp; omega)) (by simp only [maxLen]; (simp; omega)) zo (fun a n cc w1 o hn kk ho _ => ⟨kk.mono (fun b _ h => (hown b h).resolve_left (fun h => by cases h)), hJ.step hdk zq (hJ.1.app (n := 0) rfl hdk (fun m h => by cases h) rfl (once_as zq) (ps_ne zq) o kk ho)⟩)) ?_
   refine rj_v (EqJ.on ChainJ.on) zq (fun done vals w hR hJ hdn hd => v_loadA zk rfl (by first | exact (HB14.keep hR dj4).pv | exact (HB13.keep hR dj4).pv | exact (HB4.keep hR dj4).pv | exact (HB3.keep hR dj4).pv | exact (HB2.keep hR dj4).pv | assumption) rfl) ?_
   refine rj_v (EqJ.on ChainJ.on) zq (fun done vals w hR hJ hdn hd => v_build (pl := [(0, 6), (6, 1)]) (z := .agg #[.int .i64 0, .slice none 0 0, .slice none 0 0, .bool false, .int .i64 0, .int .i64 0, .bool false]) (zl := [.int .i64 0, .slice none 0 0, .slice none 0 0, .bool false, .int .i64 0, .int .i64 0, .bool false]) (ps := [(0, .agg #[.int .i64 n, .slice y5 r.1.length f5, .slice y6 r.2.1.length f6, .bool r.2.2.1, .int .i64 r.2.2.2, .int .i64 g])]) zk (by unfold kZero; kernel_rfl) rfl (by refine parts1 (v0 := .agg #[.int .i64 n, .slice y5 r.1.length f5, .slice y6 r.2.1.length f6, .bool r.2.2.1, .int .i64 r.2.2.2, .int .i64 g]) ?_; exact (hd 3 rfl)) (cells := [.int .i64 n, .slice y5 r.1.length f5, .slice y6 r.2.1.length f6, .bool r.2.2.1, .int .i64 r.2.2.2, .int .i64 g, .bool false]) rfl) ?_
   refine rj_d (fun done vals w hR hcl hdk hJ hdn hd => by
     have := hR.size
     exact to_slice1 (t := tMa) (et := 54) (bytes := 88) zk zq (hd 4 rfl) (tMa_mk (HSf.keep hR dj2) (HSt.keep hR dj2) im hgr ig) (fun b w1 hb HO e z => ⟨Ext.keep e, hJ.step hdk zq (hJ.1.prodO (n := 1) e rfl rfl (once_ps zq) zq (HO.view.mono fun b' hb' hF => by rcases hF with hF | hF; exact ⟨by first | trivial | omega | (dsimp only; omega), .inl zo⟩; (have h5 := hF.1; (try dsimp only at h5); exact ⟨by first | trivial | omega | (dsimp only; omega), .inr ⟨by omega, by simp [Value.ownBlock]⟩⟩)))⟩)) ?_
   refine rj_d (fun done vals w hR hcl hdk hJ hdn hd => by
     have := hR.size
     obtain ⟨hacc, hown, hsrc⟩ := hJ.1.at (n := 1) rfl hdk (fun m h => ⟨2, by cases h; rfl, hdn 2 rfl⟩)
     exact to_append (et := 54) (bytes := 88) zk rfl hacc rfl (hsrc _ _ rfl rfl (hdn 5 rfl)) (fun cs x h => Ty.mono _ h (fun b _ h => ⟨h.1, h.2.1⟩)) (by (simp; omega)) (by simp only [maxLen]; (simp; omega)) zo (fun a n cc w1 o hn kk ho _ => ⟨kk.mono (fun b _ h => (hown b h).resolve_left (fun h => by cases h)), hJ.step hdk zq (hJ.1.app (n := 1) rfl hdk (fun m h => ⟨2, by cases h; rfl, hdn 2 rfl⟩) rfl (once_as zq) (ps_ne zq) o kk ho)⟩)) ?_
   refine rj_nil (fun vals w130 k130 J130 => ?_)
   rintro _ _ rfl _ _ rfl _ rfl - _ _ rfl _ _ rfl _ rfl - v308 hv308 -
   have := k130.size
   have HO308 : OwV (tMa) (54) w130 (w129.heap.size) (fun b => b < w.heap.size ∨ n5 ≤ b) v308 (ms ++ [((n, r.1, r.2.1, r.2.2.1, r.2.2.2, g), false)]) := by
    have h := J130.1.fin (by exact Nat.le_refl _)
    have h2 : [] ++ ([ms, [((n, r.1, r.2.1, r.2.2.1, r.2.2.2, g), false)]]).flatten = ms ++ [((n, r.1, r.2.1, r.2.2.1, r.2.2.2, g), false)] := by simp
    rw [h2] at h; rw [hv308]; exact h
   clear hv308
   obtain ⟨a308, c308, rfl⟩ := HO308.shape
   have zo_HO308 := fun (b : Nat) h => HO308.own_lt (b := b) h
   refine fin_nilJ (n_then (r_cut 1 rfl zd zd zd ?_))
   refine r_one zd rfl ?_
   refine l_v (v_fieldAddr (off := 3) (ft := 25) zk rfl) (l_nil (n_then (r_one zd rfl ?_)))
   replace HB2 := HB2.keep k130 dj4
   refine l_to (to_store rfl rfl (zvS rfl) rfl zk HB2 dj5 ?_)
   rintro w131 HX131 k131 z131
   have := k131.size
   replace HB2 := HX131
   clear HX131
   try simp only [zS, Nat.zero_add, Nat.reduceAdd, List.drop_nil] at HB2
   replace HB3 := (HB3.keep k130 dj4).keep k131 dj4
   replace HB4 := (HB4.keep k130 dj4).keep k131 dj4
   replace HB13 := (HB13.keep k130 dj4).keep k131 dj4
   replace HB14 := (HB14.keep k130 dj4).keep k131 dj4
   refine l_nil (n_then (wp_reg zd (l_v (v_fieldAddr (off := 2) (ft := 2) zk rfl) (l_v (v_load zk rfl (by first | exact HB14.pv 2 _ rfl | exact HB13.pv 2 _ rfl | exact HB4.pv 2 _ rfl | exact HB3.pv 2 _ rfl | exact HB2.pv 2 _ rfl | assumption)) ?_))))
   refine l_v (v_add rfl rfl (by first | exact wr_i64 zo zo | rfl)) ?_
   refine l_v (v_fieldAddr (off := 2) (ft := 2) zk rfl) (l_to (to_store rfl rfl (zvI rfl) rfl zk HB2 dj5 ?_))
   rintro w132 HX132 k132 z132
   have := k132.size
   replace HB2 := HX132
   clear HX132
   try simp only [zS, Nat.zero_add, Nat.reduceAdd, List.drop_nil] at HB2
   refine l_nil (n_blk (n_then (⟨_, rfl, ?_⟩)))
   replace E := ((E.step k130 dj3).step k131 dj3).step k132 dj3
   replace HSr := ((HSr.keep k130 dj1).keep k131 dj1).keep k132 dj1
   replace HO308 := (HO308.keep k131 (by intro i ho he; have he0 := he; have ho0 := ho; (try dsimp only [NoK] at he); (try simp only [Value.ownBlock, Option.some.injEq, reduceCtorEq] at ho); (try simp only [Value.ownBlock, Option.some.injEq, reduceCtorEq] at he); first | exact he.elim | exact ho.elim | omega | (have := zo_HO308 _ ho0; omega)) (by intro i _ hi _ he; have he0 := he; have hi := hi; have he := he; (try dsimp only [NoK, AllB] at hi he); (try simp only [Value.ownBlock, Option.some.injEq, reduceCtorEq] at he); all_goals first | exact hi.elim | exact hi.1.elim | exact he.elim | omega | (rcases hi with hi | hi <;> omega) | (rcases he with he | he <;> omega))).keep k132 (by intro i ho he; have he0 := he; have ho0 := ho; (try dsimp only [NoK] at he); (try simp only [Value.ownBlock, Option.some.injEq, reduceCtorEq] at ho); (try simp only [Value.ownBlock, Option.some.injEq, reduceCtorEq] at he); first | exact he.elim | exact ho.elim | omega | (have := zo_HO308 _ ho0; omega)) (by intro i _ hi _ he; have he0 := he; have hi := hi; have he := he; (try dsimp only [NoK, AllB] at hi he); (try simp only [Value.ownBlock, Option.some.injEq, reduceCtorEq] at he); all_goals first | exact hi.elim | exact hi.1.elim | exact he.elim | omega | (rcases hi with hi | hi <;> omega) | (rcases he with he | he <;> omega))
   replace HB4 := HB4.keep k132 dj4
   exact ⟨⟨rfl, rfl, trivial⟩, E, HB4, _, _, _, hrx, HB2, ie, ⟨by have := im.1; simp only; omega, by simp only; omega⟩, HSr.mono fun q _ h => ⟨trivial, by omega⟩, HO308.view.mono fun q _ h => ⟨trivial, by rcases h with h | h | h <;> omega⟩⟩
  have n6' := dfalse h6
  have n7' := dfalse h7
  have n8' := dfalse h8
  obtain ⟨P, hP⟩ : ∃ P : MaV → Bool, P = fun x => decide (x.1 = mv) && (x.2 == decide (k = 10)) := ⟨_, rfl⟩
  refine c_seq (wp_reg zd (l_v (v_assign rfl) (l_nil (n_then (c_seq (c_seq (wp_reg zd (l_v (v_assign rfl) (l_nil ?_)))))))))
  refine n_then (c_block (c_loop (τ := Nat × Int) [15, 16, 25, 26, 27, 28, 29, 30, 31, 32, 33, 34, 35, 36, 37, 38, 39, 40, 41, 42, 43, 44, 45, 46, 47, 48, 49, 50, 51, 52, 53] (fun (i, lt) => [(15, .int .i64 lt), (16, .int .i64 i)]) (fun (i, lt) W => Ext w W ∧ Keep (NoK) w20 W ∧ i ≤ ms.length ∧ lt = optI (lastN P ms i)) (fun (i, lt) => ms.length - i) (0, -1) (by exact ⟨rfl, rfl, trivial⟩) (by exact ⟨E, Keep.refl _, Nat.zero_le _, rfl⟩) ?_))
  rintro ⟨i, lt⟩ w133 j ⟨E, EL1, h1, h2⟩
  have := EL1.size
  replace HB2 := HB2.ext EL1
  replace HB3 := HB3.ext EL1
  replace HB4 := HB4.ext EL1
  refine c_seq (c_seq (wp_reg zd (l_v (zmI rfl) (l_v (v_fieldAddr (off := 3) (ft := 25) zk rfl) (l_v (v_load zk rfl (by first | exact HB4.pv 3 _ rfl | exact HB3.pv 3 _ rfl | exact HB2.pv 3 _ rfl | assumption)) ?_)))))
  refine l_v (v_len (et := 54) zk rfl) ?_
  refine l_v (v_lss rfl rfl) ?_
  replace HG1 := HG1.ext EL1
  replace HSk := HSk.ext EL1
  replace HGm := HGm.ext EL1
  replace HSr := HSr.ext EL1
  replace HSm := HSm.ext EL1
  replace HGv := HGv.ext EL1
  replace HSvf := HSvf.ext EL1
  replace HO6 := HO6.ext EL1
  replace HO7 := HO7.ext EL1
  refine l_nil (n_then (c_cond rfl rfl (fun hlt => ?_) (fun hlt => ?_)))
  ·
   have hlt := dtrue hlt
   obtain ⟨x, hx, hdr⟩ := getE (l := ms) (i := i) zo
   obtain ⟨q, cs, hqq, hF, _, HPq, hr⟩ := HSm.el hx
   subst hqq
   have HGa : AgV tMa _ _ _ x := ⟨cs, rfl, hr⟩
   obtain ⟨y5, f5, y6, f6, rfl, _⟩ := tMa_cells hr
   have HGx := AgV.maMv HGa
   refine c_skip (n_then (c_seq (c_block (c_seq (wp_regd (NoK) zk zd zd ?_)))))
   refine rt_v (fun vals w hR hd => v_fieldAddr (off := 3) (ft := 25) zk rfl) ?_
   refine rt_v (fun vals w hR hd => v_load zk (hd 0 rfl) (by first | exact (HPq.ext hR) 3 _ rfl | exact pv_1 (HPq.ext hR) | exact (HB4.ext hR).pv 3 _ rfl | exact (HB3.ext hR).pv 3 _ rfl | exact (HB2.ext hR).pv 3 _ rfl | assumption)) ?_
   refine rt_v (fun vals w hR hd => zmI rfl) ?_
   refine rt_v (fun vals w hR hd => v_indexAddr (et := 54) (sz := 7) (k := i) zk zk (hd 1 rfl) (hd 2 rfl) (by first | rfl | omega) zo) ?_
   refine rt_v (fun vals w hR hd => v_fieldAddr (off := 0) (ft := 39) zk (hd 3 rfl)) ?_
   refine rt_v (fun vals w hR hd => v_loadA zk (hd 4 rfl) (by first | exact (show Pv _ _ [_, _, _, _, _, _] from pv_sub 0 6 (HPq.ext hR)) | exact (show Pv _ _ [_, _, _, _, _, _] from pv_sub 0 6 (HB4.ext hR).pv) | exact (show Pv _ _ [_, _, _, _, _, _] from pv_sub 0 6 (HB3.ext hR).pv) | exact (show Pv _ _ [_, _, _, _, _, _] from pv_sub 0 6 (HB2.ext hR).pv) | exact pv_at 0 (HPq.ext hR) | exact pv_at 0 (HB4.ext hR).pv | exact pv_at 0 (HB3.ext hR).pv | exact pv_at 0 (HB2.ext hR).pv | exact (HPq.ext hR) | assumption) rfl) ?_
   refine rt_v (fun vals w hR hd => v_fieldAddr (off := 10) (ft := 39) zk rfl) ?_
   refine rt_v (fun vals w hR hd => v_loadA zk (hd 6 rfl) (by first | exact (show Pv _ _ [_, _, _, _, _, _] from pv_sub 10 6 (HPq.ext hR)) | exact (show Pv _ _ [_, _, _, _, _, _] from pv_sub 10 6 (HB4.ext hR).pv) | exact (show Pv _ _ [_, _, _, _, _, _] from pv_sub 10 6 (HB3.ext hR).pv) | exact (show Pv _ _ [_, _, _, _, _, _] from pv_sub 10 6 (HB2.ext hR).pv) | exact pv_at 10 (HPq.ext hR) | exact pv_at 10 (HB4.ext hR).pv | exact pv_at 10 (HB3.ext hR).pv | exact pv_at 10 (HB2.ext hR).pv | exact (HPq.ext hR) | assumption) rfl) ?_
   refine rt_vf (fun vals w hR hd => to_f2 zk (hd 5 rfl) (hd 7 rfl) (rSameMove_c (HGx.ext hR) (HGv.ext hR))) ?_
   refine rt_v (fun vals w hR hd => v_move (t := .bool _) (hd 8 rfl)) ?_
   refine rt_g1 rfl (fun vals w hd => hd 9 rfl) (fun vals w hR hd hG => v_fieldAddr (off := 3) (ft := 25) zk rfl) ?_
   refine rt_g1 rfl (fun vals w hd => hd 9 rfl) (fun vals w hR hd hG => v_load zk (gd hG (hd 10 rfl)) (by first | exact (HPq.ext hR) 3 _ rfl | exact pv_1 (HPq.ext hR) | exact (HB4.ext hR).pv 3 _ rfl | exact (HB3.ext hR).pv 3 _ rfl | exact (HB2.ext hR).pv 3 _ rfl | assumption)) ?_
   refine rt_g1 rfl (fun vals w hd => hd 9 rfl) (fun vals w hR hd hG => zmI rfl) ?_
   refine rt_g1 rfl (fun vals w hd => hd 9 rfl) (fun vals w hR hd hG => v_indexAddr (et := 54) (sz := 7) (k := i) zk zk (gd hG (hd 11 rfl)) (gd hG (hd 12 rfl)) (by first | rfl | omega) zo) ?_
   refine rt_g1 rfl (fun vals w hd => hd 9 rfl) (fun vals w hR hd hG => v_fieldAddr (off := 6) (ft := 4) zk (gd hG (hd 13 rfl))) ?_
   refine rt_g1 rfl (fun vals w hd => hd 9 rfl) (fun vals w hR hd hG => v_load zk (gd hG (hd 14 rfl)) (by first | exact (HPq.ext hR) 6 _ rfl | exact pv_1 (HPq.ext hR) | exact (HB4.ext hR).pv 6 _ rfl | exact (HB3.ext hR).pv 6 _ rfl | exact (HB2.ext hR).pv 6 _ rfl | assumption)) ?_
   refine rt_g1 rfl (fun vals w hd => hd 9 rfl) (fun vals w hR hd hG => v_fieldAddr (off := 0) (ft := 31) zk rfl) ?_
   refine rt_g1 rfl (fun vals w hd => hd 9 rfl) (fun vals w hR hd hG => v_load zk (gd hG (hd 16 rfl)) (by first | exact (HPq.ext hR) 0 _ rfl | exact (HB4.ext hR).pv 0 _ rfl | exact (HB3.ext hR).pv 0 _ rfl | exact (HB2.ext hR).pv 0 _ rfl | assumption)) ?_
   refine rt_g1 rfl (fun vals w hd => hd 9 rfl) (fun vals w hR hd hG => v_eql (gd hG (hd 17 rfl)) rfl) ?_
   refine rt_g1 rfl (fun vals w hd => hd 9 rfl) (fun vals w hR hd hG => v_beql zk (gd hG (hd 15 rfl)) (gd hG (hd 18 rfl))) ?_
   refine rt_v (fun vals w hR hd => v_and (hd 9 rfl) (hd 19 rfl)) ?_
   refine rt_nil (fun w134 e134 => ?_)
   rintro _ rfl _ rfl _ rfl _ rfl _ rfl _ rfl _ rfl _ rfl _ rfl _ rfl _ rfl _ rfl _ rfl _ rfl _ rfl _ rfl _ rfl _ rfl _ rfl _ rfl _ rfl
   have := e134.size
   replace E := E.trans e134.keep
   replace HG1 := HG1.ext e134
   replace HSk := HSk.ext e134
   replace HGm := HGm.ext e134
   replace HSr := HSr.ext e134
   replace HSm := HSm.ext e134
   replace HGv := HGv.ext e134
   replace HSvf := HSvf.ext e134
   replace HB2 := HB2.ext e134
   replace HB3 := HB3.ext e134
   replace HB4 := HB4.ext e134
   replace HO6 := HO6.ext e134
   replace HO7 := HO7.ext e134
   replace EL1 := EL1.trans e134.keep
   replace HPq := HPq.ext e134
   replace HGx := HGx.ext e134
   refine fin_nil (n_then (c_cond rfl rfl (fun h52 => ?_) (fun h52 => ?_)))
   ·
    refine wp_reg zd (l_v (zmI rfl) (l_v (zaI rfl) (l_nil (n_blk (n_then (wp_reg zd (l_v (zmI rfl) (l_v (v_add rfl rfl (by first | exact wr_i64 zo zo | rfl)) ?_))))))))
    refine l_v (zaI rfl) (l_nil (n_then (⟨(i + 1, i), _, rfl, by (repeat (first | exact Off.of_over _ _ _ | refine Off.upd ?_ zq _ | refine Off.overs ?_ zq _)), ⟨by first | rfl | exact congrArg (Value.int _) zo | (simp; done), by first | rfl | exact congrArg (Value.int _) zo | (simp; done), trivial⟩, ⟨E, EL1, ?_⟩, ?_⟩)))
    ·
     exact ⟨by omega, by rw [lastN, hx]; have hPx : P x = true := (by rw [hP]; exact h52); rw [if_pos (by simpa using hPx)]; rfl⟩
    (dsimp only; omega)
   refine c_skip (n_blk (n_then (wp_reg zd (l_v (zmI rfl) (l_v (v_add rfl rfl (by first | exact wr_i64 zo zo | rfl)) ?_)))))
   refine l_v (zaI rfl) (l_nil (n_then (⟨(i + 1, lt), _, rfl, by (repeat (first | exact Off.of_over _ _ _ | refine Off.upd ?_ zq _ | refine Off.overs ?_ zq _)), ⟨by first | rfl | exact congrArg (Value.int _) zo | (simp; done), by first | rfl | exact congrArg (Value.int _) zo | (simp; done), trivial⟩, ⟨E, EL1, ?_⟩, ?_⟩)))
   ·
    exact ⟨by omega, by rw [lastN, hx]; have hPx : P x = false := (by rw [hP]; exact h52); rw [if_neg (by simp [hPx])]; exact h2⟩
   (dsimp only; omega)
  have hi : i = ms.length := by have := dfalse hlt; omega
  subst hi
  have hrd : (rDoMt ((e0, rs), n, ms) (k, rq, mv, en, an, key, g)) = (match lastN P ms ms.length with
    | none => (((e0, rs), n, ms), 9)
    | some i => if k = 10 then (((e0, rs), n, ms.take i ++ ms.drop (i + 1)), 0) else if e0 = 2147483647 then (((e0, rs), n, ms), 5) else
     (((e0 + 1, bldR (rs.map (·.1)) ((rs.map (·.2.2.2)).set (optI (begI rs mv.2.1)).toNat mv.2.2.2.2.2)), n, ms.set i ((ms.getD i (mv0, false)).1, true)), 0)) := by
   unfold rDoMt; simp only []; rw [if_neg n6', if_neg n7', if_neg n8', hP]
  refine c_exit (x_then (x_then (x_hit (n_then (c_seq (c_seq (wp_reg zd (l_v (zmI rfl) (l_v (v_lss rfl rfl) ?_)))))))))
  refine l_nil (n_then (c_cond rfl rfl (fun h55 => ?_) (fun h55 => ?_)))
  ·
   refine c_seq (wp_reg zd (l_v (v_loadA zk rfl (by first | exact HB4.pv | exact HB3.pv | exact HB2.pv | assumption) rfl) ?_))
   refine l_to (to_storeA (n := 4) rfl rfl (zvA rfl) zk rfl dj6 HB4 dj5 ?_)
   rintro w135 HX135 k135 z135
   have := k135.size
   replace HB4 := HX135
   clear HX135
   try simp only [zS, Nat.zero_add, Nat.reduceAdd, List.drop_nil] at HB4
   refine l_v (v_assign rfl) (l_nil (n_then (c_ret (r_then (r_blk (r_then (ret2cv (n := 4) rfl zq zq rfl zk HB4.pv rfl (zvI rfl) ?_)))))))
   replace E := E.step k135 dj3
   replace HG1 := HG1.keep k135 dj1
   replace HSk := HSk.keep k135 dj1
   replace HGm := HGm.keep k135 dj1
   replace HSr := HSr.keep k135 dj1
   replace HSm := HSm.keep k135 dj1
   replace HGv := HGv.keep k135 dj1
   replace HSvf := HSvf.keep k135 dj1
   replace HB2 := HB2.keep k135 dj4
   replace HB3 := HB3.keep k135 dj4
   replace HO6 := HO6.keep k135 (by intro i ho he; have he0 := he; have ho0 := ho; (try dsimp only [NoK] at he); (try simp only [Value.ownBlock, Option.some.injEq, reduceCtorEq] at ho); (try simp only [Value.ownBlock, Option.some.injEq, reduceCtorEq] at he); first | exact he.elim | exact ho.elim | omega | (have := zo_HO6 _ ho0; omega)) (by intro i _ hi _ he; have he0 := he; have hi := hi; have he := he; (try dsimp only [NoK, AllB] at hi he); (try simp only [Value.ownBlock, Option.some.injEq, reduceCtorEq] at he); all_goals first | exact hi.elim | exact hi.1.elim | exact he.elim | omega | (rcases hi with hi | hi <;> omega) | (rcases he with he | he <;> omega))
   replace HO7 := HO7.keep k135 (by intro i ho he; have he0 := he; have ho0 := ho; (try dsimp only [NoK] at he); (try simp only [Value.ownBlock, Option.some.injEq, reduceCtorEq] at ho); (try simp only [Value.ownBlock, Option.some.injEq, reduceCtorEq] at he); first | exact he.elim | exact ho.elim | omega | (have := zo_HO7 _ ho0; omega)) (by intro i _ hi _ he; have he0 := he; have hi := hi; have he := he; (try dsimp only [NoK, AllB] at hi he); (try simp only [Value.ownBlock, Option.some.injEq, reduceCtorEq] at he); all_goals first | exact hi.elim | exact hi.1.elim | exact he.elim | omega | (rcases hi with hi | hi <;> omega) | (rcases he with he | he <;> omega))
   have hq : (rDoMt ((e0, rs), n, ms) (k, rq, mv, en, an, key, g)) = (((e0, rs), n, ms), 9) := by
    rcases hb : lastN P ms ms.length with _ | i
    ·
     rw [hrd, hb]
    have h9 := dtrue h55; rw [h2, hb] at h9; have h8 : ((i : Nat) : Int) < 0 := h9; omega
   rw [hq]
   exact ⟨⟨_, rfl, HG1.mono fun _ _ _ => trivial⟩, E⟩
  obtain ⟨i, hi⟩ : ∃ i, lastN P ms ms.length = some i := by
   rcases hb : lastN P ms ms.length with _ | i
   ·
    rw [h2, hb] at h55; simp [optI] at h55
   exact ⟨i, rfl⟩
  have hlti : lt = (i : Int) := by rw [h2, hi]; rfl
  subst hlti
  obtain ⟨x, hx, hPx⟩ := lastN_at hi
  have hil := (List.getElem?_eq_some_iff.1 hx).1
  rw [hi] at hrd
  simp only [] at hrd
  have hcm : ms.length ≤ c2 := by obtain ⟨_, _, hv, hcl, _⟩ := HSm; cases hv; exact hcl
  refine c_skip (n_then (c_seq (c_seq (wp_reg zd (l_v (v_fieldAddr (off := 0) (ft := 31) zk rfl) (l_v (v_load zk rfl (by first | exact HB4.pv 0 _ rfl | exact HB3.pv 0 _ rfl | exact HB2.pv 0 _ rfl | assumption)) ?_))))))
  refine l_v (v_eql rfl rfl) ?_
  refine l_nil (n_then (c_cond rfl rfl (fun h59 => ?_) (fun h59 => ?_)))
  ·
   have hk : k = 10 := dtrue h59
   rw [if_pos hk] at hrd
   refine c_seq (wp_any zk ?_)
   have e136 : Ext w133 { w133 with drawn := w133.drawn + 1 } := Keep.drawn _ _
   generalize hw136 : ({ w133 with drawn := w133.drawn + 1 } : World) = w136 at e136 ⊢
   clear hw136
   have := e136.size
   refine r_cut 10 rfl zd zd zd ?_
   refine wp_regJW (fun k => w136.heap.size ≤ k) (EqJ [] (ChainJ (tMa) (54) w136.heap.size (w136.heap.size) (fun b => b < w.heap.size ∨ n5 ≤ b) (fun b => b < w.heap.size ∨ n5 ≤ b) (.slice none 0 0 : Value) ([]) [4] [none] [ms.take i])) zd zd (fun vals done hd => EqJ.start (ChainJ.start (OwV.nil _ _ _ _ _) (Nat.le_refl _) (Nat.le_refl _) (fun i hi => hd i (dOf_lt zq hi))) (fun k j hq => hd k (dQ_lt zq k j hq))) ?_
   refine rj_v (EqJ.on ChainJ.on) zq (fun done vals w hR hJ hdn hd => v_fieldAddr (off := 3) (ft := 25) zk rfl) ?_
   replace HB2 := HB2.ext e136
   replace HB3 := HB3.ext e136
   replace HB4 := HB4.ext e136
   refine rj_v (EqJ.on ChainJ.on) zq (fun done vals w hR hJ hdn hd => v_load zk (hd 0 rfl) (by first | exact (HB4.keep hR dj4).pv 3 _ rfl | exact (HB3.keep hR dj4).pv 3 _ rfl | exact (HB2.keep hR dj4).pv 3 _ rfl | assumption)) ?_
   refine rj_v (EqJ.on ChainJ.on) zq (fun done vals w hR hJ hdn hd => zmI rfl) ?_
   refine rj_v (EqJ.on ChainJ.on) zq (fun done vals w hR hJ hdn hd => v_slice (et := 54) (sz := 7) (l := 0) (h := i) zk zk (hd 1 rfl) rfl ⟨.i64, ((hd 2 rfl)).trans (congrArg (Value.int _) zo)⟩ zo zo) ?_
   replace E := E.trans e136.keep
   replace HG1 := HG1.ext e136
   replace HSk := HSk.ext e136
   replace HGm := HGm.ext e136
   replace HSr := HSr.ext e136
   replace HSm := HSm.ext e136
   replace HGv := HGv.ext e136
   replace HSvf := HSvf.ext e136
   refine rj_d (fun done vals w hR hcl hdk hJ hdn hd => by
     have := hR.size
     obtain ⟨hacc, hown, hsrc⟩ := hJ.1.at (n := 0) rfl hdk (fun m h => by cases h)
     exact to_append (et := 54) (bytes := 88) zk rfl hacc (hd 3 rfl) ((HSm.keep hR dj2).sub (l := 0) (h := i) zo zo) (fun cs x h => Ty.mono _ h (fun b _ h => ⟨.inl h, fun ho => (hown b ho).elim (fun h' => by cases h') (fun h' => by omega)⟩)) (by (simp; omega)) (by simp only [maxLen]; (simp; omega)) zo (fun a n cc w1 o hn kk ho _ => ⟨kk.mono (fun b _ h => (hown b h).resolve_left (fun h => by cases h)), hJ.step hdk zq (hJ.1.app (n := 0) rfl hdk (fun m h => by cases h) rfl (once_as zq) (ps_ne zq) o kk ho)⟩)) ?_
   refine rj_v (EqJ.on ChainJ.on) zq (fun done vals w hR hJ hdn hd => v_fieldAddr (off := 3) (ft := 25) zk rfl) ?_
   refine rj_v (EqJ.on ChainJ.on) zq (fun done vals w hR hJ hdn hd => v_load zk (hd 5 rfl) (by first | exact (HB4.keep hR dj4).pv 3 _ rfl | exact (HB3.keep hR dj4).pv 3 _ rfl | exact (HB2.keep hR dj4).pv 3 _ rfl | assumption)) ?_
   refine rj_v (EqJ.on ChainJ.on) zq (fun done vals w hR hJ hdn hd => zmI rfl) ?_
   refine rj_v (EqJ.on ChainJ.on) zq (fun done vals w hR hJ hdn hd => v_add (hd 7 rfl) rfl (by first | exact wr_i64 zo zo | rfl)) ?_
   refine rj_v (EqJ.on ChainJ.on) zq (fun done vals w hR hJ hdn hd => v_slice (et := 54) (sz := 7) (l := i + 1) (h := ms.length) zk zk (hd 6 rfl) ⟨.i64, ((hd 8 rfl)).trans (congrArg (Value.int _) zo)⟩ rfl zo zo) ?_
   refine rj_nil (fun vals w137 k137 J137 => ?_)
   rintro _ _ rfl _ _ rfl _ _ rfl _ _ rfl v64 hv64 - _ _ rfl _ _ rfl _ _ rfl _ _ rfl _ _ rfl
   have := k137.size
   have HO64 : OwV (tMa) (54) w137 (w136.heap.size) (fun b => b < w.heap.size ∨ n5 ≤ b) v64 (ms.take i) := by
    have h := J137.1.fin (by exact Nat.le_refl _)
    have h2 : [] ++ ([ms.take i]).flatten = ms.take i := by simp
    rw [h2] at h; rw [hv64]; exact h
   clear hv64
   obtain ⟨a64, c64, rfl⟩ := HO64.shape
   have zo_HO64 := fun (b : Nat) h => HO64.own_lt (b := b) h
   refine fin_nilJ (n_then (r_cut 1 rfl zd zd zd ?_))
   refine r_one zd rfl ?_
   replace HSm := HSm.keep k137 dj1
   refine l_to (to_append (et := 54) (bytes := 88) zk (zvS rfl) HO64 (zvS rfl) (HSm.sub (l := i + 1) (h := ms.length) zo zo) ((fun cs x h => Ty.mono _ h (fun b hb h => ⟨.inl h, fun ho => by have := HO64.own_lt ho; omega⟩))) (by first | omega | (simp; done) | (simp; omega)) (by simp only [maxLen]; first | omega | (simp; done) | (simp; omega)) zo ?_)
   rintro a70 n70 c70 w70 HO70 hn70 k70 ho70 hz70
   have := k70.size
   rw [List.take_length] at HO70
   have zo_HO70 := fun (b : Nat) h => HO70.own_lt (b := b) h
   refine l_nil (n_then (r_cut 1 rfl zd zd zd ?_))
   refine r_one zd rfl ?_
   refine l_v (v_fieldAddr (off := 3) (ft := 25) zk rfl) (l_nil (n_then (r_one zd rfl ?_)))
   replace HB2 := (HB2.keep k137 dj4).keep k70 (by intro h; have he0 := h; (try dsimp only at h); (try simp only [Value.ownBlock, Option.some.injEq] at h); first | omega | (have := (HO64).own_lt he0; omega) | (have := zo_HO64 _ he0; omega))
   refine l_to (to_store rfl rfl (zvS rfl) rfl zk HB2 dj5 ?_)
   rintro w138 HX138 k138 z138
   have := k138.size
   replace HB2 := HX138
   clear HX138
   try simp only [zS, Nat.zero_add, Nat.reduceAdd, List.drop_nil] at HB2
   replace HB3 := ((HB3.keep k137 dj4).keep k70 (by intro h; have he0 := h; (try dsimp only at h); (try simp only [Value.ownBlock, Option.some.injEq] at h); first | omega | (have := (HO64).own_lt he0; omega) | (have := zo_HO64 _ he0; omega))).keep k138 dj4
   replace HB4 := ((HB4.keep k137 dj4).keep k70 (by intro h; have he0 := h; (try dsimp only at h); (try simp only [Value.ownBlock, Option.some.injEq] at h); first | omega | (have := (HO64).own_lt he0; omega) | (have := zo_HO64 _ he0; omega))).keep k138 dj4
   refine l_nil (n_then (c_seq (wp_reg zd (l_v (v_loadA zk rfl (by first | exact HB4.pv | exact HB3.pv | exact HB2.pv | assumption) rfl) ?_))))
   refine l_to (to_storeA (n := 4) rfl rfl (zvA rfl) zk rfl dj6 HB4 dj5 ?_)
   rintro w139 HX139 k139 z139
   have := k139.size
   replace HB4 := HX139
   clear HX139
   try simp only [zS, Nat.zero_add, Nat.reduceAdd, List.drop_nil] at HB4
   refine l_v (v_assign rfl) (l_nil (n_then (c_ret (r_then (r_blk (r_then (ret2cv (n := 4) rfl zq zq rfl zk HB4.pv rfl (zvI rfl) ?_)))))))
   rw [hrd]
   replace E := (((E.step k137 dj3).step k70 (by intro i hi he; have he0 := he; (try dsimp only [NoK] at hi he ⊢); (try simp only [Value.ownBlock, Option.some.injEq] at he); first | exact he.elim | omega | exact he | (have := (HO64).own_lt he0; omega) | (have := zo_HO64 _ he0; omega) | (have := (HO64).own_lt he0; rcases hi with hi | hi <;> omega))).step k138 dj3).step k139 dj3
   replace HSr := (((HSr.keep k137 dj1).keep k70 (by intro i _ hi he; have he0 := he; (try dsimp only [NoK, AllB] at hi he); (try simp only [Value.ownBlock, Option.some.injEq] at he); first | exact hi.elim | exact he.elim | omega | (rcases hi with hi | hi <;> omega) | (rcases he with he | he <;> omega) | (have := (HO64).own_lt he0; omega) | (have := zo_HO64 _ he0; omega) | (have := (HO64).own_lt he0; rcases hi with hi | hi <;> omega))).keep k138 dj1).keep k139 dj1
   replace HO70 := (HO70.keep k138 (by intro i ho he; have he0 := he; have ho0 := ho; (try dsimp only [NoK] at he); (try simp only [Value.ownBlock, Option.some.injEq, reduceCtorEq] at ho); (try simp only [Value.ownBlock, Option.some.injEq, reduceCtorEq] at he); first | exact he.elim | exact ho.elim | omega | (have := zo_HO70 _ ho0; omega)) (by intro i _ hi _ he; have he0 := he; have hi := hi; have he := he; (try dsimp only [NoK, AllB] at hi he); (try simp only [Value.ownBlock, Option.some.injEq, reduceCtorEq] at he); all_goals first | exact hi.elim | exact hi.1.elim | exact he.elim | omega | (rcases hi with hi | hi <;> omega) | (rcases he with he | he <;> omega))).keep k139 (by intro i ho he; have he0 := he; have ho0 := ho; (try dsimp only [NoK] at he); (try simp only [Value.ownBlock, Option.some.injEq, reduceCtorEq] at ho); (try simp only [Value.ownBlock, Option.some.injEq, reduceCtorEq] at he); first | exact he.elim | exact ho.elim | omega | (have := zo_HO70 _ ho0; omega)) (by intro i _ hi _ he; have he0 := he; have hi := hi; have he := he; (try dsimp only [NoK, AllB] at hi he); (try simp only [Value.ownBlock, Option.some.injEq, reduceCtorEq] at he); all_goals first | exact hi.elim | exact hi.1.elim | exact he.elim | omega | (rcases hi with hi | hi <;> omega) | (rcases he with he | he <;> omega))
   exact ⟨⟨_, rfl, AgV.mkMt (HSr.mono fun _ _ _ => trivial) (HO70.view.mono fun _ _ _ => trivial) ie im⟩, E⟩
  rw [if_neg (dfalse h59)] at hrd
  refine c_skip (n_then (c_seq (c_seq (wp_reg zd (l_v (v_fieldAddr (off := 0) (ft := 24) zk rfl) (l_v (v_fieldAddr (off := 0) (ft := 2) zk rfl) (l_v (v_load zk rfl (by first | exact HB4.pv 0 _ rfl | exact HB3.pv 0 _ rfl | exact HB2.pv 0 _ rfl | assumption)) ?_)))))))
  refine l_v (v_eql rfl rfl) ?_
  refine l_nil (n_then (c_cond rfl rfl (fun h76 => ?_) (fun h76 => ?_)))
  ·
   refine c_seq (wp_reg zd (l_v (v_loadA zk rfl (by first | exact HB4.pv | exact HB3.pv | exact HB2.pv | assumption) rfl) ?_))
   refine l_to (to_storeA (n := 4) rfl rfl (zvA rfl) zk rfl dj6 HB4 dj5 ?_)
   rintro w140 HX140 k140 z140
   have := k140.size
   replace HB4 := HX140
   clear HX140
   try simp only [zS, Nat.zero_add, Nat.reduceAdd, List.drop_nil] at HB4
   refine l_v (v_assign rfl) (l_nil (n_then (c_ret (r_then (r_blk (r_then (ret2cv (n := 4) rfl zq zq rfl zk HB4.pv rfl (zvI rfl) ?_)))))))
   rw [hrd, if_pos (dtrue h76)]
   replace E := E.step k140 dj3
   replace HG1 := HG1.keep k140 dj1
   exact ⟨⟨_, rfl, HG1.mono fun _ _ _ => trivial⟩, E⟩
  rw [if_neg (dfalse h76)] at hrd
  have hxm : x.1 = mv := by rw [hP] at hPx; simp only [Bool.and_eq_true, decide_eq_true_eq] at hPx; exact hPx.1
  obtain ⟨j, hj⟩ : ∃ j, begI rs mv.2.1 = some j := by
   have h9 := (p4.1 x (List.mem_of_getElem? hx)).2.2
   unfold atMa at h9
   rw [hxm] at h9
   rcases hb : begI rs mv.2.1 with _ | j
   ·
    rw [hb] at h9; cases h9
   exact ⟨j, rfl⟩
  obtain ⟨hjl, _⟩ := begI_some hj
  have hoj : optI (some j) = (j : Int) := rfl
  have hjn : (optI (begI rs mv.2.1)).toNat = j := by rw [hj, hoj]; omega
  rw [hjn] at hrd
  obtain ⟨b7, rfl, hb7, hb7'⟩ := HO7.addr (fun h => by rw [List.map_eq_nil_iff] at h; rw [h] at hjl; simp at hjl)
  refine c_skip (n_then (c_seq (wp_any zk ?_)))
  have e141 : Ext w133 { w133 with drawn := w133.drawn + 1 } := Keep.drawn _ _
  generalize hw141 : ({ w133 with drawn := w133.drawn + 1 } : World) = w141 at e141 ⊢
  clear hw141
  have := e141.size
  refine r_cut 11 rfl zd zd zd ?_
  refine wp_regdW (NoK) zd zd ?_
  refine rt_v (fun vals w hR hd => zmS rfl) ?_
  refine rt_v (fun vals w hR hd => v_fieldAddr (off := 0) (ft := 24) zk rfl) ?_
  replace HB2 := HB2.ext e141
  replace HB3 := HB3.ext e141
  replace HB4 := HB4.ext e141
  refine rt_v (fun vals w hR hd => v_loadA zk (hd 1 rfl) (by first | exact (show Pv _ _ [_, _] from pv_sub 0 2 (HB4.ext hR).pv) | exact (show Pv _ _ [_, _] from pv_sub 0 2 (HB3.ext hR).pv) | exact (show Pv _ _ [_, _] from pv_sub 0 2 (HB2.ext hR).pv) | exact pv_at 0 (HB4.ext hR).pv | exact pv_at 0 (HB3.ext hR).pv | exact pv_at 0 (HB2.ext hR).pv | assumption) rfl) ?_
  refine rt_v (fun vals w hR hd => v_fieldAddr (off := 10) (ft := 39) zk rfl) ?_
  refine rt_v (fun vals w hR hd => v_fieldAddr (off := 1) (ft := 33) zk (hd 3 rfl)) ?_
  refine rt_v (fun vals w hR hd => v_load zk (hd 4 rfl) (by first | exact (HB4.ext hR).pv 11 _ rfl | exact (HB3.ext hR).pv 11 _ rfl | exact (HB2.ext hR).pv 11 _ rfl | exact (HB4.ext hR).pv 1 _ rfl | exact (HB3.ext hR).pv 1 _ rfl | exact (HB2.ext hR).pv 1 _ rfl | assumption)) ?_
  replace HGm := HGm.ext e141
  replace HSvf := HSvf.ext e141
  refine rt_vf (fun vals w hR hd => to_f2 zk (hd 2 rfl) (hd 5 rfl) (rBegins_c (HGm.ext hR) (HSvf.ext hR))) ?_
  rw [hj, hoj]
  refine rt_v (fun vals w hR hd => v_fieldAddr (off := 10) (ft := 39) zk rfl) ?_
  refine rt_v (fun vals w hR hd => v_fieldAddr (off := 5) (ft := 3) zk (hd 7 rfl)) ?_
  refine rt_v (fun vals w hR hd => v_load zk (hd 8 rfl) (by first | exact (HB4.ext hR).pv 15 _ rfl | exact (HB3.ext hR).pv 15 _ rfl | exact (HB2.ext hR).pv 15 _ rfl | exact (HB4.ext hR).pv 5 _ rfl | exact (HB3.ext hR).pv 5 _ rfl | exact (HB2.ext hR).pv 5 _ rfl | assumption)) ?_
  refine rt_v (fun vals w hR hd => v_indexAddr (et := 3) (sz := 1) (k := j) zk zk (hd 0 rfl) (hd 6 rfl) (by first | rfl | omega) (by simpa using hjl)) ?_
  refine rt_nil (fun w142 e142 => ?_)
  rintro _ rfl _ rfl _ rfl _ rfl _ rfl _ rfl _ rfl _ rfl _ rfl _ rfl _ rfl
  have := e142.size
  refine fin_nil (n_then (r_one zd rfl ?_))
  replace HO7 := (HO7.ext e141).ext e142
  refine l_to (to_storeO (k := j) (off := 0) rfl (by rw [show (tInt IntKind.i64).sz = 1 from rfl]; simp [add_lit]) (by first | decide | exact (of_decide_eq_true rfl : 0 < 2)) (zvI rfl) rfl zk HO7 (x1 := mv.2.2.2.2.2) (by rw [List.getElem?_map, getD_at hjl]; rfl) (fun cs h => by obtain ⟨rfl, _⟩ := h; exact ⟨rfl, wf_of_i64 iv3⟩) ?_)
  rintro w11 HO11 k11 z11
  have := k11.size
  have zo_HO11 := fun (b : Nat) h => HO11.own_lt (b := b) h
  refine l_nil (n_then (c_seq ?_))
  replace E := ((E.trans e141.keep).trans e142.keep).step k11 (by intro i hi he; have he0 := he; (try dsimp only [NoK] at hi he ⊢); (try simp only [Value.ownBlock, Option.some.injEq] at he); first | exact he.elim | omega | exact he | (first | exact (hdd _ ho0 (by rw [show i = b7 from he0]; rfl)).elim | (rcases hi with h | h; omega; exact (h.2.2 (by rw [show i = b7 from he0]; rfl)).elim)))
  replace HG1 := ((HG1.ext e141).ext e142).keep k11 (by intro i _ hi he; have he0 := he; (try dsimp only [NoK, AllB] at hi he); (try simp only [Value.ownBlock, Option.some.injEq] at he); first | exact hi.elim | exact he.elim | omega | (rcases hi with hi | hi <;> omega) | (rcases he with he | he <;> omega) | (first | exact (hdd _ ho0 (by rw [show i = b7 from he0]; rfl)).elim | (rcases hi with h | h; omega; exact (h.2.2 (by rw [show i = b7 from he0]; rfl)).elim)))
  replace HSk := ((HSk.ext e141).ext e142).keep k11 (by intro i _ hi he; have he0 := he; (try dsimp only [NoK, AllB] at hi he); (try simp only [Value.ownBlock, Option.some.injEq] at he); first | exact hi.elim | exact he.elim | omega | (rcases hi with hi | hi <;> omega) | (rcases he with he | he <;> omega) | (first | exact (hdd _ ho0 (by rw [show i = b7 from he0]; rfl)).elim | (rcases hi with h | h; omega; exact (h.2.2 (by rw [show i = b7 from he0]; rfl)).elim)))
  replace HSr := ((HSr.ext e141).ext e142).keep k11 (by intro i _ hi he; have he0 := he; (try dsimp only [NoK, AllB] at hi he); (try simp only [Value.ownBlock, Option.some.injEq] at he); first | exact hi.elim | exact he.elim | omega | (rcases hi with hi | hi <;> omega) | (rcases he with he | he <;> omega) | (first | exact (hdd _ ho0 (by rw [show i = b7 from he0]; rfl)).elim | (rcases hi with h | h; omega; exact (h.2.2 (by rw [show i = b7 from he0]; rfl)).elim)))
  replace HSm := ((HSm.ext e141).ext e142).keep k11 (by intro i _ hi he; have he0 := he; (try dsimp only [NoK, AllB] at hi he); (try simp only [Value.ownBlock, Option.some.injEq] at he); first | exact hi.elim | exact he.elim | omega | (rcases hi with hi | hi <;> omega) | (rcases he with he | he <;> omega) | (first | exact (hdd _ ho0 (by rw [show i = b7 from he0]; rfl)).elim | (rcases hi with h | h; omega; exact (h.2.2 (by rw [show i = b7 from he0]; rfl)).elim)))
  replace HGv := ((HGv.ext e141).ext e142).keep k11 (by intro i _ hi he; have he0 := he; (try dsimp only [NoK, AllB] at hi he); (try simp only [Value.ownBlock, Option.some.injEq] at he); first | exact hi.elim | exact he.elim | omega | (rcases hi with hi | hi <;> omega) | (rcases he with he | he <;> omega) | (first | exact (hdd _ ho0 (by rw [show i = b7 from he0]; rfl)).elim | (rcases hi with h | h; omega; exact (h.2.2 (by rw [show i = b7 from he0]; rfl)).elim)))
  replace HO6 := ((HO6.ext e141).ext e142).keep k11 (by intro i ho he; have he0 := he; have ho0 := ho; (try dsimp only [NoK] at he); (try simp only [Value.ownBlock, Option.some.injEq, reduceCtorEq] at ho); (try simp only [Value.ownBlock, Option.some.injEq, reduceCtorEq] at he); first | exact he.elim | exact ho.elim | omega | (have := zo_HO6 _ ho0; omega) | (first | exact (hdd _ ho0 (by rw [show i = b7 from he0]; rfl)).elim | (rcases hi with h | h; omega; exact (h.2.2 (by rw [show i = b7 from he0]; rfl)).elim))) (by intro i _ hi _ he; have he0 := he; have hi := hi; have he := he; (try dsimp only [NoK, AllB] at hi he); (try simp only [Value.ownBlock, Option.some.injEq, reduceCtorEq] at he); all_goals first | exact hi.elim | exact hi.1.elim | exact he.elim | omega | (rcases hi with hi | hi <;> omega) | (rcases he with he | he <;> omega) | (first | exact (hdd _ ho0 (by rw [show i = b7 from he0]; rfl)).elim | (rcases hi with h | h; omega; exact (h.2.2 (by rw [show i = b7 from he0]; rfl)).elim)))
  replace HGm := (HGm.ext e142).keep k11 (by intro i _ hi he; have he0 := he; (try dsimp only [NoK, AllB] at hi he); (try simp only [Value.ownBlock, Option.some.injEq] at he); first | exact hi.elim | exact he.elim | omega | (rcases hi with hi | hi <;> omega) | (rcases he with he | he <;> omega) | (first | exact (hdd _ ho0 (by rw [show i = b7 from he0]; rfl)).elim | (rcases hi with h | h; omega; exact (h.2.2 (by rw [show i = b7 from he0]; rfl)).elim)))
  replace HSvf := (HSvf.ext e142).keep k11 (by intro i _ hi he; have he0 := he; (try dsimp only [NoK, AllB] at hi he); (try simp only [Value.ownBlock, Option.some.injEq] at he); first | exact hi.elim | exact he.elim | omega | (rcases hi with hi | hi <;> omega) | (rcases he with he | he <;> omega) | (first | exact (hdd _ ho0 (by rw [show i = b7 from he0]; rfl)).elim | (rcases hi with h | h; omega; exact (h.2.2 (by rw [show i = b7 from he0]; rfl)).elim)))
  replace HB2 := (HB2.ext e142).keep k11 (by intro h; have he0 := h; (try dsimp only at h); (try simp only [Value.ownBlock, Option.some.injEq] at h); first | omega | (have he := he0; first | exact (hdd _ ho0 (by rw [show i = b7 from he0]; rfl)).elim | (rcases hi with h | h; omega; exact (h.2.2 (by rw [show i = b7 from he0]; rfl)).elim)))
  replace HB3 := (HB3.ext e142).keep k11 (by intro h; have he0 := h; (try dsimp only at h); (try simp only [Value.ownBlock, Option.some.injEq] at h); first | omega | (have he := he0; first | exact (hdd _ ho0 (by rw [show i = b7 from he0]; rfl)).elim | (rcases hi with h | h; omega; exact (h.2.2 (by rw [show i = b7 from he0]; rfl)).elim)))
  replace HB4 := (HB4.ext e142).keep k11 (by intro h; have he0 := h; (try dsimp only at h); (try simp only [Value.ownBlock, Option.some.injEq] at h); first | omega | (have he := he0; first | exact (hdd _ ho0 (by rw [show i = b7 from he0]; rfl)).elim | (rcases hi with h | h; omega; exact (h.2.2 (by rw [show i = b7 from he0]; rfl)).elim)))
  obtain ⟨n8, hn8⟩ : ∃ n, n = w11.heap.size := ⟨_, rfl⟩
  have HSz := HO6.view.mono (F' := fun b => b < w.heap.size ∨ (n5 ≤ b ∧ b < n8)) fun b hb h => h.elim (fun h => .inr zo) fun h => h.elim .inl fun h => .inr zo
  have HSy := HO11.view.mono (F' := fun b => b < w.heap.size ∨ (n5 ≤ b ∧ b < n8)) fun b hb h => h.elim (fun h => .inr zo) fun h => h.elim
  refine wp_reg zd (l_v (v_fieldAddr (off := 0) (ft := 24) zk rfl) (l_v (v_fieldAddr (off := 0) (ft := 2) zk rfl) (l_v (v_load zk rfl (by first | exact HB4.pv 0 _ rfl | exact HB3.pv 0 _ rfl | exact HB2.pv 0 _ rfl | assumption)) ?_)))
  refine l_v (v_add rfl rfl (by first | exact wr_i64 zo zo | rfl)) ?_
  refine l_v (zmS rfl) (l_v (zmS rfl) (l_to (to_f3 zk (zvI rfl) (zvS rfl) (zvS rfl) (CallsR.mono (rMap_c (F := fun b => b < w.heap.size ∨ n5 ≤ b) (HSz.mono fun b _ h => h.elim .inl fun h => .inr h.1) (HSy.mono fun b _ h => h.elim .inl fun h => .inr h.1) ⟨by omega, by omega⟩ (by simp) (by simp; omega)) ?_))))
  rintro _ w60 ⟨HG9, e60⟩
  have := e60.size
  obtain ⟨a9, c9, rfl, HS9, he9⟩ := HG9.mp
  simp only at HS9 he9
  replace HS9 := HS9.mono (F' := fun b => b < w.heap.size ∨ (n5 ≤ b ∧ b < w60.heap.size)) fun b hb h => h.elim (fun h => h.elim .inl fun h => .inr ⟨h, hb⟩) fun h => .inr ⟨by omega, hb⟩
  replace HB2 := HB2.ext e60
  refine l_v (v_fieldAddr (off := 0) (ft := 24) zk rfl) (l_to (to_storeA (n := 2) rfl rfl (zvA rfl) zk rfl dj6 HB2 dj5 ?_))
  rintro w143 HX143 k143 z143
  have := k143.size
  replace HB2 := HX143
  clear HX143
  try simp only [zS, Nat.zero_add, Nat.reduceAdd, List.drop_nil] at HB2
  replace HB3 := (HB3.ext e60).keep k143 (by intro h; have he0 := h; (try dsimp only at h); (try simp only [Value.ownBlock, Option.some.injEq] at h); first | omega | (have he := he0; first | exact (hdd _ ho0 (by rw [show i = b7 from he0]; rfl)).elim | (rcases hi with h | h; omega; exact (h.2.2 (by rw [show i = b7 from he0]; rfl)).elim)))
  replace HB4 := (HB4.ext e60).keep k143 (by intro h; have he0 := h; (try dsimp only at h); (try simp only [Value.ownBlock, Option.some.injEq] at h); first | omega | (have he := he0; first | exact (hdd _ ho0 (by rw [show i = b7 from he0]; rfl)).elim | (rcases hi with h | h; omega; exact (h.2.2 (by rw [show i = b7 from he0]; rfl)).elim)))
  refine l_nil (n_then (c_seq (wp_reg zd (l_v (v_fieldAddr (off := 3) (ft := 25) zk rfl) (l_v (v_load zk rfl (by first | exact HB4.pv 3 _ rfl | exact HB3.pv 3 _ rfl | exact HB2.pv 3 _ rfl | assumption)) ?_)))))
  replace HSm := (HSm.ext e60).keep k143 (by intro i _ hi he; have he0 := he; (try dsimp only [NoK, AllB] at hi he); (try simp only [Value.ownBlock, Option.some.injEq] at he); first | exact hi.elim | exact he.elim | omega | (rcases hi with hi | hi <;> omega) | (rcases he with he | he <;> omega) | (first | exact (hdd _ ho0 (by rw [show i = b7 from he0]; rfl)).elim | (rcases hi with h | h; omega; exact (h.2.2 (by rw [show i = b7 from he0]; rfl)).elim)))
  refine l_to (to_appNil (et := 54) (bytes := 88) (F := fun b => b < w.heap.size) zk rfl (zvS rfl) HSm (fun cs z h => h) zo ?_)
  rintro v99 w99 HO99 e99
  have := e99.size
  replace E := (E.trans e60.keep).step k143 (by intro i hi he; have he0 := he; (try dsimp only [NoK] at hi he ⊢); (try simp only [Value.ownBlock, Option.some.injEq] at he); first | exact he.elim | omega | exact he | (first | exact (hdd _ ho0 (by rw [show i = b7 from he0]; rfl)).elim | (rcases hi with h | h; omega; exact (h.2.2 (by rw [show i = b7 from he0]; rfl)).elim)))
  replace HG1 := (HG1.ext e60).keep k143 (by intro i _ hi he; have he0 := he; (try dsimp only [NoK, AllB] at hi he); (try simp only [Value.ownBlock, Option.some.injEq] at he); first | exact hi.elim | exact he.elim | omega | (rcases hi with hi | hi <;> omega) | (rcases he with he | he <;> omega) | (first | exact (hdd _ ho0 (by rw [show i = b7 from he0]; rfl)).elim | (rcases hi with h | h; omega; exact (h.2.2 (by rw [show i = b7 from he0]; rfl)).elim)))
  replace HSk := (HSk.ext e60).keep k143 (by intro i _ hi he; have he0 := he; (try dsimp only [NoK, AllB] at hi he); (try simp only [Value.ownBlock, Option.some.injEq] at he); first | exact hi.elim | exact he.elim | omega | (rcases hi with hi | hi <;> omega) | (rcases he with he | he <;> omega) | (first | exact (hdd _ ho0 (by rw [show i = b7 from he0]; rfl)).elim | (rcases hi with h | h; omega; exact (h.2.2 (by rw [show i = b7 from he0]; rfl)).elim)))
  replace HGm := (HGm.ext e60).keep k143 (by intro i _ hi he; have he0 := he; (try dsimp only [NoK, AllB] at hi he); (try simp only [Value.ownBlock, Option.some.injEq] at he); first | exact hi.elim | exact he.elim | omega | (rcases hi with hi | hi <;> omega) | (rcases he with he | he <;> omega) | (first | exact (hdd _ ho0 (by rw [show i = b7 from he0]; rfl)).elim | (rcases hi with h | h; omega; exact (h.2.2 (by rw [show i = b7 from he0]; rfl)).elim)))
  replace HSr := (HSr.ext e60).keep k143 (by intro i _ hi he; have he0 := he; (try dsimp only [NoK, AllB] at hi he); (try simp only [Value.ownBlock, Option.some.injEq] at he); first | exact hi.elim | exact he.elim | omega | (rcases hi with hi | hi <;> omega) | (rcases he with he | he <;> omega) | (first | exact (hdd _ ho0 (by rw [show i = b7 from he0]; rfl)).elim | (rcases hi with h | h; omega; exact (h.2.2 (by rw [show i = b7 from he0]; rfl)).elim)))
  replace HGv := (HGv.ext e60).keep k143 (by intro i _ hi he; have he0 := he; (try dsimp only [NoK, AllB] at hi he); (try simp only [Value.ownBlock, Option.some.injEq] at he); first | exact hi.elim | exact he.elim | omega | (rcases hi with hi | hi <;> omega) | (rcases he with he | he <;> omega) | (first | exact (hdd _ ho0 (by rw [show i = b7 from he0]; rfl)).elim | (rcases hi with h | h; omega; exact (h.2.2 (by rw [show i = b7 from he0]; rfl)).elim)))
  replace HSvf := (HSvf.ext e60).keep k143 (by intro i _ hi he; have he0 := he; (try dsimp only [NoK, AllB] at hi he); (try simp only [Value.ownBlock, Option.some.injEq] at he); first | exact hi.elim | exact he.elim | omega | (rcases hi with hi | hi <;> omega) | (rcases he with he | he <;> omega) | (first | exact (hdd _ ho0 (by rw [show i = b7 from he0]; rfl)).elim | (rcases hi with h | h; omega; exact (h.2.2 (by rw [show i = b7 from he0]; rfl)).elim)))
  replace HS9 := HS9.keep k143 (by intro i _ hi he; have he0 := he; (try dsimp only [NoK, AllB] at hi he); (try simp only [Value.ownBlock, Option.some.injEq] at he); first | exact hi.elim | exact he.elim | omega | (rcases hi with hi | hi <;> omega) | (rcases he with he | he <;> omega) | (first | exact (hdd _ ho0 (by rw [show i = b7 from he0]; rfl)).elim | (rcases hi with h | h; omega; exact (h.2.2 (by rw [show i = b7 from he0]; rfl)).elim)))
  obtain ⟨a99, c99, rfl⟩ := HO99.shape
  obtain ⟨b99, rfl, hb99, hb99'⟩ := HO99.addr (fun h => by rw [h] at hil; simp at hil)
  have zo_HO99 := fun (b : Nat) h => HO99.own_lt (b := b) h
  replace HB2 := HB2.ext e99
  refine l_v (v_fieldAddr (off := 3) (ft := 25) zk rfl) (l_to (to_store rfl rfl (zvS rfl) rfl zk HB2 dj5 ?_))
  rintro w144 HX144 k144 z144
  have := k144.size
  replace HB2 := HX144
  clear HX144
  try simp only [zS, Nat.zero_add, Nat.reduceAdd, List.drop_nil] at HB2
  replace HB3 := (HB3.ext e99).keep k144 (by intro h; have he0 := h; (try dsimp only at h); (try simp only [Value.ownBlock, Option.some.injEq] at h); first | omega | (have he := he0; first | exact (hdd _ ho0 (by rw [show i = b7 from he0]; rfl)).elim | (rcases hi with h | h; omega; exact (h.2.2 (by rw [show i = b7 from he0]; rfl)).elim)))
  replace HB4 := (HB4.ext e99).keep k144 (by intro h; have he0 := h; (try dsimp only at h); (try simp only [Value.ownBlock, Option.some.injEq] at h); first | omega | (have he := he0; first | exact (hdd _ ho0 (by rw [show i = b7 from he0]; rfl)).elim | (rcases hi with h | h; omega; exact (h.2.2 (by rw [show i = b7 from he0]; rfl)).elim)))
  refine l_nil (n_then (wp_reg zd (l_v (v_fieldAddr (off := 3) (ft := 25) zk rfl) (l_v (v_load zk rfl (by first | exact HB4.pv 3 _ rfl | exact HB3.pv 3 _ rfl | exact HB2.pv 3 _ rfl | assumption)) ?_))))
  refine l_v (zmI rfl) (l_v (v_indexAddr (et := 54) (sz := 7) (k := i) zk zk rfl rfl (by first | rfl | omega) (hil)) ?_)
  replace HO99 := HO99.keep k144 (by intro i ho he; have he0 := he; have ho0 := ho; (try dsimp only [NoK] at he); (try simp only [Value.ownBlock, Option.some.injEq, reduceCtorEq] at ho); (try simp only [Value.ownBlock, Option.some.injEq, reduceCtorEq] at he); first | exact he.elim | exact ho.elim | omega | (have := zo_HO99 _ ho0; omega) | (first | exact (hdd _ ho0 (by rw [show i = b7 from he0]; rfl)).elim | (rcases hi with h | h; omega; exact (h.2.2 (by rw [show i = b7 from he0]; rfl)).elim))) (by intro i _ hi _ he; have he0 := he; have hi := hi; have he := he; (try dsimp only [NoK, AllB] at hi he); (try simp only [Value.ownBlock, Option.some.injEq, reduceCtorEq] at he); all_goals first | exact hi.elim | exact hi.1.elim | exact he.elim | omega | (rcases hi with hi | hi <;> omega) | (rcases he with he | he <;> omega) | (first | exact (hdd _ ho0 (by rw [show i = b7 from he0]; rfl)).elim | (rcases hi with h | h; omega; exact (h.2.2 (by rw [show i = b7 from he0]; rfl)).elim)))
  refine l_v (v_fieldAddr (off := 6) (ft := 4) zk rfl) (l_to (to_storeO (k := i) (off := 6) rfl (by rw [show tMa.sz = 7 from rfl]; simp [add_lit]) (by first | decide | exact (of_decide_eq_true rfl : 6 < 2)) (zvB rfl) rfl zk HO99 (x1 := (x.1, true)) hx (fun cs h => by obtain ⟨y1, d1, y2, d2, rfl, h1, h2, j1, j2, j3⟩ := tMa_cells h; exact tMa_mk h1 h2 j1 j2 j3) ?_))
  rintro w12 HO12 k12 z12
  have := k12.size
  have zo_HO12 := fun (b : Nat) h => HO12.own_lt (b := b) h
  refine l_nil (n_blk (n_then (⟨_, rfl, ?_⟩)))
  have hxd : ms.getD i (mv0, false) = x := by simp [hx]
  rw [hxd] at hrd
  replace E := ((E.trans e99.keep).step k144 (by intro i hi he; have he0 := he; (try dsimp only [NoK] at hi he ⊢); (try simp only [Value.ownBlock, Option.some.injEq] at he); first | exact he.elim | omega | exact he | (first | exact (hdd _ ho0 (by rw [show i = b7 from he0]; rfl)).elim | (rcases hi with h | h; omega; exact (h.2.2 (by rw [show i = b7 from he0]; rfl)).elim)))).step k12 (by intro i hi he; have he0 := he; (try dsimp only [NoK] at hi he ⊢); (try simp only [Value.ownBlock, Option.some.injEq] at he); first | exact he.elim | omega | exact he | (first | exact (hdd _ ho0 (by rw [show i = b7 from he0]; rfl)).elim | (rcases hi with h | h; omega; exact (h.2.2 (by rw [show i = b7 from he0]; rfl)).elim)))
  replace HS9 := ((HS9.ext e99).keep k144 (by intro i _ hi he; have he0 := he; (try dsimp only [NoK, AllB] at hi he); (try simp only [Value.ownBlock, Option.some.injEq] at he); first | exact hi.elim | exact he.elim | omega | (rcases hi with hi | hi <;> omega) | (rcases he with he | he <;> omega) | (first | exact (hdd _ ho0 (by rw [show i = b7 from he0]; rfl)).elim | (rcases hi with h | h; omega; exact (h.2.2 (by rw [show i = b7 from he0]; rfl)).elim)))).keep k12 (by intro i _ hi he; have he0 := he; (try dsimp only [NoK, AllB] at hi he); (try simp only [Value.ownBlock, Option.some.injEq] at he); first | exact hi.elim | exact he.elim | omega | (rcases hi with hi | hi <;> omega) | (rcases he with he | he <;> omega) | (first | exact (hdd _ ho0 (by rw [show i = b7 from he0]; rfl)).elim | (rcases hi with h | h; omega; exact (h.2.2 (by rw [show i = b7 from he0]; rfl)).elim)))
  replace HB2 := HB2.keep k12 (by intro h; have he0 := h; (try dsimp only at h); (try simp only [Value.ownBlock, Option.some.injEq] at h); first | omega | (have he := he0; first | exact (hdd _ ho0 (by rw [show i = b7 from he0]; rfl)).elim | (rcases hi with h | h; omega; exact (h.2.2 (by rw [show i = b7 from he0]; rfl)).elim)))
  replace HB4 := HB4.keep k12 (by intro h; have he0 := h; (try dsimp only at h); (try simp only [Value.ownBlock, Option.some.injEq] at h); first | omega | (have he := he0; first | exact (hdd _ ho0 (by rw [show i = b7 from he0]; rfl)).elim | (rcases hi with h | h; omega; exact (h.2.2 (by rw [show i = b7 from he0]; rfl)).elim)))
  exact ⟨⟨rfl, rfl, trivial⟩, E, HB4, _, _, _, hrd, HB2, he9, im, HS9.mono fun q _ h => ⟨trivial, by rcases h with h | h <;> omega⟩, HO12.view.mono fun q _ h => ⟨trivial, by rcases h with h | h <;> omega⟩⟩
 rintro _ w145 ⟨e, rfl, hh, E, HB4, s', v, u, hst, HB2, j1, j2, HS9, HS8⟩
 obtain ⟨jj, rfl⟩ : ∃ j, e = updL _ j := ⟨_, hh.upd⟩
 obtain ⟨z1, z2, rfl⟩ := HS9.shape
 obtain ⟨z3, z4, rfl⟩ := HS8.shape
 refine c_seq (wp_reg zd (l_v (v_loadA zk rfl (by first | exact HB2.pv | exact HB4.pv | assumption) rfl) ?_))
 refine l_to (to_storeA (n := 4) rfl rfl (zvA rfl) zk rfl dj6 HB4 dj5 ?_)
 rintro w146 HX146 k146 z146
 have := k146.size
 replace HB4 := HX146
 clear HX146
 try simp only [zS, Nat.zero_add, Nat.reduceAdd, List.drop_nil] at HB4
 refine l_v (v_assign rfl) (l_nil (n_then (c_ret (ret2cv (n := 4) rfl zq zq rfl zk HB4.pv rfl (zvI rfl) ?_))))
 rw [hst]
 replace E := E.step k146 (by intro i hi he; have he0 := he; (try dsimp only [NoK] at hi he ⊢); (try simp only [Value.ownBlock, Option.some.injEq] at he); first | exact he.elim | omega | exact he | (first | exact (hdd _ ho0 (by rw [show i = b7 from he0]; rfl)).elim | (rcases hi with h | h; omega; exact (h.2.2 (by rw [show i = b7 from he0]; rfl)).elim)))
 replace HS9 := HS9.keep k146 (by intro i _ hi he; have he0 := he; (try dsimp only [NoK, AllB] at hi he); (try simp only [Value.ownBlock, Option.some.injEq] at he); first | exact hi.elim | exact he.elim | omega | (rcases hi with hi | hi <;> omega) | (rcases he with he | he <;> omega) | (first | exact (hdd _ ho0 (by rw [show i = b7 from he0]; rfl)).elim | (rcases hi with h | h; omega; exact (h.2.2 (by rw [show i = b7 from he0]; rfl)).elim)))
 replace HS8 := HS8.keep k146 (by intro i _ hi he; have he0 := he; (try dsimp only [NoK, AllB] at hi he); (try simp only [Value.ownBlock, Option.some.injEq] at he); first | exact hi.elim | exact he.elim | omega | (rcases hi with hi | hi <;> omega) | (rcases he with he | he <;> omega) | (first | exact (hdd _ ho0 (by rw [show i = b7 from he0]; rfl)).elim | (rcases hi with h | h; omega; exact (h.2.2 (by rw [show i = b7 from he0]; rfl)).elim)))
 exact ⟨⟨_, rfl, AgV.mkMt (HS9.mono fun _ _ _ => trivial) (HS8.mono fun _ _ _ => trivial) j1 j2⟩, E⟩
end Go.Proofs.Yteehplloacefmaa
