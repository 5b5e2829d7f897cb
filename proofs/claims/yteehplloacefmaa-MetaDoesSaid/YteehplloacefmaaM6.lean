/- A part of the proof: steps and lemmas for the walks through the given program. -/
import Derived.Test.YteehplloacefmaaM5
import Derived.Test.YteehplloacefmaaR10
import Derived.Test.YteehplloacefmaaR11
import Derived.Test.YteehplloacefmaaGs
namespace Go.Proofs.Yteehplloacefmaa
open Go.Vc
set_option linter.unusedVariables false
set_option linter.unusedSimpArgs false
set_option maxRecDepth 100000

def befI (rs : List RgV) (k : List UInt8) : Nat := match begI rs k with | some (i + 1) => i | _ => 0
theorem mayMa_lens {rs : List RgV} {n : Int} {ms : List MaV} (h : MvsOk rs n ms) : ∀ x ∈ ms, x.1.2.1.length ≤ 100000 ∧ x.1.2.2.1.length ≤ 100000 := by
  rintro ⟨⟨n, f, t, b, o, g⟩, cut⟩ hx
  obtain ⟨h1, _⟩ := h.1 _ hx
  obtain ⟨_, _, h3, h4, _⟩ := mayMv_b h1
  exact ⟨by simp only; omega, by simp only; omega⟩
theorem befI_at {rs : List RgV} {k : List UInt8} (h : 0 < optI (begI rs k)) : begI rs k = some (befI rs k + 1) ∧ optI (begI rs k) = (befI rs k : Int) + 1 := by
  unfold befI
  rcases hb : begI rs k with _ | _ | i
  · rw [hb] at h; simp [optI] at h
  · rw [hb] at h; simp [optI] at h
  · exact ⟨rfl, rfl⟩
theorem befI_lt {rs : List RgV} {k : List UInt8} (h : rs ≠ []) : befI rs k < rs.length := by
  unfold befI
  split
  · rename_i i hi; have := (begI_some hi).1; omega
  · exact List.length_pos_iff.2 h
theorem begMt_map (s : MtV) (k : List UInt8) (g : Int) : (begMt s k g).1.1 = s.1 := by
  unfold begMt; split <;> (try split) <;> (try split) <;> rfl
theorem goMt_nx (s : MtV) (c : Bool) (m : MvV) : (goMt s c m).1.2.1 = s.2.1 := by
  unfold goMt; split <;> (try split) <;> (try split) <;> rfl
theorem begMt_nx {s : MtV} {k : List UInt8} {g : Int} (h : 1 ≤ s.2.1 ∧ s.2.1 ≤ 2147483647) : I64' (begMt s k g).1.2.1 := by
  unfold begMt; split <;> (try split) <;> (try split) <;> (constructor <;> simp only <;> omega)
set_option maxHeartbeats 4000000 in
theorem MetaDo_c {w : World} {F G : Nat → Prop} {v vc : Value} {e0 n : Int} {rs : List RgV} {ms : List MaV} {c : CmV} (HG1 : AgV tMt w F v ((e0, rs), n, ms)) (HG2 : AgV tCm w G vc c) (hn : ms.length ≤ 1000) :
    CallsR Try.prog 12 #[v, vc] w (fun o w' => (∃ x, o = .tuple #[x, .int .i64 (doMt ((e0, rs), n, ms) c).2] ∧ AgV tMt w' (fun q => w.heap.size ≤ q) x (doMt ((e0, rs), n, ms) c).1) ∧ Ext w w') := by
 obtain ⟨k, rq, mv, en, an, key, g⟩ := c
 obtain ⟨x1, d1, x2, d2, x3, d3, x4, d4, x5, d5, x6, d6, x7, d7, x8, d8, x9, d9, hvc, _, _, _, _, HSk, ik, ig⟩ := HG2.cm
 subst hvc
 obtain ⟨a1, c1, a2, c2, rfl, HSr, HSm, ie, im⟩ := HG1.mt
 simp only at HSr HSm ie im
 have HGm := AgV.mpOf HSr ie
 refine enter 103 Try.func12 rfl rfl (by simp) ?_
 refine c_seq ?_
 have E := Keep.refl (K := NoK) w
 replace HG1 := HG1.all
 replace HG2 := HG2.all
 replace HSk := HSk.all
 replace HGm := HGm.all
 replace HSr := HSr.all
 refine wp_reg zd (l_to (to_box (zvA rfl) ?_))
 rintro b2 w2 zb2 HB2 e2 z2
 have := e2.size
 try simp only [Value.cells] at HB2
 refine l_to (to_box (zvA rfl) ?_)
 rintro b3 w3 zb3 HB3 e3 z3
 have := e3.size
 try simp only [Value.cells] at HB3
 refine l_to (to_alloc (z := (.agg #[.int .i64 0, .slice none 0 0, .int .i64 0, .slice none 0 0])) (by unfold kZero; kernel_rfl) ?_)
 rintro b4 w4 zb4 HB4 e4 z4
 have := e4.size
 try simp only [Value.cells] at HB4
 replace HB2 := (HB2.ext e3).ext e4
 replace HB3 := HB3.ext e4
 refine l_v (v_assign rfl) (l_nil (n_then (c_seq (c_seq (wp_reg zd (l_v (v_loadA zk rfl (by first | exact HB4.pv | exact HB3.pv | exact HB2.pv | assumption) rfl) ?_))))))
 replace HG1 := ((HG1.ext e2).ext e3).ext e4
 refine l_to (to_f1 zk (zvA rfl) (CallsR.mono (MetaMay_c HG1) ?_))
 rintro _ w101 ⟨rfl, e101⟩
 have := e101.size
 refine l_v (v_not rfl) ?_
 replace HB2 := HB2.ext e101
 replace HB3 := HB3.ext e101
 replace HB4 := HB4.ext e101
 refine l_v (zmB rfl) (l_g1 rfl rfl (fun hG => v_loadA zk rfl (by first | exact HB4.pv | exact HB3.pv | exact HB2.pv | assumption) rfl) ?_)
 replace HG2 := (((HG2.ext e2).ext e3).ext e4).ext e101
 refine l_g1f rfl rfl (fun hG => to_f1 zk (gd hG rfl) (CMay_c HG2)) ?_
 rintro w102 e102
 have := e102.size
 refine l_g1 rfl rfl (fun hG => v_not (gd hG rfl)) ?_
 refine l_v (v_or rfl rfl) ?_
 replace E := ((((E.trans e2.keep).trans e3.keep).trans e4.keep).trans e101.keep).trans e102.keep
 replace HSk := ((((HSk.ext e2).ext e3).ext e4).ext e101).ext e102
 replace HGm := ((((HGm.ext e2).ext e3).ext e4).ext e101).ext e102
 replace HSr := ((((HSr.ext e2).ext e3).ext e4).ext e101).ext e102
 replace HG1 := (HG1.ext e101).ext e102
 replace HG2 := HG2.ext e102
 replace HB2 := HB2.ext e102
 replace HB3 := HB3.ext e102
 replace HB4 := HB4.ext e102
 refine l_nil (n_then (c_cond rfl rfl (fun h19 => ?_) (fun h19 => ?_)))
 ·
  refine c_seq (wp_reg zd (l_v (v_build (pl := [(0, 2), (2, 1), (3, 1)]) (z := .agg #[.int .i64 0, .slice none 0 0, .int .i64 0, .slice none 0 0]) (zl := [.int .i64 0, .slice none 0 0, .int .i64 0, .slice none 0 0]) zk (by unfold kZero; kernel_rfl) rfl rfl (cells := [_, _, _, _]) rfl) ?_))
  refine l_to (to_storeA (n := 4) rfl rfl (zvA rfl) zk rfl dj6 HB4 dj5 ?_)
  rintro w103 HX103 k103 z103
  have := k103.size
  replace HB4 := HX103
  clear HX103
  try simp only [zS, Nat.zero_add, Nat.reduceAdd, List.drop_nil] at HB4
  refine l_v (v_assign rfl) (l_nil (n_then (c_ret (r_then (ret2cv (n := 4) rfl zq zq rfl zk HB4.pv rfl (zvI rfl) ?_)))))
  have h : (mayMt ((e0, rs), n, ms) && mayCm (k, rq, mv, en, an, key, g)) = false := by revert h19; cases mayMt ((e0, rs), n, ms) <;> cases mayCm (k, rq, mv, en, an, key, g) <;> simp
  rw [doMt, if_pos h]
  replace E := E.step k103 dj3
  exact ⟨⟨_, rfl, mt0_ag⟩, E⟩
 have hms : mayMt ((e0, rs), n, ms) = true := by revert h19; cases mayMt ((e0, rs), n, ms) <;> simp
 have hmc : mayCm (k, rq, mv, en, an, key, g) = true := by revert h19; rw [hms]; cases mayCm (k, rq, mv, en, an, key, g) <;> simp
 have hdo : doMt ((e0, rs), n, ms) (k, rq, mv, en, an, key, g) = if (stMt ((e0, rs), n, ms) (k, rq, mv, en, an, key, g)).2 = 0 then stMt ((e0, rs), n, ms) (k, rq, mv, en, an, key, g) else (mt0, (stMt ((e0, rs), n, ms) (k, rq, mv, en, an, key, g)).2) := by rw [doMt, if_neg (by rw [hms, hmc]; simp)]
 obtain ⟨p1, p2, p3, p4⟩ := mayMt_iff.1 hms
 simp only at p1 p2 p3 p4
 obtain ⟨q1, q2, q3, q4, q5, q6⟩ := mayM_parts p1
 simp only at q1 q2 q3 q4 q5 q6
 have hlens := mayM_lens p1
 simp only at hlens
 refine c_skip (n_then (c_seq (wp_reg zd (l_v (v_loadA zk rfl (by first | exact HB4.pv | exact HB3.pv | exact HB2.pv | assumption) rfl) ?_))))
 refine l_to (to_f1 zk (zvA rfl) (CallsR.mono (own_c HG1 (fun r hr => by have := hlens r hr; omega) (mayMa_lens p4) zo zo) ?_))
 rintro _ w22 ⟨⟨m, a5, c5, a6, c6, hm1, hm2, rfl, HSo, HO5⟩, e22⟩
 have := e22.size
 have zo_HO5 := fun (q : Nat) h => HO5.own_lt (b := q) h
 have HGo := AgV.mpOf HSo ie
 have hm0 : w.heap.size ≤ m := by omega
 have zo_HO5 := fun (b : Nat) h => HO5.own_lt (b := b) h
 refine l_to (to_alloc (z := (.agg #[.int .i64 0, .slice none 0 0, .int .i64 0, .slice none 0 0])) (by unfold kZero; kernel_rfl) ?_)
 rintro b6 w6 zb6 HB6 e6 z6
 have := e6.size
 try simp only [Value.cells] at HB6
 have hmb6 : m ≤ b6 := by omega
 have hob : ∀ q, (Value.slice a6 ms.length c6).ownBlock = some q → q < b6 := fun q h => by have := zo_HO5 q h; omega
 replace HO5 := HO5.ext e6
 replace HO5 := HO5.mono (F' := fun q => m ≤ q ∧ q < b6) fun q _ h => ⟨h.1, by omega⟩
 refine l_to (to_storeA (n := 4) rfl rfl (zvA rfl) zk rfl dj6 HB6 dj5 ?_)
 rintro w104 HX104 k104 z104
 have := k104.size
 replace HB6 := HX104
 clear HX104
 try simp only [zS, Nat.zero_add, Nat.reduceAdd, List.drop_nil] at HB6
 replace E := ((E.trans e22.keep).trans e6.keep).step k104 dj3
 replace HG1 := ((HG1.ext e22).ext e6).keep k104 dj1
 replace HG2 := ((HG2.ext e22).ext e6).keep k104 dj1
 replace HSk := ((HSk.ext e22).ext e6).keep k104 dj1
 replace HGm := ((HGm.ext e22).ext e6).keep k104 dj1
 replace HSr := ((HSr.ext e22).ext e6).keep k104 dj1
 replace HB2 := ((HB2.ext e22).ext e6).keep k104 dj4
 replace HB3 := ((HB3.ext e22).ext e6).keep k104 dj4
 replace HB4 := ((HB4.ext e22).ext e6).keep k104 dj4
 replace HSo := (HSo.ext e6).keep k104 dj1
 replace HGo := (HGo.ext e6).keep k104 dj1
 replace HO5 := HO5.keep k104 (by intro i ho he; have he0 := he; have ho0 := ho; (try dsimp only [NoK] at he); (try simp only [Value.ownBlock, Option.some.injEq, reduceCtorEq] at ho); (try simp only [Value.ownBlock, Option.some.injEq, reduceCtorEq] at he); first | exact he.elim | exact ho.elim | omega | (have := zo_HO5 _ ho0; omega)) (by intro i _ hi _ he; have he0 := he; have hi := hi; have he := he; (try dsimp only [NoK, AllB] at hi he); (try simp only [Value.ownBlock, Option.some.injEq, reduceCtorEq] at he); all_goals first | exact hi.elim | exact hi.1.elim | exact he.elim | omega | (rcases hi with hi | hi <;> omega) | (rcases he with he | he <;> omega))
 refine l_nil (n_then (c_seq (wp_reg zd (l_v (v_assign rfl) (l_nil (n_then (c_cut (fun a wc => ∃ e, a = FrD 103 e [] ∧ (∃ er, Holds [(4, .pointer (some ⟨b4, 0, none⟩)), (6, .pointer (some ⟨b6, 0, none⟩)), (7, .int .i64 er)] e ∧ Keep NoK w wc ∧ Blk wc b4 [.int .i64 0, .slice none 0 0, .int .i64 0, .slice none 0 0] 27 ∧ er = (stMt ((e0, rs), n, ms) (k, rq, mv, en, an, key, g)).2 ∧ (er = 0 → ∃ v u, Blk wc b6 [.int .i64 (stMt ((e0, rs), n, ms) (k, rq, mv, en, an, key, g)).1.1.1, v, .int .i64 (stMt ((e0, rs), n, ms) (k, rq, mv, en, an, key, g)).1.2.1, u] 27 ∧ I64' (stMt ((e0, rs), n, ms) (k, rq, mv, en, an, key, g)).1.1.1 ∧ I64' (stMt ((e0, rs), n, ms) (k, rq, mv, en, an, key, g)).1.2.1 ∧ SlV tRg wc (fun q => b4 < q) v (stMt ((e0, rs), n, ms) (k, rq, mv, en, an, key, g)).1.1.2 ∧ SlV tMa wc (fun q => b4 < q) u (stMt ((e0, rs), n, ms) (k, rq, mv, en, an, key, g)).1.2.2))) ?_ ?_)))))))
 ·
  refine c_seq (wp_reg zd (l_v (v_fieldAddr (off := 0) (ft := 31) zk rfl) (l_v (v_load zk rfl (by first | exact HB6.pv 0 _ rfl | exact HB4.pv 0 _ rfl | exact HB3.pv 0 _ rfl | exact HB2.pv 0 _ rfl | assumption)) ?_)))
  refine l_nil (n_then (c_block (c_seq (wp_reg zd (l_v (v_eql rfl rfl) ?_)))))
  refine l_v (zaB rfl) (l_nil (n_then (c_cond rfl rfl (fun h6 => ?_) (fun h6 => ?_))))
  ·
   have hk : k = 6 := dtrue h6
   have hst : (stMt ((e0, rs), n, ms) (k, rq, mv, en, an, key, g)) = if mvgB ms (rgAt rs (findO (e0, rs) (hasB key))).1 = true then (((e0, rs), n, ms), 9) else (((splitM (e0, rs) key).1, n, ms), (splitM (e0, rs) key).2) := by unfold stMt; simp only []; rw [if_pos hk]
   refine c_seq (c_seq (wp_reg zd (l_v (v_fieldAddr (off := 0) (ft := 24) zk rfl) (l_v (v_loadA zk rfl (by first | exact (show Pv _ _ [_, _] from pv_sub 0 2 HB6.pv) | exact (show Pv _ _ [_, _] from pv_sub 0 2 HB4.pv) | exact (show Pv _ _ [_, _] from pv_sub 0 2 HB3.pv) | exact (show Pv _ _ [_, _] from pv_sub 0 2 HB2.pv) | exact pv_at 0 HB6.pv | exact pv_at 0 HB4.pv | exact pv_at 0 HB3.pv | exact pv_at 0 HB2.pv | assumption) rfl) ?_))))
   refine l_v (v_fieldAddr (off := 18) (ft := 33) zk rfl) (l_v (v_load zk rfl (by first | exact HB6.pv 18 _ rfl | exact HB4.pv 18 _ rfl | exact HB3.pv 18 _ rfl | exact HB2.pv 18 _ rfl | assumption)) ?_)
   refine l_to (to_f2 zk (zvA rfl) (zvS rfl) (CallsR.mono (Find_c HGm HSk) ?_))
   rintro _ w32 ⟨⟨y8, rfl, HG8⟩, e32⟩
   have := e32.size
   replace HG8 := HG8.mono fun b hb h => And.intro h hb
   obtain ⟨a8, c8, a7, c7, rfl, HS8, HS7, hg8⟩ := HG8.rg
   refine l_v (zmT rfl) (l_v (v_extract (t := .agg _) rfl rfl) (l_v (v_extract (t := .int _ _) rfl rfl) (l_to (to_alloc (z := (.agg #[.slice none 0 0, .slice none 0 0, .bool false, .int .i64 0])) (by unfold kZero; kernel_rfl) ?_))))
   rintro b8 w8 zb8 HB8 e8 z8
   have := e8.size
   try simp only [Value.cells] at HB8
   refine l_to (to_storeA (n := 4) rfl rfl (zvA rfl) zk rfl dj6 HB8 dj5 ?_)
   rintro w105 HX105 k105 z105
   have := k105.size
   replace HB8 := HX105
   clear HX105
   try simp only [zS, Nat.zero_add, Nat.reduceAdd, List.drop_nil] at HB8
   replace HB2 := ((HB2.ext e32).ext e8).keep k105 dj4
   replace HB3 := ((HB3.ext e32).ext e8).keep k105 dj4
   replace HB4 := ((HB4.ext e32).ext e8).keep k105 dj4
   replace HB6 := ((HB6.ext e32).ext e8).keep k105 dj4
   refine l_v (zaI rfl) (l_nil (n_then (c_seq (wp_reg zd (l_v (v_loadA zk rfl (by first | exact HB8.pv | exact HB6.pv | exact HB4.pv | exact HB3.pv | exact HB2.pv | assumption) rfl) ?_)))))
   refine l_v (v_fieldAddr (off := 0) (ft := 33) zk rfl) (l_v (v_load zk rfl (by first | exact HB8.pv 0 _ rfl | exact HB6.pv 0 _ rfl | exact HB4.pv 0 _ rfl | exact HB3.pv 0 _ rfl | exact HB2.pv 0 _ rfl | assumption)) ?_)
   replace HG1 := ((HG1.ext e32).ext e8).keep k105 dj1
   replace HS8 := (HS8.ext e8).keep k105 dj1
   refine l_to (to_f2 zk (zvA rfl) (zvS rfl) (CallsR.mono (moving_c HG1 HS8) ?_))
   replace HG2 := ((HG2.ext e32).ext e8).keep k105 dj1
   replace HSk := ((HSk.ext e32).ext e8).keep k105 dj1
   replace HGm := ((HGm.ext e32).ext e8).keep k105 dj1
   replace HSr := ((HSr.ext e32).ext e8).keep k105 dj1
   replace HSo := ((HSo.ext e32).ext e8).keep k105 dj1
   replace HO5 := ((HO5.ext e32).ext e8).keep k105 (by intro i ho he; have he0 := he; have ho0 := ho; (try dsimp only [NoK] at he); (try simp only [Value.ownBlock, Option.some.injEq, reduceCtorEq] at ho); (try simp only [Value.ownBlock, Option.some.injEq, reduceCtorEq] at he); first | exact he.elim | exact ho.elim | omega | (have := zo_HO5 _ ho0; omega)) (by intro i _ hi _ he; have he0 := he; have hi := hi; have he := he; (try dsimp only [NoK, AllB] at hi he); (try simp only [Value.ownBlock, Option.some.injEq, reduceCtorEq] at he); all_goals first | exact hi.elim | exact hi.1.elim | exact he.elim | omega | (rcases hi with hi | hi <;> omega) | (rcases he with he | he <;> omega))
   replace HGo := ((HGo.ext e32).ext e8).keep k105 dj1
   replace HG8 := (HG8.ext e8).keep k105 dj1
   replace HS7 := (HS7.ext e8).keep k105 dj1
   rintro _ w106 ⟨rfl, e106⟩
   have := e106.size
   replace E := (((E.trans e32.keep).trans e8.keep).step k105 dj3).trans e106.keep
   replace HG1 := HG1.ext e106
   replace HG2 := HG2.ext e106
   replace HSk := HSk.ext e106
   replace HGm := HGm.ext e106
   replace HSr := HSr.ext e106
   replace HB2 := HB2.ext e106
   replace HB3 := HB3.ext e106
   replace HB4 := HB4.ext e106
   replace HSo := HSo.ext e106
   replace HO5 := HO5.ext e106
   replace HGo := HGo.ext e106
   replace HB6 := HB6.ext e106
   replace HG8 := HG8.ext e106
   replace HS8 := HS8.ext e106
   replace HS7 := HS7.ext e106
   replace HB8 := HB8.ext e106
   refine l_nil (n_then (c_cond rfl rfl (fun h38 => ?_) (fun h38 => ?_)))
   ·
    refine c_seq (wp_reg zd (l_v (v_build (pl := [(0, 2), (2, 1), (3, 1)]) (z := .agg #[.int .i64 0, .slice none 0 0, .int .i64 0, .slice none 0 0]) (zl := [.int .i64 0, .slice none 0 0, .int .i64 0, .slice none 0 0]) zk (by unfold kZero; kernel_rfl) rfl rfl (cells := [_, _, _, _]) rfl) ?_))
    refine l_to (to_storeA (n := 4) rfl rfl (zvA rfl) zk rfl dj6 HB4 dj5 ?_)
    rintro w107 HX107 k107 z107
    have := k107.size
    replace HB4 := HX107
    clear HX107
    try simp only [zS, Nat.zero_add, Nat.reduceAdd, List.drop_nil] at HB4
    refine l_v (v_assign rfl) (l_nil (n_then (c_ret (r_then (r_blk (r_then (ret2cv (n := 4) rfl zq zq rfl zk HB4.pv rfl (zvI rfl) ?_)))))))
    have hq : (stMt ((e0, rs), n, ms) (k, rq, mv, en, an, key, g)) = (((e0, rs), n, ms), 9) := by rw [hst, if_pos h38]
    rw [hdo, hq, if_neg (by decide : ¬ (9 : Int) = 0)]
    replace E := E.step k107 dj3
    exact ⟨⟨_, rfl, mt0_ag⟩, E⟩
   rw [if_neg (by rw [h38]; simp)] at hst
   refine c_skip (n_then (wp_reg zd (l_v (v_fieldAddr (off := 0) (ft := 24) zk rfl) (l_v (v_loadA zk rfl (by first | exact (show Pv _ _ [_, _] from pv_sub 0 2 HB6.pv) | exact (show Pv _ _ [_, _] from pv_sub 0 2 HB4.pv) | exact (show Pv _ _ [_, _] from pv_sub 0 2 HB3.pv) | exact pv_at 0 HB6.pv | exact pv_at 0 HB4.pv | exact pv_at 0 HB3.pv | assumption) rfl) ?_))))
   refine l_v (v_fieldAddr (off := 18) (ft := 33) zk rfl) (l_v (v_load zk rfl (by first | exact HB6.pv 18 _ rfl | exact HB4.pv 18 _ rfl | exact HB3.pv 18 _ rfl | assumption)) ?_)
   refine l_to (to_f2 zk (zvA rfl) (zvS rfl) (CallsR.mono (Split_c HGo HSk) ?_))
   rintro _ w47 ⟨⟨y9, rfl, HG9⟩, e47⟩
   have := e47.size
   obtain ⟨⟨e', rs'⟩, her⟩ : ∃ x, x = (splitM (e0, rs) key).1 := ⟨_, rfl⟩
   rw [← her] at HG9
   obtain ⟨a9, c9, rfl, HS9, he9⟩ := HG9.mp
   simp only at HS9 he9
   replace HB6 := HB6.ext e47
   refine l_v (zmT rfl) (l_v (v_extract (t := .agg _) rfl rfl) (l_v (v_extract (t := .int _ _) rfl rfl) (l_v (v_fieldAddr (off := 0) (ft := 24) zk rfl) (l_to (to_storeA (n := 2) rfl rfl (zvA rfl) zk rfl dj6 HB6 dj5 ?_)))))
   rintro w108 HX108 k108 z108
   have := k108.size
   replace HB6 := HX108
   clear HX108
   try simp only [zS, Nat.zero_add, Nat.reduceAdd, List.drop_nil] at HB6
   refine l_v (zaI rfl) (l_nil (n_blk (n_then (⟨_, rfl, ?_⟩))))
   replace E := (E.trans e47.keep).step k108 dj3
   replace HG1 := (HG1.ext e47).keep k108 dj1
   replace HG2 := (HG2.ext e47).keep k108 dj1
   replace HSk := (HSk.ext e47).keep k108 dj1
   replace HGm := (HGm.ext e47).keep k108 dj1
   replace HSr := (HSr.ext e47).keep k108 dj1
   replace HB3 := (HB3.ext e47).keep k108 dj4
   replace HB4 := (HB4.ext e47).keep k108 dj4
   replace HSo := (HSo.ext e47).keep k108 dj1
   replace HO5 := (HO5.ext e47).keep k108 (by intro i ho he; have he0 := he; have ho0 := ho; (try dsimp only [NoK] at he); (try simp only [Value.ownBlock, Option.some.injEq, reduceCtorEq] at ho); (try simp only [Value.ownBlock, Option.some.injEq, reduceCtorEq] at he); first | exact he.elim | exact ho.elim | omega | (have := zo_HO5 _ ho0; omega)) (by intro i _ hi _ he; have he0 := he; have hi := hi; have he := he; (try dsimp only [NoK, AllB] at hi he); (try simp only [Value.ownBlock, Option.some.injEq, reduceCtorEq] at he); all_goals first | exact hi.elim | exact hi.1.elim | exact he.elim | omega | (rcases hi with hi | hi <;> omega) | (rcases he with he | he <;> omega))
   replace HGo := (HGo.ext e47).keep k108 dj1
   replace HS9 := HS9.keep k108 dj1
   refine ⟨_, ⟨rfl, rfl, rfl, trivial⟩, E, HB4, ?_, fun h0 => ?_⟩
   ·
    rw [hst]
   rw [hst, ← her]
   exact ⟨_, _, HB6, he9, im, HS9.mono fun q _ h => by omega, HO5.view.mono fun q _ h => by rcases h with h | h <;> omega⟩
  refine c_seq (wp_reg zd (l_v (v_eql rfl rfl) ?_))
  refine l_v (zaB rfl) (l_nil (n_then (c_cond rfl rfl (fun h7 => ?_) (fun h7 => ?_))))
  ·
   have hk : k = 7 := dtrue h7
   refine c_seq (wp_reg zd (l_v (v_fieldAddr (off := 0) (ft := 24) zk rfl) (l_v (v_loadA zk rfl (by first | exact (show Pv _ _ [_, _] from pv_sub 0 2 HB6.pv) | exact (show Pv _ _ [_, _] from pv_sub 0 2 HB4.pv) | exact (show Pv _ _ [_, _] from pv_sub 0 2 HB3.pv) | exact (show Pv _ _ [_, _] from pv_sub 0 2 HB2.pv) | exact pv_at 0 HB6.pv | exact pv_at 0 HB4.pv | exact pv_at 0 HB3.pv | exact pv_at 0 HB2.pv | assumption) rfl) ?_)))
   refine l_v (v_fieldAddr (off := 18) (ft := 33) zk rfl) (l_v (v_load zk rfl (by first | exact HB6.pv 18 _ rfl | exact HB4.pv 18 _ rfl | exact HB3.pv 18 _ rfl | exact HB2.pv 18 _ rfl | assumption)) ?_)
   refine l_to (to_f2 zk (zvA rfl) (zvS rfl) (CallsR.mono (at_c HGm HSk) ?_))
   rintro _ w32 ⟨⟨y8, rfl, HG8⟩, e32⟩
   have := e32.size
   obtain ⟨a8, c8, a7, c7, rfl, HS8, HS7, hg8⟩ := HG8.rg
   refine l_v (zmT rfl) (l_v (v_extract (t := .agg _) rfl rfl) (l_v (v_extract (t := .int _ _) rfl rfl) (l_to (to_alloc (z := (.agg #[.slice none 0 0, .slice none 0 0, .bool false, .int .i64 0])) (by unfold kZero; kernel_rfl) ?_))))
   rintro b8 w8 zb8 HB8 e8 z8
   have := e8.size
   try simp only [Value.cells] at HB8
   obtain ⟨j, hj⟩ : ∃ j, j = befI rs key := ⟨_, rfl⟩
   have hjl : j < rs.length := by rw [hj]; exact befI_lt (fun h => by rw [h] at q3; simp at q3)
   have hjp : 0 < optI (begI rs key) → begI rs key = some (j + 1) ∧ optI (begI rs key) = (j : Int) + 1 := fun h => by rw [hj]; exact befI_at h
   obtain ⟨rj, hrj⟩ : ∃ r, r = rs.getD j rg0 := ⟨_, rfl⟩
   replace E := (E.trans e32.keep).trans e8.keep
   replace HG1 := (HG1.ext e32).ext e8
   replace HG2 := (HG2.ext e32).ext e8
   replace HSk := (HSk.ext e32).ext e8
   replace HGm := (HGm.ext e32).ext e8
   replace HSr := (HSr.ext e32).ext e8
   replace HB2 := (HB2.ext e32).ext e8
   replace HB3 := (HB3.ext e32).ext e8
   replace HB4 := (HB4.ext e32).ext e8
   replace HSo := (HSo.ext e32).ext e8
   replace HO5 := (HO5.ext e32).ext e8
   replace HGo := (HGo.ext e32).ext e8
   replace HB6 := (HB6.ext e32).ext e8
   have hst : (stMt ((e0, rs), n, ms) (k, rq, mv, en, an, key, g)) = if (decide (0 < optI (begI rs key)) && (mvgB ms key || mvgB ms rj.1)) = true then (((e0, rs), n, ms), 9) else (((unionM (e0, rs) key).1, n, ms), (unionM (e0, rs) key).2) := by
    unfold stMt; simp only []; rw [if_neg zo, if_pos hk]
    rcases hb : begI rs key with _ | _ | i
    ·
     simp [optI]
    ·
     simp [optI]
    have hij := (hjp (by rw [hb]; show (0 : Int) < ((i + 1 : Nat) : Int); omega)).1
    rw [hb] at hij; obtain rfl : i = j := by simpa using hij
    have h0 : (0 : Int) < optI (some (i + 1)) := by show (0 : Int) < ((i + 1 : Nat) : Int); omega
    simp only [decide_eq_true h0, Bool.true_and, hrj]
   obtain ⟨qa, csj, hqa, hFa, hqb, HPj, hrr⟩ := HSr.el (getD_at hjl)
   subst hqa
   rw [← hrj] at hrr
   obtain ⟨y5, f5, y6, f6, rfl, HSjf, _⟩ := tRg_cells hrr
   have hwr : 0 < optI (begI rs key) → IntKind.i64.wrap (optI (begI rs key) - 1) = ((j : Nat) : Int) := fun h => by rw [(hjp h).2, wr_i64 zo zo]; omega
   refine l_to (to_storeA (n := 4) rfl rfl (zvA rfl) zk rfl dj6 HB8 dj5 ?_)
   rintro w109 HX109 k109 z109
   have := k109.size
   replace HB8 := HX109
   clear HX109
   try simp only [zS, Nat.zero_add, Nat.reduceAdd, List.drop_nil] at HB8
   refine l_v (zaI rfl) (l_nil (n_then (c_seq (c_seq (wp_regd (NoK) zk zd zd ?_)))))
   refine rt_v (fun vals w hR hd => zmI rfl) ?_
   refine rt_v (fun vals w hR hd => v_gtr (hd 0 rfl) rfl) ?_
   refine rt_v (fun vals w hR hd => v_move (t := .bool _) (hd 1 rfl)) ?_
   replace HB2 := HB2.keep k109 dj4
   replace HB3 := HB3.keep k109 dj4
   replace HB4 := HB4.keep k109 dj4
   replace HB6 := HB6.keep k109 dj4
   replace HPj := HPj.keep k109 (by intro h; (try dsimp only at h); (try simp only [add_block] at h); first | omega)
   refine rt_g1 rfl (fun vals w hd => hd 2 rfl) (fun vals w hR hd hG => v_loadA zk rfl (by first | exact (HPj.ext hR) | exact (HB8.ext hR).pv | exact (HB6.ext hR).pv | exact (HB4.ext hR).pv | exact (HB3.ext hR).pv | exact (HB2.ext hR).pv | assumption) rfl) ?_
   refine rt_g1 rfl (fun vals w hd => hd 2 rfl) (fun vals w hR hd hG => v_fieldAddr (off := 18) (ft := 33) zk rfl) ?_
   refine rt_g1 rfl (fun vals w hd => hd 2 rfl) (fun vals w hR hd hG => v_load zk (gd hG (hd 4 rfl)) (by first | exact (HPj.ext hR) 18 _ rfl | exact pv_1 (HPj.ext hR) | exact (HB8.ext hR).pv 18 _ rfl | exact (HB6.ext hR).pv 18 _ rfl | exact (HB4.ext hR).pv 18 _ rfl | exact (HB3.ext hR).pv 18 _ rfl | exact (HB2.ext hR).pv 18 _ rfl | assumption)) ?_
   replace HG1 := HG1.keep k109 dj1
   replace HSk := HSk.keep k109 dj1
   refine rt_g1f rfl (fun vals w hd => hd 2 rfl) (fun vals w hR hd hG => to_f2 zk (gd hG (hd 3 rfl)) (gd hG (hd 5 rfl)) (moving_c (HG1.ext hR) (HSk.ext hR))) ?_
   refine rt_g1 rfl (fun vals w hd => hd 2 rfl) (fun vals w hR hd hG => v_move (t := .bool _) (gd hG (hd 6 rfl))) ?_
   refine rt_g2 rfl (fun vals w hd => hd 7 rfl) (fun vals w hR hd hG => v_loadA zk rfl (by first | exact (HPj.ext hR) | exact (HB8.ext hR).pv | exact (HB6.ext hR).pv | exact (HB4.ext hR).pv | exact (HB3.ext hR).pv | exact (HB2.ext hR).pv | assumption) rfl) ?_
   refine rt_g2 rfl (fun vals w hd => hd 7 rfl) (fun vals w hR hd hG => v_fieldAddr (off := 0) (ft := 24) zk rfl) ?_
   refine rt_g2 rfl (fun vals w hd => hd 7 rfl) (fun vals w hR hd hG => v_fieldAddr (off := 1) (ft := 22) zk (gd hG (hd 9 rfl))) ?_
   refine rt_g2 rfl (fun vals w hd => hd 7 rfl) (fun vals w hR hd hG => v_load zk (gd hG (hd 10 rfl)) (by first | exact (HPj.ext hR) 1 _ rfl | exact pv_1 (HPj.ext hR) | exact (HB8.ext hR).pv 1 _ rfl | exact (HB6.ext hR).pv 1 _ rfl | exact (HB4.ext hR).pv 1 _ rfl | exact (HB3.ext hR).pv 1 _ rfl | exact (HB2.ext hR).pv 1 _ rfl | assumption)) ?_
   refine rt_g2 rfl (fun vals w hd => hd 7 rfl) (fun vals w hR hd hG => zmI rfl) ?_
   refine rt_g2 rfl (fun vals w hd => hd 7 rfl) (fun vals w hR hd hG => v_sub (gd hG (hd 12 rfl)) rfl (by first | exact wr_i64 zo zo | rfl)) ?_
   refine rt_g2 rfl (fun vals w hd => hd 7 rfl) (fun vals w hR hd hG => v_indexAddr (et := 63) (sz := 4) (k := j) zk zk (gd hG (hd 11 rfl)) (gd hG (hd 13 rfl)) (by (have h := hG; simp at h; first|exact hwr zo|omega|(have := hwr zo; exact this))) (hjl)) ?_
   refine rt_g2 rfl (fun vals w hd => hd 7 rfl) (fun vals w hR hd hG => v_fieldAddr (off := 0) (ft := 33) zk (gd hG (hd 14 rfl))) ?_
   refine rt_g2 rfl (fun vals w hd => hd 7 rfl) (fun vals w hR hd hG => v_load zk (gd hG (hd 15 rfl)) (by first | exact (HPj.ext hR) 0 _ rfl | exact (HB8.ext hR).pv 0 _ rfl | exact (HB6.ext hR).pv 0 _ rfl | exact (HB4.ext hR).pv 0 _ rfl | exact (HB3.ext hR).pv 0 _ rfl | exact (HB2.ext hR).pv 0 _ rfl | assumption)) ?_
   replace HSjf := HSjf.keep k109 dj1
   refine rt_g2f rfl (fun vals w hd => hd 7 rfl) (fun vals w hR hd hG => to_f2 zk (gd hG (hd 8 rfl)) (gd hG (hd 16 rfl)) (moving_c (HG1.ext hR) (HSjf.ext hR))) ?_
   refine rt_g1 rfl (fun vals w hd => hd 2 rfl) (fun vals w hR hd hG => v_or (gd hG (hd 7 rfl)) (gda hG (hd 17 rfl))) ?_
   refine rt_v (fun vals w hR hd => v_and (hd 2 rfl) (hd 18 rfl)) ?_
   refine rt_nil (fun w110 e110 => ?_)
   replace HG2 := HG2.keep k109 dj1
   replace HGm := HGm.keep k109 dj1
   replace HSr := HSr.keep k109 dj1
   replace HSo := HSo.keep k109 dj1
   replace HO5 := HO5.keep k109 (by intro i ho he; have he0 := he; have ho0 := ho; (try dsimp only [NoK] at he); (try simp only [Value.ownBlock, Option.some.injEq, reduceCtorEq] at ho); (try simp only [Value.ownBlock, Option.some.injEq, reduceCtorEq] at he); first | exact he.elim | exact ho.elim | omega | (have := zo_HO5 _ ho0; omega)) (by intro i _ hi _ he; have he0 := he; have hi := hi; have he := he; (try dsimp only [NoK, AllB] at hi he); (try simp only [Value.ownBlock, Option.some.injEq, reduceCtorEq] at he); all_goals first | exact hi.elim | exact hi.1.elim | exact he.elim | omega | (rcases hi with hi | hi <;> omega) | (rcases he with he | he <;> omega))
   replace HGo := HGo.keep k109 dj1
   rintro _ rfl _ rfl _ rfl _ rfl _ rfl _ rfl _ rfl _ rfl _ rfl _ rfl _ rfl _ rfl _ rfl _ rfl _ rfl _ rfl _ rfl _ rfl _ rfl _ rfl
   have := e110.size
   replace E := (E.step k109 dj3).trans e110.keep
   replace HG1 := HG1.ext e110
   replace HG2 := HG2.ext e110
   replace HSk := HSk.ext e110
   replace HGm := HGm.ext e110
   replace HSr := HSr.ext e110
   replace HB2 := HB2.ext e110
   replace HB3 := HB3.ext e110
   replace HB4 := HB4.ext e110
   replace HSo := HSo.ext e110
   replace HO5 := HO5.ext e110
   replace HGo := HGo.ext e110
   replace HB6 := HB6.ext e110
   replace HB8 := HB8.ext e110
   replace HPj := HPj.ext e110
   replace HSjf := HSjf.ext e110
   refine fin_nil (n_then (c_cond rfl rfl (fun h38 => ?_) (fun h38 => ?_)))
   ·
    refine c_seq (wp_reg zd (l_v (v_build (pl := [(0, 2), (2, 1), (3, 1)]) (z := .agg #[.int .i64 0, .slice none 0 0, .int .i64 0, .slice none 0 0]) (zl := [.int .i64 0, .slice none 0 0, .int .i64 0, .slice none 0 0]) zk (by unfold kZero; kernel_rfl) rfl rfl (cells := [_, _, _, _]) rfl) ?_))
    refine l_to (to_storeA (n := 4) rfl rfl (zvA rfl) zk rfl dj6 HB4 dj5 ?_)
    rintro w111 HX111 k111 z111
    have := k111.size
    replace HB4 := HX111
    clear HX111
    try simp only [zS, Nat.zero_add, Nat.reduceAdd, List.drop_nil] at HB4
    refine l_v (v_assign rfl) (l_nil (n_then (c_ret (r_then (r_blk (r_then (ret2cv (n := 4) rfl zq zq rfl zk HB4.pv rfl (zvI rfl) ?_)))))))
    have hq : (stMt ((e0, rs), n, ms) (k, rq, mv, en, an, key, g)) = (((e0, rs), n, ms), 9) := by rw [hst, if_pos (by simpa using h38)]
    rw [hdo, hq, if_neg (by decide : ¬ (9 : Int) = 0)]
    replace E := E.step k111 dj3
    exact ⟨⟨_, rfl, mt0_ag⟩, E⟩
   rw [if_neg (by rw [Bool.not_eq_true]; simpa using h38)] at hst
   refine c_skip (n_then (wp_reg zd (l_v (v_fieldAddr (off := 0) (ft := 24) zk rfl) (l_v (v_loadA zk rfl (by first | exact (show Pv _ _ [_, _] from pv_sub 0 2 HB6.pv) | exact (show Pv _ _ [_, _] from pv_sub 0 2 HB4.pv) | exact (show Pv _ _ [_, _] from pv_sub 0 2 HB3.pv) | exact pv_at 0 HB6.pv | exact pv_at 0 HB4.pv | exact pv_at 0 HB3.pv | assumption) rfl) ?_))))
   refine l_v (v_fieldAddr (off := 18) (ft := 33) zk rfl) (l_v (v_load zk rfl (by first | exact HB6.pv 18 _ rfl | exact HB4.pv 18 _ rfl | exact HB3.pv 18 _ rfl | assumption)) ?_)
   refine l_to (to_f2 zk (zvA rfl) (zvS rfl) (CallsR.mono (Union_c HGo HSk) ?_))
   rintro _ w47 ⟨⟨y9, rfl, HG9⟩, e47⟩
   have := e47.size
   obtain ⟨⟨e', rs'⟩, her⟩ : ∃ x, x = (unionM (e0, rs) key).1 := ⟨_, rfl⟩
   rw [← her] at HG9
   obtain ⟨a9, c9, rfl, HS9, he9⟩ := HG9.mp
   simp only at HS9 he9
   replace HB6 := HB6.ext e47
   refine l_v (zmT rfl) (l_v (v_extract (t := .agg _) rfl rfl) (l_v (v_extract (t := .int _ _) rfl rfl) (l_v (v_fieldAddr (off := 0) (ft := 24) zk rfl) (l_to (to_storeA (n := 2) rfl rfl (zvA rfl) zk rfl dj6 HB6 dj5 ?_)))))
   rintro w112 HX112 k112 z112
   have := k112.size
   replace HB6 := HX112
   clear HX112
   try simp only [zS, Nat.zero_add, Nat.reduceAdd, List.drop_nil] at HB6
   refine l_v (zaI rfl) (l_nil (n_blk (n_then (⟨_, rfl, ?_⟩))))
   replace E := (E.trans e47.keep).step k112 dj3
   replace HG1 := (HG1.ext e47).keep k112 dj1
   replace HG2 := (HG2.ext e47).keep k112 dj1
   replace HSk := (HSk.ext e47).keep k112 dj1
   replace HGm := (HGm.ext e47).keep k112 dj1
   replace HSr := (HSr.ext e47).keep k112 dj1
   replace HB3 := (HB3.ext e47).keep k112 dj4
   replace HB4 := (HB4.ext e47).keep k112 dj4
   replace HSo := (HSo.ext e47).keep k112 dj1
   replace HO5 := (HO5.ext e47).keep k112 (by intro i ho he; have he0 := he; have ho0 := ho; (try dsimp only [NoK] at he); (try simp only [Value.ownBlock, Option.some.injEq, reduceCtorEq] at ho); (try simp only [Value.ownBlock, Option.some.injEq, reduceCtorEq] at he); first | exact he.elim | exact ho.elim | omega | (have := zo_HO5 _ ho0; omega)) (by intro i _ hi _ he; have he0 := he; have hi := hi; have he := he; (try dsimp only [NoK, AllB] at hi he); (try simp only [Value.ownBlock, Option.some.injEq, reduceCtorEq] at he); all_goals first | exact hi.elim | exact hi.1.elim | exact he.elim | omega | (rcases hi with hi | hi <;> omega) | (rcases he with he | he <;> omega))
   replace HGo := (HGo.ext e47).keep k112 dj1
   replace HS9 := HS9.keep k112 dj1
   refine ⟨_, ⟨rfl, rfl, rfl, trivial⟩, E, HB4, ?_, fun h0 => ?_⟩
   ·
    rw [hst]
   rw [hst, ← her]
   exact ⟨_, _, HB6, he9, im, HS9.mono fun q _ h => by omega, HO5.view.mono fun q _ h => by rcases h with h | h <;> omega⟩
  refine c_seq (wp_reg zd (l_v (v_eql rfl rfl) ?_))
  refine l_v (zaB rfl) (l_nil (n_then (c_cond rfl rfl (fun h8 => ?_) (fun h8 => ?_))))
  ·
   have hk : k = 8 := dtrue h8
   have hst : (stMt ((e0, rs), n, ms) (k, rq, mv, en, an, key, g)) = begMt ((e0, rs), n, ms) key g := by unfold stMt; simp only []; rw [if_neg zo, if_neg zo, if_pos hk]
   refine wp_reg zd (l_v (v_loadA zk rfl (by first | exact HB4.pv | exact HB3.pv | exact HB2.pv | assumption) rfl) ?_)
   refine l_to (to_f2 zk (zvP rfl) (zvA rfl) (CallsR.mono (beginM_c HB6 (HSo.mono (F' := fun q => q < m) fun q _ h => h.2) HO5 hob hmb6 (HG2.mono (F' := fun q => q < m) fun q _ h => by omega) ie im hms hn) ?_))
   rintro _ w92 ⟨rfl, ⟨u9, HB6, HO9⟩, k92⟩
   have := k92.size
   have zo_HO9 := fun (b : Nat) h => HO9.own_lt (b := b) h
   refine l_v (zaI rfl) (l_nil (n_blk (n_then (⟨_, rfl, ?_⟩))))
   replace E := E.step k92 dj3
   replace HG1 := HG1.keep k92 dj1
   replace HG2 := HG2.keep k92 dj1
   replace HSk := HSk.keep k92 dj1
   replace HGm := HGm.keep k92 dj1
   replace HSr := HSr.keep k92 dj1
   replace HB2 := HB2.keep k92 dj4
   replace HB3 := HB3.keep k92 dj4
   replace HB4 := HB4.keep k92 dj4
   replace HSo := HSo.keep k92 dj1
   replace HGo := HGo.keep k92 dj1
   refine ⟨_, ⟨rfl, rfl, rfl, trivial⟩, E, HB4, ?_, fun h0 => ?_⟩
   ·
    rw [hst]
   rw [hst]
   have hmp := begMt_map ((e0, rs), n, ms) key g
   have hnx := begMt_nx (s := ((e0, rs), n, ms)) (k := key) (g := g) ⟨p2, p3⟩
   rw [hmp]
   exact ⟨_, _, HB6, ie, hnx, HSo.mono fun q _ h => by have := h.1; omega, HO9.view.mono fun q _ h => by rcases h with h | h <;> omega⟩
  refine c_seq (c_seq (wp_reg zd (l_v (v_eql rfl rfl) ?_)))
  refine l_v (zaB rfl) (l_nil (n_then (c_cond rfl rfl (fun h9 => ?_) (fun h9 => ?_))))
  ·
   have hk : k = 9 := dtrue h9
   refine c_skip (n_then (c_cond rfl rfl (fun hx => ?_) (fun hx => ?_)))
   ·
    refine wp_reg zd (l_v (v_loadA zk rfl (by first | exact HB4.pv | exact HB3.pv | exact HB2.pv | assumption) rfl) ?_)
    refine l_to (to_f2 zk (zvP rfl) (zvA rfl) (CallsR.mono (goOn_c HB6 HSo HO5 hob hmb6 hm1 (HG2.mono (F' := fun q => q < m) fun q _ h => by omega) ie im hn) ?_))
    rintro _ w92 ⟨rfl, hres9, k92⟩
    have := k92.size
    refine l_v (zaI rfl) (l_nil (n_blk (n_then (⟨_, rfl, ?_⟩))))
    have hst : (stMt ((e0, rs), n, ms) (k, rq, mv, en, an, key, g)) = goMt ((e0, rs), n, ms) (decide (k = 9)) mv := by unfold stMt; simp only []; rw [if_neg zo, if_neg zo, if_neg zo, if_pos (.inl hk)]
    replace E := E.step k92 dj3
    replace HG1 := HG1.keep k92 dj1
    replace HG2 := HG2.keep k92 dj1
    replace HSk := HSk.keep k92 dj1
    replace HGm := HGm.keep k92 dj1
    replace HSr := HSr.keep k92 dj1
    replace HB2 := HB2.keep k92 dj4
    replace HB3 := HB3.keep k92 dj4
    replace HB4 := HB4.keep k92 dj4
    replace HSo := HSo.keep k92 dj1
    replace HGo := HGo.keep k92 dj1
    refine ⟨_, ⟨rfl, rfl, rfl, trivial⟩, E, HB4, ?_, fun h0 => ?_⟩
    ·
     rw [hst]
    rw [hst]
    obtain ⟨v9, u9, HB9, j9, HS9, HO9⟩ := hres9 h0
    have hnx : (goMt ((e0, rs), n, ms) (decide (k = 9)) mv).1.2.1 = n := goMt_nx _ _ _
    rw [hnx]
    exact ⟨_, _, HB9, j9, im, HS9.mono fun q _ h => by omega, HO9.view.mono fun q _ h => by rcases h with h | h <;> omega⟩
   rw [h9] at hx; cases hx
  refine wp_reg zd (l_v (v_eql rfl rfl) ?_)
  refine l_v (zaB rfl) (l_nil (n_then (c_cond rfl rfl (fun h10 => ?_) (fun h10 => ?_))))
  ·
   have hk : k = 10 := dtrue h10
   refine wp_reg zd (l_v (v_loadA zk rfl (by first | exact HB4.pv | exact HB3.pv | exact HB2.pv | assumption) rfl) ?_)
   refine l_to (to_f2 zk (zvP rfl) (zvA rfl) (CallsR.mono (goOn_c HB6 HSo HO5 hob hmb6 hm1 (HG2.mono (F' := fun q => q < m) fun q _ h => by omega) ie im hn) ?_))
   rintro _ w92 ⟨rfl, hres9, k92⟩
   have := k92.size
   refine l_v (zaI rfl) (l_nil (n_blk (n_then (⟨_, rfl, ?_⟩))))
   have hst : (stMt ((e0, rs), n, ms) (k, rq, mv, en, an, key, g)) = goMt ((e0, rs), n, ms) (decide (k = 9)) mv := by unfold stMt; simp only []; rw [if_neg zo, if_neg zo, if_neg zo, if_pos (.inr hk)]
   replace E := E.step k92 dj3
   replace HG1 := HG1.keep k92 dj1
   replace HG2 := HG2.keep k92 dj1
   replace HSk := HSk.keep k92 dj1
   replace HGm := HGm.keep k92 dj1
   replace HSr := HSr.keep k92 dj1
   replace HB2 := HB2.keep k92 dj4
   replace HB3 := HB3.keep k92 dj4
   replace HB4 := HB4.keep k92 dj4
   replace HSo := HSo.keep k92 dj1
   replace HGo := HGo.keep k92 dj1
   refine ⟨_, ⟨rfl, rfl, rfl, trivial⟩, E, HB4, ?_, fun h0 => ?_⟩
   ·
    rw [hst]
   rw [hst]
   obtain ⟨v9, u9, HB9, j9, HS9, HO9⟩ := hres9 h0
   have hnx : (goMt ((e0, rs), n, ms) (decide (k = 9)) mv).1.2.1 = n := goMt_nx _ _ _
   rw [hnx]
   exact ⟨_, _, HB9, j9, im, HS9.mono fun q _ h => by omega, HO9.view.mono fun q _ h => by rcases h with h | h <;> omega⟩
  refine wp_reg zd (l_v (v_assign rfl) (l_nil (n_blk (n_then (⟨_, rfl, ?_⟩)))))
  have n6 := dfalse h6; have n7 := dfalse h7; have n8 := dfalse h8; have n9 := dfalse h9; have n10 := dfalse h10
  have hst : (stMt ((e0, rs), n, ms) (k, rq, mv, en, an, key, g)) = (((e0, rs), n, ms), 2) := by unfold stMt; simp only []; rw [if_neg n6, if_neg n7, if_neg n8, if_neg zo]
  refine ⟨_, ⟨rfl, rfl, rfl, trivial⟩, E, HB4, ?_, fun h0 => absurd h0 zq⟩
  rw [hst]
 rintro _ w113 ⟨e, rfl, er, hh, E, HB4, her, hres⟩
 obtain ⟨jj, rfl⟩ : ∃ j, e = updL _ j := ⟨_, hh.upd⟩
 refine c_seq (c_seq (wp_reg zd (l_v (zmI rfl) (l_v (v_neq rfl rfl) ?_))))
 refine l_nil (n_then (c_cond rfl rfl (fun h99 => ?_) (fun h99 => ?_)))
 ·
  refine c_seq (wp_reg zd (l_v (v_build (pl := [(0, 2), (2, 1), (3, 1)]) (z := .agg #[.int .i64 0, .slice none 0 0, .int .i64 0, .slice none 0 0]) (zl := [.int .i64 0, .slice none 0 0, .int .i64 0, .slice none 0 0]) zk (by unfold kZero; kernel_rfl) rfl rfl (cells := [_, _, _, _]) rfl) ?_))
  refine l_v (zmI rfl) (l_to (to_storeA (n := 4) rfl rfl (zvA rfl) zk rfl dj6 HB4 dj5 ?_))
  rintro w114 HX114 k114 z114
  have := k114.size
  replace HB4 := HX114
  clear HX114
  try simp only [zS, Nat.zero_add, Nat.reduceAdd, List.drop_nil] at HB4
  refine l_v (zaI rfl) (l_nil (n_then (c_ret (r_then (ret2cv (n := 4) rfl zq zq rfl zk HB4.pv rfl (zvI rfl) ?_)))))
  have h1 : ¬ (stMt ((e0, rs), n, ms) (k, rq, mv, en, an, key, g)).2 = 0 := by rw [← her]; simpa using h99
  rw [hdo, if_neg h1, ← her]
  replace E := E.step k114 dj3
  exact ⟨⟨_, rfl, mt0_ag⟩, E⟩
 have h1 : er = 0 := by simpa using h99
 obtain ⟨v9, u9, HB6, j1, j2, HS9, HS8⟩ := hres h1
 obtain ⟨z1, z2, rfl⟩ := HS9.shape
 obtain ⟨z3, z4, rfl⟩ := HS8.shape
 refine c_skip (n_then (c_seq (wp_reg zd (l_v (v_loadA zk rfl (by first | exact HB6.pv | exact HB4.pv | assumption) rfl) ?_))))
 refine l_to (to_storeA (n := 4) rfl rfl (zvA rfl) zk rfl dj6 HB4 dj5 ?_)
 rintro w115 HX115 k115 z115
 have := k115.size
 replace HB4 := HX115
 clear HX115
 try simp only [zS, Nat.zero_add, Nat.reduceAdd, List.drop_nil] at HB4
 refine l_v (v_assign rfl) (l_nil (n_then (c_ret (ret2cv (n := 4) rfl zq zq rfl zk HB4.pv rfl (zvI rfl) ?_))))
 rw [hdo, if_pos (her.symm.trans h1), ← her, h1]
 replace E := E.step k115 dj3
 replace HS9 := HS9.keep k115 dj1
 replace HS8 := HS8.keep k115 dj1
 exact ⟨⟨_, rfl, AgV.mkMt (HS9.mono fun q _ h => by omega) (HS8.mono fun q _ h => by omega) j1 j2⟩, E⟩
end Go.Proofs.Yteehplloacefmaa
