/- A part of the proof: steps and lemmas for the walks through the given program. -/
import Derived.Test.YteehplloacefmaaM4
import Derived.Test.YteehplloacefmaaR12
namespace Go.Proofs.Yteehplloacefmaa
open Go.Vc
set_option linter.unusedVariables false
set_option linter.unusedSimpArgs false
set_option maxRecDepth 100000

theorem BcJ.ld {b : Nat} {T : TypeId} {al : List Nat} {css : List (List Value)} {done : Nat → Bool} {vals : Nat → Value} {w : World} {k : Nat} {v : Value} (j : BcJ b T al css done vals w) (hn : css.length = al.length + 1) (h : ∀ l ∈ css, l[k]? = some v) : w.cell? ((⟨b, 0, none⟩ : Addr).add k) = some v := by
  obtain ⟨c, hc, _, h3⟩ := j
  have hlt : c < css.length := by omega
  refine h3.pv k v (h _ ?_)
  rw [List.getD_eq_getElem?_getD, List.getElem?_eq_getElem hlt]
  exact List.getElem_mem hlt
theorem goOn1_c {w : World} {F G : Nat → Prop} {u : Value} {x : MaV} {bc bk : Nat} {T T2 : TypeId} {cut : Bool} {mv : MvV} {x0 x1 x2 x3 x4 x5 x6 x7 x8 x9 y0 y1 y2 y3 y4 y5 z0 z1 z2 z3 : Value}
    (hc : Blk w bc [x0, x1, x2, x3, x4, x5, x6, x7, x8, x9, y0, y1, y2, y3, y4, y5, z0, z1, z2, z3] T) (hm : AgV tMv w G (.agg #[y0, y1, y2, y3, y4, y5]) mv) (hk : Blk w bk [.bool cut] T2) (HG1 : AgV tMa w F u x) :
    CallsR Try.prog 65 #[u, .pointer (some ⟨bc, 0, none⟩), .pointer (some ⟨bk, 0, none⟩)] w (fun o w' => o = .bool (stepB cut mv x) ∧ Ext w w') := by
 obtain ⟨a1, c1, a2, c2, rfl, HSf, HSt, i1, i2, i3⟩ := HG1.ma
 have HG3 := AgV.maMv HG1
 have HBc := hc
 have HBk := hk
 have HGm := hm
 refine enter 16 Try.func65 rfl rfl (by simp) ?_
 refine c_seq ?_
 have E := Keep.refl (K := NoK) w
 replace HG3 := HG3.all
 replace HGm := HGm.all
 refine wp_reg zd (l_to (to_box (zvA rfl) ?_))
 rintro b3 w3 zb3 HB3 e3 z3
 have := e3.size
 try simp only [Value.cells] at HB3
 replace HBc := HBc.ext e3
 replace HBk := HBk.ext e3
 refine l_v (v_assign rfl) (l_nil (n_then (c_seq (wp_reg zd (l_v (v_fieldAddr (off := 0) (ft := 39) zk rfl) (l_v (v_loadA zk rfl (by first | exact (show Pv _ _ [_, _, _, _, _, _] from pv_sub 0 6 HB3.pv) | exact (show Pv _ _ [_, _, _, _, _, _] from pv_sub 0 6 HBk.pv) | exact (show Pv _ _ [_, _, _, _, _, _] from pv_sub 0 6 HBc.pv) | exact pv_at 0 HB3.pv | exact pv_at 0 HBk.pv | exact pv_at 0 HBc.pv | assumption) rfl) ?_))))))
 refine l_v (v_fieldAddr (off := 10) (ft := 39) zk rfl) (l_v (v_loadA zk rfl (by first | exact (show Pv _ _ [_, _, _, _, _, _] from pv_sub 10 6 HB3.pv) | exact (show Pv _ _ [_, _, _, _, _, _] from pv_sub 10 6 HBk.pv) | exact (show Pv _ _ [_, _, _, _, _, _] from pv_sub 10 6 HBc.pv) | exact pv_at 10 HB3.pv | exact pv_at 10 HBk.pv | exact pv_at 10 HBc.pv | assumption) rfl) ?_)
 replace HG3 := HG3.ext e3
 replace HGm := HGm.ext e3
 refine l_to (to_f2 zk (zvA rfl) (zvA rfl) (CallsR.mono (SameMove_c HG3 HGm) ?_))
 rintro _ w101 ⟨rfl, e101⟩
 have := e101.size
 refine l_v (zmB rfl) (l_g1 rfl rfl (fun hG => v_fieldAddr (off := 6) (ft := 4) zk rfl) ?_)
 replace HBc := HBc.ext e101
 replace HBk := HBk.ext e101
 replace HB3 := HB3.ext e101
 refine l_g1 rfl rfl (fun hG => v_load zk (gd hG rfl) (by first | exact HB3.pv 6 _ rfl | exact HBk.pv 6 _ rfl | exact HBc.pv 6 _ rfl | assumption)) ?_
 refine l_g1 rfl rfl (fun hG => v_load zk rfl (by first | exact HB3.cell rfl | exact HBk.cell rfl | exact HBc.cell rfl | assumption)) ?_
 refine l_g1 rfl rfl (fun hG => v_bneq zk (gd hG rfl) (gd hG rfl)) ?_
 refine l_v (v_and rfl rfl) ?_
 refine l_v (zaB rfl) (l_nil (n_then (c_ret (ret1v rfl zq (zvB rfl) ?_))))
 replace E := (E.trans e3.keep).trans e101.keep
 refine ⟨?_, E⟩
 simp only [stepB]; cases decide (x.1 = mv) <;> cases x.2 <;> cases cut <;> rfl
theorem idxM_optI {α : Type} (p : α → Bool) (l : List α) : idxM p l 0 = optI (l.findIdx? p) := by
  rw [idxM_opt]; cases l.findIdx? p <;> simp [optI]
set_option maxHeartbeats 2000000 in
theorem goOn_c {w : World} {b m B0 : Nat} {v1 v2 vc : Value} {e n : Int} {rs : List RgV} {ms : List MaV} {c : CmV} (HB : Blk w b [.int .i64 e, v1, .int .i64 n, v2] 27) (HSr : SlV tRg w (fun q => B0 ≤ q ∧ q < m) v1 rs) (HO : OwV tMa 54 w m (fun q => m ≤ q ∧ q < b) v2 ms) (hob : ∀ q, v2.ownBlock = some q → q < b) (hmb : m ≤ b) (hB0 : B0 ≤ m)
    (HG : AgV tCm w (fun q => q < m) vc c) (ie : I64' e) (im : I64' n) (hn : ms.length ≤ 1000) :
    CallsR Try.prog 35 #[.pointer (some ⟨b, 0, none⟩), vc] w (fun o w' => o = .int .i64 (goMt ((e, rs), n, ms) (decide (c.1 = 9)) c.2.2.1).2 ∧ ((goMt ((e, rs), n, ms) (decide (c.1 = 9)) c.2.2.1).2 = 0 → ∃ v u, Blk w' b [.int .i64 (goMt ((e, rs), n, ms) (decide (c.1 = 9)) c.2.2.1).1.1.1, v, .int .i64 n, u] 27 ∧ I64' (goMt ((e, rs), n, ms) (decide (c.1 = 9)) c.2.2.1).1.1.1 ∧ SlV tRg w' (fun q => B0 ≤ q) v (goMt ((e, rs), n, ms) (decide (c.1 = 9)) c.2.2.1).1.1.2 ∧ OwV tMa 54 w' m (fun q => m ≤ q ∧ q ≠ b) u (goMt ((e, rs), n, ms) (decide (c.1 = 9)) c.2.2.1).1.2.2) ∧ Keep (fun q => m ≤ q) w w') := by
 obtain ⟨k, rq, mv, en, an, key, g⟩ := c
 obtain ⟨x1, d1, x2, d2, x3, d3, x4, d4, x5, d5, x6, d6, x7, d7, x8, d8, x9, d9, hvc, _, HGv, _, _, _, ik, ig⟩ := HG.cm
 subst hvc
 obtain ⟨a1, c1, rfl⟩ := HSr.shape
 obtain ⟨a2, c2, rfl⟩ := HO.shape
 obtain ⟨y1, f1, y2, f2, hvm, HSmf, _⟩ := HGv.mv
 simp only [Value.agg.injEq, Array.mk.injEq, List.cons.injEq, Value.slice.injEq, and_true, true_and] at hvm
 obtain ⟨⟨rfl, rfl⟩, rfl, rfl⟩ := hvm
 have HO1 := HO
 have hblt := HB.lt
 have HGm := AgV.mpOf HSr ie
 have zo0 : ∀ q, (Value.slice a2 ms.length c2).ownBlock = some q → m ≤ q ∧ q < b := fun q h => ⟨(HO.own_lt h).1, hob q h⟩
 obtain ⟨cut, hcut⟩ : ∃ x, x = decide (k = 9) := ⟨_, rfl⟩
 simp only [← hcut]
 rcases hf : ms.findIdx? (stepB cut mv) with _ | i
 ·
  have hr : goMt ((e, rs), n, ms) cut mv = (((e, rs), n, ms), 9) := by simp only [goMt, hf]
  simp only [hr]
  refine enter 61 Try.func35 rfl rfl (by simp) ?_
  refine c_seq ?_
  have E := Keep.refl (K := fun q => m ≤ q) w
  have zo_HO1 := fun (b : Nat) h => HO1.own_lt (b := b) h
  refine wp_reg zd (l_to (to_box (zvA rfl) ?_))
  rintro b3 w3 zb3 HB3 e3 z3
  have := e3.size
  try simp only [Value.cells] at HB3
  replace HB := HB.ext e3
  refine l_v (v_assign rfl) (l_nil (n_then (c_seq (wp_reg zd (l_v (v_fieldAddr (off := 0) (ft := 31) zk rfl) (l_v (v_load zk rfl (by first | exact HB3.pv 0 _ rfl | exact HB.pv 0 _ rfl | assumption)) ?_))))))
  refine l_v (v_eql rfl rfl) ?_
  refine l_to (to_alloc (z := (.bool false)) (by unfold kZero; kernel_rfl) ?_)
  rintro b5 w5 zb5 HB5 e5 z5
  have := e5.size
  try simp only [Value.cells] at HB5
  refine l_to (to_store rfl rfl (zvB rfl) rfl zk HB5 dj5 ?_)
  rintro w101 HX101 k101 z101
  have := k101.size
  replace HB5 := HX101
  clear HX101
  try simp only [zS, Nat.zero_add, Nat.reduceAdd, List.drop_nil] at HB5
  refine l_nil (n_then (c_seq ?_))
  rw [← hcut] at HB5
  refine wp_reg zd (l_v (zmP rfl) (l_v (v_nilCheck rfl) ?_))
  replace HB := (HB.ext e5).keep k101 dj4
  replace HB3 := (HB3.ext e5).keep k101 dj4
  refine l_v (v_fieldAddr (off := 3) (ft := 25) zk rfl) (l_v (v_load zk rfl (by first | exact HB5.pv 3 _ rfl | exact HB3.pv 3 _ rfl | exact HB.pv 3 _ rfl | assumption)) ?_)
  refine l_v (v_makeFunc (by simp [ev]; rfl) (by simp [ev]; rfl)) ?_
  replace HO1 := ((HO1.ext e3).ext e5).keep k101 (by intro i ho he; have he0 := he; have ho0 := ho; (try dsimp only [NoK] at he); (try simp only [Value.ownBlock, Option.some.injEq, reduceCtorEq] at ho); (try simp only [Value.ownBlock, Option.some.injEq, reduceCtorEq] at he); first | exact he.elim | exact ho.elim | omega | (have := zo_HO1 _ ho0; omega)) (by intro i _ hi _ he; have he0 := he; have hi := hi; have he := he; (try dsimp only [NoK, AllB] at hi he); (try simp only [Value.ownBlock, Option.some.injEq, reduceCtorEq] at he); all_goals first | exact hi.elim | exact hi.1.elim | exact he.elim | omega | (rcases hi with hi | hi <;> omega) | (rcases he with he | he <;> omega))
  replace HGv := ((HGv.ext e3).ext e5).keep k101 dj1
  refine l_to (to_f2 zk (zvS rfl) (show _ = (Value.func _ _ _) from rfl) (CallsR.mono (findMa_c (cap := #[.pointer (some ⟨b3, 0, none⟩), .pointer (some ⟨b5, 0, none⟩)]) HO1.view zk (fun W u r e h => goOn1_c (HB3.ext e) (HGv.ext e) (HB5.ext e) h)) ?_))
  rintro _ w102 ⟨rfl, e102⟩
  have := e102.size
  rw [idxM_optI, hf]
  refine l_v (zaI rfl) (l_nil (n_then (c_seq (c_seq (wp_reg zd (l_v (zmI rfl) (l_v (v_lss rfl rfl) ?_)))))))
  replace E := (((E.trans e3.keep).trans e5.keep).step k101 dj3).trans e102.keep
  replace HB := HB.ext e102
  replace HO1 := HO1.ext e102
  replace HGv := HGv.ext e102
  replace HB3 := HB3.ext e102
  replace HB5 := HB5.ext e102
  refine l_nil (n_then (c_cond rfl rfl (fun h19 => ?_) (fun h19 => ?_)))
  ·
   refine c_seq (wp_reg zd (l_v (v_assign rfl) (l_nil (n_then (c_ret (r_then (ret1v rfl zq (zvI rfl) ?_)))))))
   exact ⟨rfl, fun h => absurd h zq, E⟩
  simp [optI] at h19
 have hil : i < ms.length := by rw [List.findIdx?_eq_some_iff_getElem] at hf; exact hf.1
 obtain ⟨b2, rfl, hb2, hb2'⟩ := HO.addr (fun h => by rw [h] at hil; simp at hil)
 have hb2b : b2 < b := hob b2 rfl
 have hr0 : goMt ((e, rs), n, ms) cut mv = if cut = true then (if (giveM (e, rs) mv.2.1 mv.2.2.2.2.2).2 = 0 then (((giveM (e, rs) mv.2.1 mv.2.2.2.2.2).1, n, ms.set i (((ms.getD i (mv0, false)).1, true))), 0) else (((e, rs), n, ms), (giveM (e, rs) mv.2.1 mv.2.2.2.2.2).2)) else (((e, rs), n, ms.eraseIdx i), 0) := by simp only [goMt, hf]
 obtain ⟨x, hx, _⟩ := getE hil
 have hxd : ms.getD i (mv0, false) = x := by simp [hx]
 refine enter 61 Try.func35 rfl rfl (by simp) ?_
 refine c_seq ?_
 have E := Keep.refl (K := fun q => m ≤ q) w
 have zo_HO1 := fun (b : Nat) h => HO1.own_lt (b := b) h
 refine wp_reg zd (l_to (to_box (zvA rfl) ?_))
 rintro b3 w3 zb3 HB3 e3 z3
 have := e3.size
 try simp only [Value.cells] at HB3
 replace HB := HB.ext e3
 refine l_v (v_assign rfl) (l_nil (n_then (c_seq (wp_reg zd (l_v (v_fieldAddr (off := 0) (ft := 31) zk rfl) (l_v (v_load zk rfl (by first | exact HB3.pv 0 _ rfl | exact HB.pv 0 _ rfl | assumption)) ?_))))))
 refine l_v (v_eql rfl rfl) ?_
 refine l_to (to_alloc (z := (.bool false)) (by unfold kZero; kernel_rfl) ?_)
 rintro b5 w5 zb5 HB5 e5 z5
 have := e5.size
 try simp only [Value.cells] at HB5
 refine l_to (to_store rfl rfl (zvB rfl) rfl zk HB5 dj5 ?_)
 rintro w101 HX101 k101 z101
 have := k101.size
 replace HB5 := HX101
 clear HX101
 try simp only [zS, Nat.zero_add, Nat.reduceAdd, List.drop_nil] at HB5
 refine l_nil (n_then (c_seq ?_))
 rw [← hcut] at HB5
 refine wp_reg zd (l_v (zmP rfl) (l_v (v_nilCheck rfl) ?_))
 replace HB := (HB.ext e5).keep k101 dj4
 replace HB3 := (HB3.ext e5).keep k101 dj4
 refine l_v (v_fieldAddr (off := 3) (ft := 25) zk rfl) (l_v (v_load zk rfl (by first | exact HB5.pv 3 _ rfl | exact HB3.pv 3 _ rfl | exact HB.pv 3 _ rfl | assumption)) ?_)
 refine l_v (v_makeFunc (by simp [ev]; rfl) (by simp [ev]; rfl)) ?_
 replace HO1 := ((HO1.ext e3).ext e5).keep k101 (by intro i ho he; have he0 := he; have ho0 := ho; (try dsimp only [NoK] at he); (try simp only [Value.ownBlock, Option.some.injEq, reduceCtorEq] at ho); (try simp only [Value.ownBlock, Option.some.injEq, reduceCtorEq] at he); first | exact he.elim | exact ho.elim | omega | (have := zo_HO1 _ ho0; omega)) (by intro i _ hi _ he; have he0 := he; have hi := hi; have he := he; (try dsimp only [NoK, AllB] at hi he); (try simp only [Value.ownBlock, Option.some.injEq, reduceCtorEq] at he); all_goals first | exact hi.elim | exact hi.1.elim | exact he.elim | omega | (rcases hi with hi | hi <;> omega) | (rcases he with he | he <;> omega))
 replace HGv := ((HGv.ext e3).ext e5).keep k101 dj1
 refine l_to (to_f2 zk (zvS rfl) (show _ = (Value.func _ _ _) from rfl) (CallsR.mono (findMa_c (cap := #[.pointer (some ⟨b3, 0, none⟩), .pointer (some ⟨b5, 0, none⟩)]) HO1.view zk (fun W u r e h => goOn1_c (HB3.ext e) (HGv.ext e) (HB5.ext e) h)) ?_))
 replace HSr := ((HSr.ext e3).ext e5).keep k101 dj1
 replace HSmf := ((HSmf.ext e3).ext e5).keep k101 dj1
 replace HGm := ((HGm.ext e3).ext e5).keep k101 dj1
 rintro _ w102 ⟨rfl, e102⟩
 have := e102.size
 rw [idxM_optI, hf]
 have hoi : optI (some i) = (i : Int) := rfl
 rw [hoi]
 refine l_v (zaI rfl) (l_nil (n_then (c_seq (c_seq (wp_reg zd (l_v (zmI rfl) (l_v (v_lss rfl rfl) ?_)))))))
 replace E := (((E.trans e3.keep).trans e5.keep).step k101 dj3).trans e102.keep
 replace HB := HB.ext e102
 replace HO1 := HO1.ext e102
 replace HSr := HSr.ext e102
 replace HSmf := HSmf.ext e102
 replace HGv := HGv.ext e102
 replace HGm := HGm.ext e102
 replace HB3 := HB3.ext e102
 replace HB5 := HB5.ext e102
 refine l_nil (n_then (c_cond rfl rfl (fun h19 => ?_) (fun h19 => ?_)))
 ·
  simp at h19; omega
 refine c_skip (n_then (c_seq (c_seq (wp_reg zd (l_v (v_load zk rfl (by first | exact HB5.cell rfl | exact HB3.cell rfl | exact HB.cell rfl | assumption)) ?_)))))
 refine l_v (v_not rfl) ?_
 refine l_nil (n_then (c_cond rfl rfl (fun h21 => ?_) (fun h21 => ?_)))
 ·
  have h21 : cut = false := by simpa using h21
  rw [if_neg (by simp [h21])] at hr0
  refine c_seq (wp_reg zd (l_v (zmP rfl) (l_v (zmP rfl) (l_v (v_nilCheck rfl) ?_))))
  refine l_v (v_fieldAddr (off := 3) (ft := 25) zk rfl) (l_v (v_load zk rfl (by first | exact HB5.pv 3 _ rfl | exact HB3.pv 3 _ rfl | exact HB.pv 3 _ rfl | assumption)) ?_)
  refine l_v (zmI rfl) (l_v (zmI rfl) (l_v (v_add rfl rfl (by first | exact wr_i64 zo zo | rfl)) ?_))
  refine l_to (to_f3 zk (zvS rfl) (zvI rfl) (zvI rfl) (CallsR.mono (Delete_c HO1 rfl hil) ?_))
  rintro _ w30 ⟨rfl, HO2, k30⟩
  have := k30.size
  have zo_HO2 := fun (q : Nat) h => And.intro (HO2.own_lt (b := q) h) (show q = b2 from (Option.some.inj h).symm)
  have zo_HO2 := fun (b : Nat) h => HO2.own_lt (b := b) h
  refine l_v (v_nilCheck rfl) ?_
  replace HB := HB.keep k30 (by intro h; have he0 := h; (try dsimp only at h); (try simp only [Value.ownBlock, Option.some.injEq] at h); first | omega | (have := zo0 _ he0; omega) | (have := hob _ he0; omega) | (have he := he0; first | (have := zo0 _ he0; omega) | (have := hob _ he0; omega)))
  refine l_v (v_fieldAddr (off := 3) (ft := 25) zk rfl) (l_to (to_store rfl rfl (zvS rfl) rfl zk HB dj5 ?_))
  rintro w103 HX103 k103 z103
  have := k103.size
  replace HB := HX103
  clear HX103
  try simp only [zS, Nat.zero_add, Nat.reduceAdd, List.drop_nil] at HB
  refine l_nil (n_then (c_seq (wp_reg zd (l_v (v_assign rfl) (l_nil (n_then (c_ret (r_then (ret1v rfl zq (zvI rfl) ?_)))))))))
  simp only [hr0]
  replace E := (E.step k30 (by intro i hi he; have he0 := he; (try dsimp only [NoK] at hi he ⊢); (try simp only [Value.ownBlock, Option.some.injEq] at he); first | exact he.elim | omega | exact he | (first | (have := zo0 _ he0; omega) | (have := hob _ he0; omega)))).step k103 (by intro i hi he; have he0 := he; (try dsimp only [NoK] at hi he ⊢); (try simp only [Value.ownBlock, Option.some.injEq] at he); first | exact he.elim | omega | exact he | (first | (have := zo0 _ he0; omega) | (have := hob _ he0; omega)))
  replace HSr := (HSr.keep k30 (by intro i _ hi he; have he0 := he; (try dsimp only [NoK, AllB] at hi he); (try simp only [Value.ownBlock, Option.some.injEq] at he); first | exact hi.elim | exact he.elim | omega | (rcases hi with hi | hi <;> omega) | (rcases he with he | he <;> omega) | (first | (have := zo0 _ he0; omega) | (have := hob _ he0; omega)))).keep k103 (by intro i _ hi he; have he0 := he; (try dsimp only [NoK, AllB] at hi he); (try simp only [Value.ownBlock, Option.some.injEq] at he); first | exact hi.elim | exact he.elim | omega | (rcases hi with hi | hi <;> omega) | (rcases he with he | he <;> omega) | (first | (have := zo0 _ he0; omega) | (have := hob _ he0; omega)))
  replace HO2 := HO2.keep k103 (by intro i ho he; have he0 := he; have ho0 := ho; (try dsimp only [NoK] at he); (try simp only [Value.ownBlock, Option.some.injEq, reduceCtorEq] at ho); (try simp only [Value.ownBlock, Option.some.injEq, reduceCtorEq] at he); first | exact he.elim | exact ho.elim | omega | (have := zo_HO2 _ ho0; omega)) (by intro i _ hi _ he; have he0 := he; have hi := hi; have he := he; (try dsimp only [NoK, AllB] at hi he); (try simp only [Value.ownBlock, Option.some.injEq, reduceCtorEq] at he); all_goals first | exact hi.elim | exact hi.1.elim | exact he.elim | omega | (rcases hi with hi | hi <;> omega) | (rcases he with he | he <;> omega) | (first | (have := zo0 _ he0; omega) | (have := hob _ he0; omega)))
  exact ⟨trivial, fun _ => ⟨_, _, HB, ie, HSr.mono fun q _ h => h.1, HO2.mono fun q _ h => ⟨h.1, by omega⟩⟩, E⟩
 have h21 : cut = true := by simpa using h21
 rw [if_pos h21] at hr0
 refine c_skip (n_then (c_seq (wp_any zk ?_)))
 have e104 : Ext w102 { w102 with drawn := w102.drawn + 1 } := Keep.drawn _ _
 generalize hw104 : ({ w102 with drawn := w102.drawn + 1 } : World) = w104 at e104 ⊢
 clear hw104
 have := e104.size
 refine r_cut 16 rfl zd zd zd ?_
 refine wp_regJW (fun k => w104.heap.size ≤ k) (CJ (tMp) ((giveM (e, rs) mv.2.1 mv.2.2.2.2.2).1) (tU8) ([]) (.int .i64 (giveM (e, rs) mv.2.1 mv.2.2.2.2.2).2) ([.int .i64 0, .slice none 0 0] : List Value) 24 99 10 11 12 13 14 15 w104.heap.size) zd zd (fun vals done hd => CJ.start _ (by rfl) (by simp only [List.forall_mem_cons]; repeat' (first | exact rfl | apply And.intro | (intro u hu; cases hu; done))) (Nat.le_refl _) (fun h => absurd rfl h) (hd 10 zq) (hd 11 zq) (hd 12 zq) (hd 13 zq) (hd 14 zq)) ?_
 refine rj_v CJ.on zq (fun done vals w hR hJ hdn hd => zmP rfl) ?_
 refine rj_v CJ.on zq (fun done vals w hR hJ hdn hd => v_nilCheck (hd 0 rfl)) ?_
 refine rj_v CJ.on zq (fun done vals w hR hJ hdn hd => v_fieldAddr (off := 0) (ft := 24) zk (hd 1 rfl)) ?_
 replace HB := HB.ext e104
 replace HB3 := HB3.ext e104
 refine rj_v CJ.on zq (fun done vals w hR hJ hdn hd => v_loadA zk (hd 2 rfl) (by first | exact (show Pv _ _ [_, _] from pv_sub 0 2 (HB3.keep hR (by intro h; have he0 := h; (try dsimp only at h); (try simp only [Value.ownBlock, Option.some.injEq] at h); first | omega | (have := zo0 _ he0; omega) | (have := hob _ he0; omega) | (have he := he0; first | (have := zo0 _ he0; omega) | (have := hob _ he0; omega)))).pv) | exact (show Pv _ _ [_, _] from pv_sub 0 2 (HB.keep hR (by intro h; have he0 := h; (try dsimp only at h); (try simp only [Value.ownBlock, Option.some.injEq] at h); first | omega | (have := zo0 _ he0; omega) | (have := hob _ he0; omega) | (have he := he0; first | (have := zo0 _ he0; omega) | (have := hob _ he0; omega)))).pv) | exact pv_at 0 (HB3.keep hR (by intro h; have he0 := h; (try dsimp only at h); (try simp only [Value.ownBlock, Option.some.injEq] at h); first | omega | (have := zo0 _ he0; omega) | (have := hob _ he0; omega) | (have he := he0; first | (have := zo0 _ he0; omega) | (have := hob _ he0; omega)))).pv | exact pv_at 0 (HB.keep hR (by intro h; have he0 := h; (try dsimp only at h); (try simp only [Value.ownBlock, Option.some.injEq] at h); first | omega | (have := zo0 _ he0; omega) | (have := hob _ he0; omega) | (have he := he0; first | (have := zo0 _ he0; omega) | (have := hob _ he0; omega)))).pv | assumption) rfl) ?_
 refine rj_v CJ.on zq (fun done vals w hR hJ hdn hd => v_fieldAddr (off := 10) (ft := 39) zk rfl) ?_
 refine rj_v CJ.on zq (fun done vals w hR hJ hdn hd => v_fieldAddr (off := 1) (ft := 33) zk (hd 4 rfl)) ?_
 refine rj_v CJ.on zq (fun done vals w hR hJ hdn hd => v_load zk (hd 5 rfl) (by first | exact (HB3.keep hR (by intro h; have he0 := h; (try dsimp only at h); (try simp only [Value.ownBlock, Option.some.injEq] at h); first | omega | (have := zo0 _ he0; omega) | (have := hob _ he0; omega) | (have he := he0; first | (have := zo0 _ he0; omega) | (have := hob _ he0; omega)))).pv 11 _ rfl | exact (HB.keep hR (by intro h; have he0 := h; (try dsimp only at h); (try simp only [Value.ownBlock, Option.some.injEq] at h); first | omega | (have := zo0 _ he0; omega) | (have := hob _ he0; omega) | (have he := he0; first | (have := zo0 _ he0; omega) | (have := hob _ he0; omega)))).pv 11 _ rfl | exact (HB3.keep hR (by intro h; have he0 := h; (try dsimp only at h); (try simp only [Value.ownBlock, Option.some.injEq] at h); first | omega | (have := zo0 _ he0; omega) | (have := hob _ he0; omega) | (have he := he0; first | (have := zo0 _ he0; omega) | (have := hob _ he0; omega)))).pv 1 _ rfl | exact (HB.keep hR (by intro h; have he0 := h; (try dsimp only at h); (try simp only [Value.ownBlock, Option.some.injEq] at h); first | omega | (have := zo0 _ he0; omega) | (have := hob _ he0; omega) | (have he := he0; first | (have := zo0 _ he0; omega) | (have := hob _ he0; omega)))).pv 1 _ rfl | assumption)) ?_
 refine rj_v CJ.on zq (fun done vals w hR hJ hdn hd => v_fieldAddr (off := 10) (ft := 39) zk rfl) ?_
 refine rj_v CJ.on zq (fun done vals w hR hJ hdn hd => v_fieldAddr (off := 5) (ft := 3) zk (hd 7 rfl)) ?_
 refine rj_v CJ.on zq (fun done vals w hR hJ hdn hd => v_load zk (hd 8 rfl) (by first | exact (HB3.keep hR (by intro h; have he0 := h; (try dsimp only at h); (try simp only [Value.ownBlock, Option.some.injEq] at h); first | omega | (have := zo0 _ he0; omega) | (have := hob _ he0; omega) | (have he := he0; first | (have := zo0 _ he0; omega) | (have := hob _ he0; omega)))).pv 15 _ rfl | exact (HB.keep hR (by intro h; have he0 := h; (try dsimp only at h); (try simp only [Value.ownBlock, Option.some.injEq] at h); first | omega | (have := zo0 _ he0; omega) | (have := hob _ he0; omega) | (have he := he0; first | (have := zo0 _ he0; omega) | (have := hob _ he0; omega)))).pv 15 _ rfl | exact (HB3.keep hR (by intro h; have he0 := h; (try dsimp only at h); (try simp only [Value.ownBlock, Option.some.injEq] at h); first | omega | (have := zo0 _ he0; omega) | (have := hob _ he0; omega) | (have he := he0; first | (have := zo0 _ he0; omega) | (have := hob _ he0; omega)))).pv 5 _ rfl | exact (HB.keep hR (by intro h; have he0 := h; (try dsimp only at h); (try simp only [Value.ownBlock, Option.some.injEq] at h); first | omega | (have := zo0 _ he0; omega) | (have := hob _ he0; omega) | (have he := he0; first | (have := zo0 _ he0; omega) | (have := hob _ he0; omega)))).pv 5 _ rfl | assumption)) ?_
 replace E := E.trans e104.keep
 replace HO1 := HO1.ext e104
 replace HSr := HSr.ext e104
 replace HSmf := HSmf.ext e104
 replace HGv := HGv.ext e104
 replace HGm := HGm.ext e104
 refine rj_d (fun done vals w hR hcl hdk hJ hdn hd => by
   exact to_f3 zk (hd 3 rfl) (hd 6 rfl) (hd 9 rfl) (CallsR.mono (Give_c (HGm.keep hR (by intro i _ hi he; have he0 := he; (try dsimp only [NoK, AllB] at hi he); (try simp only [Value.ownBlock, Option.some.injEq] at he); first | exact hi.elim | exact he.elim | omega | (rcases hi with hi | hi <;> omega) | (rcases he with he | he <;> omega) | (first | (have := zo0 _ he0; omega) | (have := hob _ he0; omega)))) (HSmf.keep hR (by intro i _ hi he; have he0 := he; (try dsimp only [NoK, AllB] at hi he); (try simp only [Value.ownBlock, Option.some.injEq] at he); first | exact hi.elim | exact he.elim | omega | (rcases hi with hi | hi <;> omega) | (rcases he with he | he <;> omega) | (first | (have := zo0 _ he0; omega) | (have := hob _ he0; omega))))) fun o w1 h => by
    obtain ⟨⟨y, rfl, cs, rfl, hr⟩, e1⟩ := h
    exact ⟨Ext.keep e1, hJ.call zq (Bool.eq_false_iff.2 fun h => absurd (hdk.symm.trans (hcl 11 _ h rfl 10 rfl)) zq) (Bool.eq_false_iff.2 fun h => absurd (hdk.symm.trans (hcl 11 _ (hcl 12 _ h rfl 11 rfl) rfl 10 rfl)) zq) (Bool.eq_false_iff.2 fun h => absurd (hdk.symm.trans (hcl 11 _ (hcl 13 _ h rfl 11 rfl) rfl 10 rfl)) zq) (Bool.eq_false_iff.2 fun h => absurd (hdk.symm.trans (hcl 11 _ (hcl 12 _ (hcl 15 _ h rfl 12 rfl) rfl 11 rfl) rfl 10 rfl)) zq) e1 hr (Ty.len _ hr) (Ty.one _ hr)⟩)) ?_
 refine rj_d (fun done vals w hR hcl hdk hJ hdn hd => by
   obtain ⟨cs, hv, hj⟩ := hJ.mvd zq (hdn 10 rfl)
   exact OpTo.of_v (v_move (t := .tuple #[.agg cs.toArray, .int .i64 (giveM (e, rs) mv.2.1 mv.2.2.2.2.2).2]) hv) ⟨Keep.refl _, hj⟩) ?_
 refine rj_d (fun done vals w hR hcl hdk hJ hdn hd => by
   obtain ⟨cs, hv, hj⟩ := hJ.x0d zq (hdn 11 rfl)
   exact OpTo.of_v (v_extract (t := .agg cs.toArray) hv rfl) ⟨Keep.refl _, hj⟩) ?_
 refine rj_d (fun done vals w hR hcl hdk hJ hdn hd => by
   obtain ⟨cs, hv, hj⟩ := hJ.x1d zq (hdn 11 rfl)
   exact OpTo.of_v (v_extract (t := .int .i64 (giveM (e, rs) mv.2.1 mv.2.2.2.2.2).2) hv rfl) ⟨Keep.refl _, hj⟩) ?_
 refine rj_d (fun done vals w hR hcl hdk hJ hdn hd => to_alloc (z := .agg #[.int .i64 0, .slice none 0 0]) (by unfold kZero; kernel_rfl) fun b w1 hb hB e hz => ⟨Ext.keep e, hJ.al zq (Bool.eq_false_iff.2 fun h => absurd (hdk.symm.trans (hcl 15 _ h rfl 14 rfl)) zq) hb hB e⟩) ?_
 refine rj_d (fun done vals w hR hcl hdk hJ hdn hd => by
   obtain ⟨b, cs, hb, hv, hn, hB, hl, ho⟩ := hJ.seen (hdn 12 rfl) (hdn 14 rfl) hdk
   exact to_storeA (n := 2) (hb) rfl (hv) zk (show cs.length = _ from hl) (show ∀ u ∈ cs, _ from ho) hB (of_decide_eq_true rfl) (fun w1 hB1 kk z => ⟨kk.mono (fun i _ h => by rw [h]; exact hn), hJ.st zq (hdn 12 rfl) (hdn 14 rfl) hb hv (by rw [show cs.toArray.toList = cs from rfl, setAt_all (by rw [hl]; rfl)] at hB1; exact hB1) kk⟩)) ?_
 refine rj_nil (fun vals w105 k105 J105 => ?_)
 rintro _ - rfl _ - rfl _ - rfl _ - rfl _ - rfl _ - rfl _ - rfl _ - rfl _ - rfl _ - rfl v44 qp10 - v33 qp11 - v45 qp12 - v46 qp13 - v7 qp14 - _ - -
 have := k105.size
 obtain ⟨b7, cs7, qh10, qh11, qh12, qh13, qh14, zb7, HB7, HG7, -⟩ := J105.fin
 obtain rfl := qp10.trans qh10
 obtain rfl := qp11.trans qh11
 obtain rfl := qp12.trans qh12
 obtain rfl := qp13.trans qh13
 obtain rfl := qp14.trans qh14
 have zl7 := HB7.lt
 replace E := E.step k105 (by intro i hi he; have he0 := he; (try dsimp only [NoK] at hi he ⊢); (try simp only [Value.ownBlock, Option.some.injEq] at he); first | exact he.elim | omega | exact he | (first | (have := zo0 _ he0; omega) | (have := hob _ he0; omega)))
 replace HB := HB.keep k105 (by intro h; have he0 := h; (try dsimp only at h); (try simp only [Value.ownBlock, Option.some.injEq] at h); first | omega | (have := zo0 _ he0; omega) | (have := hob _ he0; omega) | (have he := he0; first | (have := zo0 _ he0; omega) | (have := hob _ he0; omega)))
 replace HO1 := HO1.keep k105 (by intro i ho he; have he0 := he; have ho0 := ho; (try dsimp only [NoK] at he); (try simp only [Value.ownBlock, Option.some.injEq, reduceCtorEq] at ho); (try simp only [Value.ownBlock, Option.some.injEq, reduceCtorEq] at he); first | exact he.elim | exact ho.elim | omega | (have := zo_HO1 _ ho0; omega)) (by intro i _ hi _ he; have he0 := he; have hi := hi; have he := he; (try dsimp only [NoK, AllB] at hi he); (try simp only [Value.ownBlock, Option.some.injEq, reduceCtorEq] at he); all_goals first | exact hi.elim | exact hi.1.elim | exact he.elim | omega | (rcases hi with hi | hi <;> omega) | (rcases he with he | he <;> omega) | (first | (have := zo0 _ he0; omega) | (have := hob _ he0; omega)))
 replace HSr := HSr.keep k105 (by intro i _ hi he; have he0 := he; (try dsimp only [NoK, AllB] at hi he); (try simp only [Value.ownBlock, Option.some.injEq] at he); first | exact hi.elim | exact he.elim | omega | (rcases hi with hi | hi <;> omega) | (rcases he with he | he <;> omega) | (first | (have := zo0 _ he0; omega) | (have := hob _ he0; omega)))
 replace HSmf := HSmf.keep k105 (by intro i _ hi he; have he0 := he; (try dsimp only [NoK, AllB] at hi he); (try simp only [Value.ownBlock, Option.some.injEq] at he); first | exact hi.elim | exact he.elim | omega | (rcases hi with hi | hi <;> omega) | (rcases he with he | he <;> omega) | (first | (have := zo0 _ he0; omega) | (have := hob _ he0; omega)))
 replace HGv := HGv.keep k105 (by intro i _ hi he; have he0 := he; (try dsimp only [NoK, AllB] at hi he); (try simp only [Value.ownBlock, Option.some.injEq] at he); first | exact hi.elim | exact he.elim | omega | (rcases hi with hi | hi <;> omega) | (rcases he with he | he <;> omega) | (first | (have := zo0 _ he0; omega) | (have := hob _ he0; omega)))
 replace HGm := HGm.keep k105 (by intro i _ hi he; have he0 := he; (try dsimp only [NoK, AllB] at hi he); (try simp only [Value.ownBlock, Option.some.injEq] at he); first | exact hi.elim | exact he.elim | omega | (rcases hi with hi | hi <;> omega) | (rcases he with he | he <;> omega) | (first | (have := zo0 _ he0; omega) | (have := hob _ he0; omega)))
 replace HB3 := HB3.keep k105 (by intro h; have he0 := h; (try dsimp only at h); (try simp only [Value.ownBlock, Option.some.injEq] at h); first | omega | (have := zo0 _ he0; omega) | (have := hob _ he0; omega) | (have he := he0; first | (have := zo0 _ he0; omega) | (have := hob _ he0; omega)))
 obtain ⟨⟨e', rs'⟩, her⟩ : ∃ x, x = (giveM (e, rs) mv.2.1 mv.2.2.2.2.2).1 := ⟨_, rfl⟩
 rw [← her] at HG7
 obtain ⟨a7, c7, hq7, HS7, he7⟩ := HG7.mp
 obtain rfl : cs7 = [_, _] := congrArg Array.toList (Value.agg.inj hq7)
 simp only at HS7 he7
 refine fin_nilJ (n_then (r_one zd rfl ?_))
 obtain ⟨n8, hn8⟩ : ∃ n, n = w105.heap.size := ⟨_, rfl⟩
 refine l_v (zaI rfl) (l_nil (n_then (c_seq (c_seq (wp_reg zd (l_v (zmI rfl) (l_v (v_neq rfl rfl) ?_)))))))
 refine l_nil (n_then (c_cond rfl rfl (fun h48 => ?_) (fun h48 => ?_)))
 ·
  refine c_seq (wp_reg zd (l_v (zmI rfl) (l_v (zaI rfl) (l_nil (n_then (c_ret (r_then (ret1v rfl zq (zvI rfl) ?_))))))))
  have h1 : (giveM (e, rs) mv.2.1 mv.2.2.2.2.2).2 ≠ 0 := by simpa using h48
  rw [if_neg h1] at hr0; simp only [hr0]
  exact ⟨trivial, fun h => absurd h h1, E⟩
 have h1 : (giveM (e, rs) mv.2.1 mv.2.2.2.2.2).2 = 0 := by simpa using h48
 rw [if_pos h1, ← her] at hr0
 refine c_skip (n_then (c_seq (wp_any zk ?_)))
 have e106 : Ext w105 { w105 with drawn := w105.drawn + 1 } := Keep.drawn _ _
 generalize hw106 : ({ w105 with drawn := w105.drawn + 1 } : World) = w106 at e106 ⊢
 clear hw106
 have := e106.size
 refine r_cut 10 rfl zd zd zd ?_
 replace HB := HB.ext e106
 refine wp_regJW (fun k => k = b) (BcJ b _ [9] [_, ([.int .i64 e', .slice a7 rs'.length c7, .int .i64 n, .slice (some ⟨b2, 0, none⟩) ms.length c2] : List Value)]) zd zd (fun vals done hd => BcJ.start HB rfl (fun a ha => hd a (inA_lt (n := 10) rfl a ha))) ?_
 refine rj_vJ (fun done vals w hR hcl hdk hJ hdn hd => zmP rfl) (fun _ _ _ _ j => j.src (Keep.refl _) rfl) ?_
 refine rj_vJ (fun done vals w hR hcl hdk hJ hdn hd => zmP rfl) (fun _ _ _ _ j => j.src (Keep.refl _) rfl) ?_
 refine rj_vJ (fun done vals w hR hcl hdk hJ hdn hd => v_nilCheck (hd 1 rfl)) (fun _ _ _ _ j => j.src (Keep.refl _) rfl) ?_
 refine rj_vJ (fun done vals w hR hcl hdk hJ hdn hd => v_fieldAddr (off := 3) (ft := 25) zk (hd 2 rfl)) (fun _ _ _ _ j => j.src (Keep.refl _) rfl) ?_
 refine rj_vJ (fun done vals w hR hcl hdk hJ hdn hd => v_load zk (hd 3 rfl) (BcJ.ld hJ (k := 3) (v := .slice (some ⟨b2, 0, none⟩) ms.length c2) rfl (by simp))) (fun _ _ _ _ j => j.src (Keep.refl _) rfl) ?_
 refine rj_vJ (fun done vals w hR hcl hdk hJ hdn hd => zmI rfl) (fun _ _ _ _ j => j.src (Keep.refl _) rfl) ?_
 replace HB3 := HB3.ext e106
 replace HB7 := HB7.ext e106
 refine rj_vJ (fun done vals w hR hcl hdk hJ hdn hd => v_loadA zk rfl (by first | exact (HB7.keep hR (by intro h; have he0 := h; (try dsimp only at h); (try simp only [Value.ownBlock, Option.some.injEq] at h); first | omega | (have := zo0 _ he0; omega) | (have := hob _ he0; omega) | (have he := he0; first | (have := zo0 _ he0; omega) | (have := hob _ he0; omega)))).pv | exact (HB3.keep hR (by intro h; have he0 := h; (try dsimp only at h); (try simp only [Value.ownBlock, Option.some.injEq] at h); first | omega | (have := zo0 _ he0; omega) | (have := hob _ he0; omega) | (have he := he0; first | (have := zo0 _ he0; omega) | (have := hob _ he0; omega)))).pv | assumption) rfl) (fun _ _ _ _ j => j.src (Keep.refl _) rfl) ?_
 refine rj_vJ (fun done vals w hR hcl hdk hJ hdn hd => v_nilCheck (hd 0 rfl)) (fun _ _ _ _ j => j.src (Keep.refl _) rfl) ?_
 refine rj_vJ (fun done vals w hR hcl hdk hJ hdn hd => v_fieldAddr (off := 0) (ft := 24) zk (hd 7 rfl)) (fun _ _ _ _ j => j.src (Keep.refl _) rfl) ?_
 replace E := E.trans e106.keep
 replace HO1 := HO1.ext e106
 replace HSr := HSr.ext e106
 replace HSmf := HSmf.ext e106
 replace HGv := HGv.ext e106
 replace HGm := HGm.ext e106
 replace HS7 := HS7.ext e106
 refine rj_d (fun done vals w hR hcl hdk hJ hdn hd => by
   have h0 := hJ.at (n := 0) rfl hdk (fun m h => by cases h)
   try dsimp only [List.getD_cons_zero, List.getD_cons_succ] at h0
   exact to_storeA (n := 2) (hd 8 rfl) rfl (hd 6 rfl) zk rfl (one_all (by rfl)) h0 (of_decide_eq_true rfl) (fun w1 hB1 kk z => ⟨kk, hJ.step (n := 0) rfl hdk (fun m h => by cases h) rfl hB1⟩)) ?_
 refine rj_nil (fun vals w107 k107 J107 => ?_)
 rintro _ - rfl _ - rfl _ - rfl _ - rfl _ - rfl _ - rfl _ - rfl _ - rfl _ - rfl _ - -
 have := k107.size
 have HB : Blk w107 b [.int .i64 e', .slice a7 rs'.length c7, .int .i64 n, .slice (some ⟨b2, 0, none⟩) ms.length c2] _ := BcJ.fin (n := 1) J107 rfl
 refine fin_nilJ (n_then (r_cut 2 rfl zd zd zd ?_))
 refine wp_regdW (NoK) zd zd ?_
 refine rt_v (fun vals w hR hd => v_indexAddr (et := 54) (sz := 7) (k := i) zk zk rfl rfl (rfl) (hil)) ?_
 refine rt_v (fun vals w hR hd => v_fieldAddr (off := 6) (ft := 4) zk (hd 0 rfl)) ?_
 refine rt_nil (fun w108 e108 => ?_)
 replace E := E.step k107 (by intro i hi he; have he0 := he; (try dsimp only [NoK] at hi he ⊢); (try simp only [Value.ownBlock, Option.some.injEq] at he); first | exact he.elim | omega | exact he | (first | (have := zo0 _ he0; omega) | (have := hob _ he0; omega)))
 replace HO1 := HO1.keep k107 (by intro i ho he; have he0 := he; have ho0 := ho; (try dsimp only [NoK] at he); (try simp only [Value.ownBlock, Option.some.injEq, reduceCtorEq] at ho); (try simp only [Value.ownBlock, Option.some.injEq, reduceCtorEq] at he); first | exact he.elim | exact ho.elim | omega | (have := zo_HO1 _ ho0; omega)) (by intro i _ hi _ he; have he0 := he; have hi := hi; have he := he; (try dsimp only [NoK, AllB] at hi he); (try simp only [Value.ownBlock, Option.some.injEq, reduceCtorEq] at he); all_goals first | exact hi.elim | exact hi.1.elim | exact he.elim | omega | (rcases hi with hi | hi <;> omega) | (rcases he with he | he <;> omega) | (first | (have := zo0 _ he0; omega) | (have := hob _ he0; omega)))
 replace HSr := HSr.keep k107 (by intro i _ hi he; have he0 := he; (try dsimp only [NoK, AllB] at hi he); (try simp only [Value.ownBlock, Option.some.injEq] at he); first | exact hi.elim | exact he.elim | omega | (rcases hi with hi | hi <;> omega) | (rcases he with he | he <;> omega) | (first | (have := zo0 _ he0; omega) | (have := hob _ he0; omega)))
 replace HSmf := HSmf.keep k107 (by intro i _ hi he; have he0 := he; (try dsimp only [NoK, AllB] at hi he); (try simp only [Value.ownBlock, Option.some.injEq] at he); first | exact hi.elim | exact he.elim | omega | (rcases hi with hi | hi <;> omega) | (rcases he with he | he <;> omega) | (first | (have := zo0 _ he0; omega) | (have := hob _ he0; omega)))
 replace HGv := HGv.keep k107 (by intro i _ hi he; have he0 := he; (try dsimp only [NoK, AllB] at hi he); (try simp only [Value.ownBlock, Option.some.injEq] at he); first | exact hi.elim | exact he.elim | omega | (rcases hi with hi | hi <;> omega) | (rcases he with he | he <;> omega) | (first | (have := zo0 _ he0; omega) | (have := hob _ he0; omega)))
 replace HGm := HGm.keep k107 (by intro i _ hi he; have he0 := he; (try dsimp only [NoK, AllB] at hi he); (try simp only [Value.ownBlock, Option.some.injEq] at he); first | exact hi.elim | exact he.elim | omega | (rcases hi with hi | hi <;> omega) | (rcases he with he | he <;> omega) | (first | (have := zo0 _ he0; omega) | (have := hob _ he0; omega)))
 replace HB3 := HB3.keep k107 (by intro h; have he0 := h; (try dsimp only at h); (try simp only [Value.ownBlock, Option.some.injEq] at h); first | omega | (have := zo0 _ he0; omega) | (have := hob _ he0; omega) | (have he := he0; first | (have := zo0 _ he0; omega) | (have := hob _ he0; omega)))
 replace HB7 := HB7.keep k107 (by intro h; have he0 := h; (try dsimp only at h); (try simp only [Value.ownBlock, Option.some.injEq] at h); first | omega | (have := zo0 _ he0; omega) | (have := hob _ he0; omega) | (have he := he0; first | (have := zo0 _ he0; omega) | (have := hob _ he0; omega)))
 replace HS7 := HS7.keep k107 (by intro i _ hi he; have he0 := he; (try dsimp only [NoK, AllB] at hi he); (try simp only [Value.ownBlock, Option.some.injEq] at he); first | exact hi.elim | exact he.elim | omega | (rcases hi with hi | hi <;> omega) | (rcases he with he | he <;> omega) | (first | (have := zo0 _ he0; omega) | (have := hob _ he0; omega)))
 rintro _ rfl _ rfl
 have := e108.size
 refine fin_nil (n_then (r_one zd rfl ?_))
 replace HO1 := HO1.ext e108
 refine l_to (to_storeO (k := i) (off := 6) rfl (by rw [show tMa.sz = 7 from rfl]; simp [add_lit]) (by first | decide | exact (of_decide_eq_true rfl : 6 < 2)) (zvB rfl) rfl zk HO1 (x1 := (x.1, true)) hx (fun cs h => by obtain ⟨y1, d1, y2, d2, rfl, h1, h2, j1, j2, j3⟩ := tMa_cells h; exact tMa_mk h1 h2 j1 j2 j3) ?_)
 rintro w11 HO11 k11 z11
 have := k11.size
 have zo_HO11 := fun (b : Nat) h => HO11.own_lt (b := b) h
 refine l_nil (n_then (c_seq (wp_reg zd (l_v (v_assign rfl) (l_nil (n_then (c_ret (ret1v rfl zq (zvI rfl) ?_))))))))
 simp only [hr0, hxd]
 replace E := (E.trans e108.keep).step k11 (by intro i hi he; have he0 := he; (try dsimp only [NoK] at hi he ⊢); (try simp only [Value.ownBlock, Option.some.injEq] at he); first | exact he.elim | omega | exact he | (first | (have := zo0 _ he0; omega) | (have := hob _ he0; omega)))
 replace HS7 := (HS7.ext e108).keep k11 (by intro i _ hi he; have he0 := he; (try dsimp only [NoK, AllB] at hi he); (try simp only [Value.ownBlock, Option.some.injEq] at he); first | exact hi.elim | exact he.elim | omega | (rcases hi with hi | hi <;> omega) | (rcases he with he | he <;> omega) | (first | (have := zo0 _ he0; omega) | (have := hob _ he0; omega)))
 replace HB := (HB.ext e108).keep k11 (by intro h; have he0 := h; (try dsimp only at h); (try simp only [Value.ownBlock, Option.some.injEq] at h); first | omega | (have := zo0 _ he0; omega) | (have := hob _ he0; omega) | (have he := he0; first | (have := zo0 _ he0; omega) | (have := hob _ he0; omega)))
 exact ⟨trivial, fun _ => ⟨_, _, HB, he7, HS7.mono fun q _ h => by omega, HO11.mono fun q _ h => ⟨h.1, by omega⟩⟩, E⟩
end Go.Proofs.Yteehplloacefmaa
