/- A part of the proof: steps and lemmas for the walks through the given program. -/
import Derived.Test.YtogafjlbpodgjaaGreatC31
namespace Go.Proofs.YtogafjlbpodgjaaGreat
open Go.Vc
set_option linter.unusedVariables false
set_option linter.unusedSimpArgs false
set_option maxRecDepth 100000

def IsLs (l : List UInt8) (en : List IkV) : Prop := (∀ x ∈ en, mayIk x = true) ∧ en.length ≤ 65536 ∧ l = wList spI en
def resI (en : List IkV) (i : Nat) : List UInt8 := ((en.drop i).map spI).flatten
theorem resI_step {en : List IkV} {i : Nat} {x : IkV} (h : en[i]? = some x) (hm : mayIk x = true) : rdBytes 65636 (resI en i) = .ok (ikW x, resI en (i + 1)) := by
  have hi := (List.getElem?_eq_some_iff.1 h).1
  have h2 : en.drop i = x :: en.drop (i + 1) := by
    rw [List.drop_eq_getElem_cons hi]; congr 1; exact (List.getElem?_eq_some_iff.1 h).2
  rw [resI, h2, List.map_cons, List.flatten_cons, spI]
  exact rdBytes_wB' (ikW_le2 hm) zq
set_option maxHeartbeats 4000000 in
theorem refiLists_c {w : World} {F : Nat → Prop} {v : Value} {l : List UInt8} (HS1 : Bv w F v l) (hl : l.length ≤ 1000000) : CallsR Tryz.prog 45 #[v] w (fun o w' => (∃ a c xs e, o = .tuple #[.slice a xs.length c, .int .i64 e] ∧ SlV tIk w' (fun i => w.heap.size ≤ i) (.slice a xs.length c) xs ∧ ∀ en, IsLs l en → xs = en ∧ e = 0) ∧ Ext w w') := by
 obtain ⟨a0, c0, rfl⟩ := HS1.shape
 refine enter 55 Tryz.func45 rfl rfl (by simp) ?_
 refine c_seq ?_
 have E := Keep.refl (K := NoK) w
 replace HS1 := HS1.all
 refine wp_reg zd (l_v (v_assign rfl) (l_v (v_assign rfl) (l_nil (n_then (c_seq (wp_reg zd (l_v (zmS rfl) (l_v (v_build (pl := [(0, 1)]) (z := .agg #[.slice none 0 0]) (zl := [.slice none 0 0]) zk (by unfold kZero; kernel_rfl) rfl rfl (cells := [_]) rfl) ?_))))))))
 refine l_to (to_box (zvA rfl) ?_)
 rintro b22 w22 zb22 HB22 e22 z22
 have := e22.size
 try simp only [Value.cells] at HB22
 replace HS1 := HS1.ext e22
 have HRp : Rf _ b22 (fun k => k < w.heap.size) l := ⟨_, HB22, HS1⟩
 obtain ⟨m, em, hn1, hnl1, hnx1⟩ := numV_any l
 refine l_v (zaP rfl) (l_nil (n_then (c_seq (wp_reg zd (l_v (zmP rfl) (l_to (to_f1 zk (zvP rfl) (CallsR.mono (refRNumber_c HRp zo) ?_))))))))
 rintro r w29 ⟨hr29, HRp, k29⟩
 have := k29.size
 rw [hn1] at hr29
 subst hr29
 have hll := rest_le l
 replace E := (E.trans e22.keep).step k29 dj3
 have hini : ∀ en, IsLs l en → em = 0 ∧ m = en.length ∧ rest l = resI en 0 := by
  rintro en ⟨h1, h2, h3⟩
  have h4 : rdNum l = some (en.length, resI en 0) := by rw [h3, wList, resI, List.drop_zero]; exact rdNum_wNum zo _
  rcases hnx1 with ⟨z1, _, hq⟩ | ⟨_, _, _, hq⟩
  ·
   rw [h4] at hq; have h5 := Prod.mk.inj (Option.some.inj hq); exact ⟨z1, h5.1.symm, h5.2.symm⟩
  rw [h4] at hq; cases hq
 refine l_v (zmT rfl) (l_v (v_extract (t := .int _ _) rfl rfl) (l_v (v_extract (t := .int _ _) rfl rfl) (l_v (zaI rfl) (l_v (zaI rfl) (l_nil (n_then (c_seq (c_seq (wp_reg zd ?_)))))))))
 refine l_v (zmI rfl) (l_v (v_neq rfl rfl) ?_)
 refine l_v (zmB rfl) (l_g1 rfl rfl (fun hG => zmI rfl) (l_g1 rfl rfl (fun hG => v_gtr (gd hG rfl) rfl) ?_))
 refine l_v (v_or rfl rfl) ?_
 refine l_nil (n_then (c_cond rfl rfl (fun hc => ?_) (fun hc => ?_)))
 ·
  refine c_seq (wp_reg zd (l_v (v_assign rfl) (l_v (v_assign rfl) (l_nil (n_then (c_ret (r_then (ret2v rfl zq zq (zvS rfl) (zvI rfl) ?_))))))))
  refine ⟨⟨none, 0, [], 4, rfl, SlV.nil _ _ _, fun en h => ?_⟩, E⟩
  obtain ⟨h1, h2, _⟩ := hini en h
  have := h.2.1
  subst h1 h2
  simp at hc; omega
 have hc2 : em = 0 ∧ m ≤ 65536 := by simp at hc; omega
 obtain ⟨n0, hn0⟩ : ∃ n, n = w29.heap.size := ⟨_, rfl⟩
 refine c_skip (n_then (c_seq (wp_reg zd (l_v (v_assign rfl) (l_nil (n_then (c_seq (c_seq (wp_reg zd ?_)))))))))
 refine l_v (v_assign rfl) (l_nil (n_then (c_block (c_loop (τ := Nat × Option Addr × Nat × List IkV × List UInt8) [2, 3, 7, 8, 9, 10, 11, 12, 27, 28, 29, 30, 31, 32, 33, 34, 35, 36, 37, 38, 39, 40, 41, 42, 43, 44, 45, 46, 47, 48, 49, 50] (fun (i, a, c, xs, lq) => [(7, .slice a xs.length c), (8, .int .i64 i)]) (fun (i, a, c, xs, lq) W => Ext w W ∧ Keep (fun b => b = b22 ∨ n0 ≤ b) w29 W ∧ i ≤ m ∧ xs.length = i ∧ lq.length ≤ l.length ∧ (∀ en, IsLs l en → xs = en.take i ∧ lq = resI en i) ∧ Rf W b22 (fun k => k < w.heap.size) lq ∧ OwV tIk 93 W n0 (fun b => n0 ≤ b ∧ b < W.heap.size) (.slice a xs.length c) xs) (fun (i, a, c, xs, lq) => m - i) (0, none, 0, [], rest l) (by exact ⟨rfl, rfl, trivial⟩) (by exact ⟨E, Keep.refl _, Nat.zero_le _, rfl, hll, (fun en h => ⟨rfl, (hini en h).2.2⟩), HRp, OwV.nil _ _ _ _ _⟩) ?_))))
 rintro ⟨i, a, c, xs, lq⟩ w101 j ⟨E, EL1, h1, h2, h3, h4, HRp, HOx⟩
 have := EL1.size
 have zo_HOx := fun (b : Nat) h => HOx.own_lt (b := b) h
 refine c_seq (c_seq (wp_reg zd (l_v (zmI rfl) (l_v (zmI rfl) (l_v (v_conv (t := (m : Int)) (ds := .int .u64) zk zk rfl (wr_i64 zo zo)) ?_)))))
 refine l_v (v_lss rfl rfl) ?_
 refine l_nil (n_then (c_cond rfl rfl (fun hlt => ?_) (fun hlt => ?_)))
 ·
  have hlt := dtrue hlt
  obtain ⟨n5, hn5⟩ : ∃ n, n = w101.heap.size := ⟨_, rfl⟩
  have hel : ∀ en, IsLs l en → ∃ x, en[i]? = some x ∧ mayIk x = true ∧ rdBytes 65636 lq = .ok (ikW x, resI en (i + 1)) := by
   intro en h
   have hlen := (hini en h).2.1
   obtain ⟨x, hx, _⟩ := getE (l := en) (i := i) zo
   have hm := h.1 x (List.mem_of_getElem? hx)
   exact ⟨x, hx, hm, by rw [(h4 en h).2]; exact resI_step hx hm⟩
  refine c_skip (n_then (c_seq (c_block (c_seq (wp_reg zd (l_v (zmP rfl) (l_to (to_f2 zk (zvP rfl) (zvI rfl) (CallsR.mono (refRBytes_c (most := 65636) HRp (fun k h => by omega) zo zq zq zo) ?_)))))))))
  rintro r w35 ⟨hr35, k35⟩
  have := k35.size
  obtain ⟨a35, c35, er35, fr, l1, rfl, HS35, HRp, hx35⟩ := TryF_any hr35
  have hl1 : l1.length ≤ l.length ∧ fr.length ≤ 65636 := by
   rcases hx35 with ⟨_, hq⟩ | ⟨_, h, h9, _⟩
   ·
    have := rdBytes_le' (m := 65636) hq; omega
   rw [h, h9]; exact ⟨h3, by decide⟩
  have hel2 : ∀ en, IsLs l en → er35 = 0 ∧ ∃ x, en[i]? = some x ∧ mayIk x = true ∧ fr = ikW x ∧ l1 = resI en (i + 1) := by
   intro en h
   obtain ⟨x, hx, hm, hr⟩ := hel en h
   rcases hx35 with ⟨z1, hq⟩ | ⟨_, _, _, hq⟩
   ·
    rw [show rdBytes 65636 lq = _ from hq] at hr; cases hr; exact ⟨z1, x, hx, hm, rfl, rfl⟩
   rw [show rdBytes 65636 lq = _ from hq] at hr; cases hr
  refine l_v (zmT rfl) (l_v (v_extract (t := .slice _ _ _) rfl rfl) (l_v (v_extract (t := .int _ _) rfl rfl) (l_v (zaS rfl) (l_v (zaI rfl) (l_nil (n_then (c_seq (c_seq (wp_reg zd ?_)))))))))
  refine l_v (zmI rfl) (l_v (v_neq rfl rfl) ?_)
  replace E := E.step k35 dj3
  replace HOx := HOx.keep k35 (by intro i ho he; have he0 := he; have ho0 := ho; (try dsimp only [NoK] at he); (try simp only [Value.ownBlock, Option.some.injEq, reduceCtorEq] at ho); (try simp only [Value.ownBlock, Option.some.injEq, reduceCtorEq] at he); first | exact he.elim | exact ho.elim | omega | (have := zo_HOx _ ho0; omega)) (by intro i _ hi _ he; have he0 := he; have hi := hi; have he := he; (try dsimp only [NoK, AllB] at hi he); (try simp only [Value.ownBlock, Option.some.injEq, reduceCtorEq] at he); all_goals first | exact hi.elim | exact hi.1.elim | exact he.elim | omega | (rcases hi with hi | hi <;> omega) | (rcases he with he | he <;> omega))
  replace EL1 := EL1.step k35 dj3
  refine l_nil (n_then (c_cond rfl rfl (fun he => ?_) (fun he => ?_)))
  ·
   refine c_seq (wp_reg zd (l_v (v_assign rfl) (l_v (v_assign rfl) (l_nil (n_then (c_ret (r_then (r_blk (r_then ?_)))))))))
   refine r_then (r_blk (r_then (ret2v rfl zq zq (zvS rfl) (zvI rfl) ?_)))
   refine ⟨⟨none, 0, [], 4, rfl, SlV.nil _ _ _, fun en h => ?_⟩, E⟩
   have h9 := (hel2 en h).1
   subst h9
   simp at he
  refine c_skip (n_then (c_seq (wp_reg zd (l_v (zmS rfl) (l_to (to_f1 zk (zvS rfl) (CallsR.mono (refiRead_c HS35 zo) ?_)))))))
  rintro _ w42 ⟨⟨u42, x42, er42, rfl, HG42, hx42⟩, e42⟩
  have := e42.size
  obtain ⟨x1, y1, x2, y2, rfl, _⟩ := HG42.ik
  obtain ⟨n42, hn42⟩ : ∃ n, n = w42.heap.size := ⟨_, rfl⟩
  replace HG42 := HG42.mono (F' := fun b => n5 ≤ b ∧ b < n42) fun b hb h => ⟨by omega, by omega⟩
  refine l_v (zmT rfl) (l_v (v_extract (t := .agg _) rfl rfl) (l_v (v_extract (t := .int _ _) rfl rfl) (l_to (to_alloc (z := (.agg #[.slice none 0 0, .int .i64 0, .int .i64 0, .slice none 0 0])) (by unfold kZero; kernel_rfl) ?_))))
  rintro b11 w11 zb11 HB11 e11 z11
  have := e11.size
  try simp only [Value.cells] at HB11
  refine l_to (to_storeA (n := 4) rfl rfl (zvA rfl) zk rfl (by first | (simp [slice_one]; done) | (simp only [List.forall_mem_cons, List.cons_append, List.nil_append]; repeat' (first | exact rfl | apply And.intro | (intro u hu; cases hu; done)))) HB11 dj5 ?_)
  rintro w56 HB11 k56 z56
  have := k56.size
  try simp only [zS, Nat.zero_add, Nat.reduceAdd, List.drop_nil] at HB11
  refine l_v (zaI rfl) (l_nil (n_then (c_seq (c_seq (wp_reg zd (l_v (zmI rfl) (l_v (v_neq rfl rfl) ?_)))))))
  replace E := ((E.trans e42.keep).trans e11.keep).step k56 dj3
  replace HOx := ((HOx.ext e42).ext e11).keep k56 (by intro i ho he; have he0 := he; have ho0 := ho; (try dsimp only [NoK] at he); (try simp only [Value.ownBlock, Option.some.injEq, reduceCtorEq] at ho); (try simp only [Value.ownBlock, Option.some.injEq, reduceCtorEq] at he); first | exact he.elim | exact ho.elim | omega | (have := zo_HOx _ ho0; omega)) (by intro i _ hi _ he; have he0 := he; have hi := hi; have he := he; (try dsimp only [NoK, AllB] at hi he); (try simp only [Value.ownBlock, Option.some.injEq, reduceCtorEq] at he); all_goals first | exact hi.elim | exact hi.1.elim | exact he.elim | omega | (rcases hi with hi | hi <;> omega) | (rcases he with he | he <;> omega))
  replace EL1 := ((EL1.trans e42.keep).trans e11.keep).step k56 dj3
  replace HS35 := HS35.ext e42
  replace HRp := ((HRp.ext e42).ext e11).keep k56 dj7 (by intro i hi he; have hi0 := hi; have hi := hi; have he := he; (try dsimp only [NoK] at hi he); first | exact he.elim | omega | (have := hF i hi0; omega))
  replace HG42 := (HG42.ext e11).keep k56 dj1
  refine l_nil (n_then (c_cond rfl rfl (fun hf => ?_) (fun hf => ?_)))
  ·
   refine c_seq (wp_reg zd (l_v (v_assign rfl) (l_v (v_assign rfl) (l_nil (n_then (c_ret (r_then (r_blk (r_then ?_)))))))))
   refine r_then (r_blk (r_then (ret2v rfl zq zq (zvS rfl) (zvI rfl) ?_)))
   refine ⟨⟨none, 0, [], 4, rfl, SlV.nil _ _ _, fun en h => ?_⟩, E⟩
   obtain ⟨_, x, _, hm, h8, _⟩ := hel2 en h
   have h9 := (hx42 x hm h8).2
   subst h9
   simp at hf
  have HOy := HOx.mono (F' := fun b => n0 ≤ b) fun b _ h => h.1
  have zo_HOy := zo_HOx
  have zo_HOy := fun (b : Nat) h => HOy.own_lt (b := b) h
  refine c_skip (n_then (wp_reg zd (l_v (zmS rfl) (l_v (v_loadA zk rfl (by first | exact HB11.pv | assumption) rfl) ?_))))
  refine l_to (to_slice1 (t := tIk) (et := 93) (bytes := 64) zk zq (zvA rfl) (HG42.rep) ?_)
  rintro b50 w50 zb50 HO50 e50 z50
  have := e50.size
  have zo_HO50 := fun (b : Nat) h => HO50.own_lt (b := b) h
  replace HOy := HOy.ext e50
  refine l_to (to_append (et := 93) (bytes := 64) zk (zvS rfl) HOy (zvS rfl) (HO50.view.mono (F' := fun b => n5 ≤ b) (fun i _ hi => hi.elim (fun h => by omega) (fun h => by have := h.1; (try dsimp only at this); omega))) (deepF fun b hb hb2 => ⟨by omega, fun ho => by have := zo_HOx _ ho; omega⟩) (by first | omega | (simp; done) | (simp; omega)) (by simp only [maxLen]; first | omega | (simp; done) | (simp; omega)) zo ?_)
  rintro a51 n51 c51 w51 HO51 hn51 k51 h51 i51
  have := k51.size
  subst hn51
  have zo_HO51 := fun (b : Nat) h => HO51.own_lt (b := b) h
  refine l_v (zaS rfl) (l_nil (n_blk (n_then (wp_reg zd (l_v (zmI rfl) (l_v (v_add rfl rfl (by first | exact wr_i64 zo zo | rfl)) ?_))))))
  replace E := (E.trans e50.keep).step k51 (by intro i hi he; have he0 := he; (try dsimp only [NoK] at hi he ⊢); (try simp only [Value.ownBlock, Option.some.injEq] at he); first | exact he.elim | omega | exact he | (have := (HOy).own_lt he0; omega) | (have := zo_HOy _ he0; omega) | (have := (HOy).own_lt he0; rcases hi with hi | hi <;> omega) | (have := zo_HOx _ he; omega))
  replace EL1 := (EL1.trans e50.keep).step k51 (by intro i hi he; have he0 := he; (try dsimp only [NoK] at hi he ⊢); (try simp only [Value.ownBlock, Option.some.injEq] at he); first | exact he.elim | omega | exact he | (have := (HOy).own_lt he0; omega) | (have := zo_HOy _ he0; omega) | (have := (HOy).own_lt he0; rcases hi with hi | hi <;> omega) | (have := zo_HOx _ he; omega))
  replace HRp := (HRp.ext e50).keep k51 (by intro h; have h := h; (try dsimp only [NoK] at h); first | exact h | omega | (rcases h with h | h <;> omega) | (have := (HOy).own_lt h; omega) | (have := zo_HOy _ h; omega) | (have := (HOy).own_lt h; rcases hi with hi | hi <;> omega) | (have := zo_HOx _ he; omega)) (by intro i hi he; have hi0 := hi; have hi := hi; have he := he; (try dsimp only [NoK] at hi he); first | exact he.elim | omega | (have := hF i hi0; omega) | (have := (HOy).own_lt he; omega) | (have := zo_HOy _ he; omega) | (have := (HOy).own_lt he; rcases hi with hi | hi <;> omega) | (have := zo_HOx _ he; omega))
  replace HG42 := HG42.ext e50
  replace HB11 := (HB11.ext e50).keep k51 (by intro h; have he0 := h; (try dsimp only at h); (try simp only [Value.ownBlock, Option.some.injEq] at h); first | omega | (have := (HOy).own_lt he0; omega) | (have := zo_HOy _ he0; omega) | (have he := he0; have := zo_HOx _ he; omega))
  refine l_v (zaI rfl) (l_nil (n_then (⟨(i + 1, a51, c51, xs ++ [x42], l1), _, rfl, by (repeat (first | exact Off.of_over _ _ _ | refine Off.upd ?_ zq _ | refine Off.overs ?_ zq _)), ⟨by first | rfl | exact congrArg (Value.int _) zo | (simp; done), by first | rfl | exact congrArg (Value.int _) zo | (simp; done), trivial⟩, ⟨E, EL1, ?_⟩, ?_⟩)))
  ·
   refine ⟨by omega, by simp; omega, hl1.1, fun en h => ?_, HRp, HO51.mono fun b hb h => ⟨h, hb⟩⟩
   obtain ⟨_, x, hx, hm, h8, h9⟩ := hel2 en h
   exact ⟨by rw [List.take_add_one, hx, (h4 en h).1, (hx42 x hm h8).1]; simp, h9⟩
  (dsimp only; omega)
 have hi : i = m := by have := dfalse hlt; omega
 refine c_exit (x_then (x_then (x_hit (n_then (c_seq (c_seq (wp_reg zd (l_v (zmP rfl) (l_to (to_f1 zk (zvP rfl) (CallsR.mono (refLeft_c HRp) ?_)))))))))))
 rintro _ w102 ⟨rfl, e102⟩
 have := e102.size
 refine l_v (v_gtr rfl rfl) ?_
 replace E := E.trans e102.keep
 replace HRp := HRp.ext e102
 replace HOx := HOx.ext e102
 refine l_nil (n_then (c_cond rfl rfl (fun hz => ?_) (fun hz => ?_)))
 ·
  refine c_seq (wp_reg zd (l_v (v_assign rfl) (l_v (v_assign rfl) (l_nil (n_then (c_ret (r_then (ret2v rfl zq zq (zvS rfl) (zvI rfl) ?_))))))))
  refine ⟨⟨none, 0, [], 4, rfl, SlV.nil _ _ _, fun en h => ?_⟩, E⟩
  have h9 := (h4 en h).2
  have h8 : en.drop i = [] := List.drop_eq_nil_of_le (by rw [hi, (hini en h).2.1]; exact Nat.le_refl _)
  rw [h9, resI, h8] at hz
  simp at hz
 refine c_skip (n_then (c_seq (wp_reg zd (l_v (zmS rfl) (l_v (zaS rfl) (l_v (v_assign rfl) (l_nil (n_then (c_ret ?_)))))))))
 refine ret2v rfl zq zq (zvS rfl) (zvI rfl) ?_
 refine ⟨⟨a, c, xs, 0, rfl, HOx.view.mono fun b _ h => (h.elim (fun h => by omega) (fun h => by omega)), fun en h => ⟨?_, rfl⟩⟩, E⟩
 rw [(h4 en h).1, List.take_of_length_le]
 rw [hi, (hini en h).2.1]; exact Nat.le_refl _
end Go.Proofs.YtogafjlbpodgjaaGreat
