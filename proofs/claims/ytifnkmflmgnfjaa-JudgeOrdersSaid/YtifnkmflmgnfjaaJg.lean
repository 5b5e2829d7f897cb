/- A part of the proof: steps and lemmas for the walks through the given program. -/
import Derived.Test.YtifnkmflmgnfjaaJ13
import Derived.Test.YtifnkmflmgnfjaaVc47
import Derived.Test.YtifnkmflmgnfjaaJa
namespace Go.Proofs.Ytifnkmflmgnfjaa
open Go.Vc
set_option linter.unusedVariables false
set_option linter.unusedSimpArgs false
set_option maxRecDepth 100000

theorem open_c {w : World} {F : Nat → Prop} {v : Value} {x : JdV} (HG1 : AgV tJd w F v x) : CallsR Try.prog 69 #[v] w (fun o w' => o = .bool (opnJ x) ∧ Ext w w') := by
  obtain ⟨a1, c1, a2, c2, a3, c3, a4, c4, a5, c5, a6, c6, rfl, HGa, HGx, i1, i2, i3, i4⟩ := HG1.jd
  refine enter 13 Try.func69 rfl rfl (by simp) ?_
  refine c_seq ?_
  have E := Keep.refl (K := NoK) w
  replace HGa := HGa.all
  refine wp_reg zd (l_to (to_box (zvA rfl) ?_))
  rintro b1 w1 zb1 HB1 e1 z1
  have := e1.size
  try simp only [Value.cells] at HB1
  refine l_v (v_assign rfl) (l_nil (n_then (c_seq (wp_reg zd (l_v (v_fieldAddr (off := 10) (ft := 3) zk rfl) (l_v (v_load zk rfl (by first | exact HB1.pv 10 _ rfl | assumption)) ?_))))))
  refine l_v (v_lss rfl rfl) ?_
  refine l_v (zmB rfl) (l_g1 rfl rfl (fun hG => v_fieldAddr (off := 0) (ft := 77) zk rfl) ?_)
  refine l_g1 rfl rfl (fun hG => v_fieldAddr (off := 2) (ft := 28) zk (gd hG rfl)) ?_
  refine l_g1 rfl rfl (fun hG => v_loadA zk (gd hG rfl) (by first | exact (show Pv _ _ [_, _, _, _, _, _, _] from pv_sub 2 7 HB1.pv) | exact pv_at 2 HB1.pv | assumption) rfl) ?_
  replace HGa := HGa.ext e1
  refine l_g1f rfl rfl (fun hG => to_f1 zk (gd hG rfl) (Reads_c HGa)) ?_
  rintro w101 e101
  have := e101.size
  refine l_g1 rfl rfl (fun hG => v_not (gd hG rfl)) ?_
  refine l_v (v_and rfl rfl) ?_
  refine l_v (zaB rfl) (l_nil (n_then (c_ret (ret1v rfl zq (zvB rfl) ?_))))
  replace E := (E.trans e1.keep).trans e101.keep
  exact ⟨rfl, E⟩
/-- what is told of a request -/
def yJ (n : Nat) (F : Nat → Prop) (r : List JdV) (pre : List (Nat × List Value)) (x : Nat × List Value) (W : World) : Prop := n ≤ W.heap.size ∧ x.1 = pre.length ∧ ∃ jd, r[x.1]? = some jd ∧ tJd.rep W F x.2 jd
theorem AllJ_c {w : World} {n c : Nat} {a : Option Addr} : CallsR Try.prog 68 #[.slice a n c] w (fun o w' => ∃ b, w.heap.size ≤ b ∧ o = .func (.func 91) #[] #[.pointer (some ⟨b, 0, none⟩)] ∧ Blk w' b [.slice a n c] 37 ∧ Ext w w') := by
  refine enter 4 Try.func68 rfl rfl (by simp) ?_
  refine c_seq ?_
  have E := Keep.refl (K := NoK) w
  refine wp_reg zd (l_to (to_box (zvS rfl) ?_))
  rintro b1 w1 zb1 HB1 e1 z1
  have := e1.size
  try simp only [Value.cells] at HB1
  refine l_v (v_assign rfl) (l_nil (n_then (c_seq (wp_reg zd (l_v (v_makeFunc (by simp [ev]; rfl) (by simp [ev]; rfl)) ?_)))))
  refine l_v (v_assign rfl) (l_nil (n_then (c_ret (ret1v rfl zq rfl ?_))))
  replace E := E.trans e1.keep
  exact ⟨b1, by omega, rfl, HB1, E⟩
theorem AllJ_seq {w0 : World} {b : Nat} {T : TypeId} {a : Option Addr} {c : Nat} {F K : Nat → Prop} {r : List JdV} (HSr : SlV tJd w0 F (.slice a r.length c) r) (hb : Blk w0 b [.slice a r.length c] T) (hKb : ¬ K b) (hKF : ∀ i, F i → ¬ K i) :
    SeqT Try.prog 91 #[.pointer (some ⟨b, 0, none⟩)] (fun x : Nat × List Value => [.int .i64 (x.1 : Int), .agg x.2.toArray]) (yJ (w0.heap.size + 2) F r) K (fun xs => xs.length = r.length) (fun _ => True) w0 := by
 have hmx := HSr.len_max
 refine fun l J Jx W hx hz hJ hJx hY h0 => ?_
 refine CallsR.mono (R := fun _ W' => (∃ xs : List (Nat × List Value), xs.length = r.length ∧ J xs W') ∨ ∃ pre, True ∧ Jx pre W') ?_ fun _ _ h => h
 show CallsR _ _ (#[.func (.yield l) #[] #[], .pointer (some ⟨b, 0, none⟩)]) W _
 refine enter 18 Try.func91 rfl rfl (by simp) ?_
 refine c_seq (wp_reg zd (l_v (v_load zk rfl ((hb.ext hx).cell rfl)) ?_))
 refine l_v (v_len (et := 86) zk rfl) ?_
 refine l_v (v_move rfl) (l_nil (n_then (c_block (c_loop (τ := List (Nat × List Value)) [3, 4, 7, 8, 9, 10, 11, 12, 13, 14, 15, 16, 17] (fun pre => [(7, .int .i64 ((pre.length : Nat) : Int))]) (fun pre w => pre.length ≤ r.length ∧ w0.heap.size + 2 ≤ w.heap.size ∧ Keep K w0 w ∧ J pre w) (fun pre => r.length - pre.length) [] (by exact ⟨rfl, trivial⟩) (by exact ⟨Nat.zero_le _, hz, hx.keep, h0⟩) ?_))))
 rintro pre w1 j ⟨h1, hz1, k1, hj⟩
 refine c_seq (wp_reg zd (l_v (v_lss rfl rfl) ?_))
 refine l_nil (n_then (c_seq (c_cond rfl rfl (fun hlt => ?_) (fun hlt => ?_))))
 ·
  have hlt : pre.length < r.length := by have := dtrue hlt; omega
  obtain ⟨x, hx1, _⟩ := getE hlt
  obtain ⟨q, cs, rfl, hF, hql, hp, hr⟩ := HSr.el hx1
  refine c_skip (n_then (c_seq (c_block (c_seq (wp_reg zd (l_v (zmI rfl) (l_v (v_indexAddr (et := 86) (sz := 14) (k := pre.length) zk zk rfl rfl (by first | rfl | omega) (hlt)) ?_)))))))
  refine l_v (v_loadA (n := 14) zk rfl (hp.keep k1 (by rw [add_block]; exact hKF _ hF)) (tJd.len hr)) ?_
  refine l_to (to_alloc (z := (.agg #[.int .i64 0, .int .i64 0, .int .i64 0, .slice none 0 0, .slice none 0 0, .slice none 0 0, .slice none 0 0, .bool false, .int .i64 0, .int .i64 0, .int .i64 0, .int .i64 0, .slice none 0 0, .slice none 0 0])) (by unfold kZero; kernel_rfl) ?_)
  rintro b2 w2 zb2 hb2 e2 z2
  have := e2.size
  refine l_v (zaI rfl) (l_to (to_storeA (n := 14) rfl rfl (zvA rfl) zk (tJd.len hr) (tJd.one hr) hb2 dj5 ?_))
  rintro w3 hb3 k3 z3
  have := k3.size
  rw [show cs.toArray.toList = cs from rfl, setAt_all (by rw [tJd.len hr]; rfl)] at hb3
  have e3 : Ext w1 w3 := e2.step k3 (by intro i hi he; dsimp only [NoK] at he ⊢; omega)
  refine l_nil (n_then (c_seq (wp_reg zd (l_v (zmF rfl) (l_v (zmI rfl) (l_v (v_loadA (n := 14) zk rfl (hb3.pv) (tJd.len hr)) ?_))))))
  refine l_to (to_yield2 rfl (zvI rfl) (zvA rfl) (YieldAt.mono (hY pre (pre.length, cs) w3 (hJ _ _ _ (Ext.turn e3) hj) ⟨Nat.le_trans hz1 e3.size, rfl, x, hx1, tJd.keep hr (k1.trans e3.keep) (fun i _ h => hKF i h)⟩) ?_))
  rintro en w4 ⟨v, rfl, hv⟩
  refine ⟨v, rfl, ?_⟩
  obtain ⟨bb, rfl, hb1, hb2⟩ := yb hv
  refine l_v (v_not rfl) ?_
  refine l_nil (n_then (c_cond rfl rfl (fun hc => ?_) (fun hc => ?_)))
  ·
   refine c_ret (r_blk (r_then (r_then (r_blk (ret0 rfl ?_)))))
   obtain rfl : bb = false := by cases bb <;> simp_all
   exact .inr ⟨_, trivial, (hb2 rfl).1⟩
  obtain rfl : bb = true := by cases bb <;> simp_all
  obtain ⟨hj4, k4⟩ := hb1 rfl
  refine c_skip (n_blk (n_then (wp_reg zd (l_v (v_add rfl rfl (by first | exact wr_i64 zo zo | rfl)) ?_))))
  refine l_v (zmI rfl) (l_nil (n_then (⟨pre ++ [(pre.length, cs)], _, rfl, by (repeat (first | exact Off.of_over _ _ _ | refine Off.upd ?_ zq _ | refine Off.overs ?_ zq _)), ⟨by first | rfl | exact congrArg (Value.int _) zo | (simp; done) | (exact congrArg (Value.int _) (by simp)), trivial⟩, ?_, ?_⟩)))
  ·
   exact ⟨by simp; omega, Nat.le_trans hz1 (Nat.le_trans e3.size k4.size), k1.trans ((Ext.keep e3).trans k4), hj4⟩
  simp; omega
 refine c_exit (x_then (x_then (x_hit (end0 rfl ?_))))
 exact .inl ⟨pre, by have := dfalse hlt; omega, hj⟩
theorem Requests_c {w : World} {n c : Nat} {a : Option Addr} : CallsR Try.prog 47 #[.slice a n c] w (fun o w' => ∃ b, w.heap.size ≤ b ∧ o = .func (.func 66) #[] #[.pointer (some ⟨b, 0, none⟩)] ∧ Blk w' b [.slice a n c] 35 ∧ Ext w w') := by
  refine enter 4 Try.func47 rfl rfl (by simp) ?_
  refine c_seq ?_
  have E := Keep.refl (K := NoK) w
  refine wp_reg zd (l_to (to_box (zvS rfl) ?_))
  rintro b1 w1 zb1 HB1 e1 z1
  have := e1.size
  try simp only [Value.cells] at HB1
  refine l_v (v_assign rfl) (l_nil (n_then (c_seq (wp_reg zd (l_v (v_makeFunc (by simp [ev]; rfl) (by simp [ev]; rfl)) ?_)))))
  refine l_v (v_assign rfl) (l_nil (n_then (c_ret (ret1v rfl zq rfl ?_))))
  replace E := E.trans e1.keep
  exact ⟨b1, by omega, rfl, HB1, E⟩
end Go.Proofs.Ytifnkmflmgnfjaa

namespace Go.Proofs.Ytifnkmflmgnfjaa
open Go.Vc
set_option linter.unusedVariables false
set_option linter.unusedSimpArgs false
set_option maxRecDepth 100000

theorem Reqs_seq {w0 : World} {b : Nat} {al : Option Addr} {cl : Nat} {F K : Nat → Prop} {l : List EvV} (HSl : SlV tEv w0 F (.slice al l.length cl) l) (hb : Blk w0 b [.slice al l.length cl] 35) (hn : l.length ≤ 100000) (hKb : ¬ K b) (hKF : ∀ i, i < w0.heap.size → F i → ¬ K i) (hKn : ∀ i, K i → i < w0.heap.size + 2) :
    SeqT Try.prog 66 #[.pointer (some ⟨b, 0, none⟩)] (fun x : Nat × List Value => [.int .i64 (x.1 : Int), .agg x.2.toArray]) (yJ (w0.heap.size + 2) (fun i => (F i ∧ i < w0.heap.size) ∨ w0.heap.size + 2 ≤ i) (rdE l 0 []).1) K (fun xs => xs.length = (rdE l 0 []).1.length) (fun _ => True) w0 := by
 refine fun ln J Jx w hx hz hJ hJx hYo h0 => ?_
 refine CallsR.mono (R := fun _ W' => (∃ xs : List (Nat × List Value), xs.length = (rdE l 0 []).1.length ∧ J xs W') ∨ ∃ pre, True ∧ Jx pre W') ?_ fun _ _ h => h
 show CallsR _ _ (#[.func (.yield ln) #[] #[], .pointer (some ⟨b, 0, none⟩)]) w _
 obtain ⟨n0, hn0⟩ : ∃ n, n = w0.heap.size := ⟨_, rfl⟩
 replace HSl := (HSl.mono (F' := fun i => F i ∧ i < n0) fun i hi h => ⟨h, by omega⟩).ext hx
 have HB0 := hb.ext hx
 have hKF' : ∀ i, K i → ¬ (F i ∧ i < n0) := fun i hk h => hKF i zo h.1 hk
 have zb0 := hb.lt
 obtain ⟨r, hr0⟩ : ∃ r, r = (rdE l 0 []).1 := ⟨_, rfl⟩
 rw [← hn0] at hz hKn hYo zb0
 refine enterM 21 Try.func66 rfl rfl (by simp) ?_
 refine c_seq ?_
 have E := Keep.refl (K := K) w
 refine wp_reg zd (l_to (to_box rfl ?_))
 rintro b2 w2 zb2 HB2 e2 z2
 have := e2.size
 try simp only [Value.cells] at HB2
 replace HB0 := HB0.ext e2
 refine l_nil (n_then (c_seq (wp_reg zd (l_v (v_load zk rfl (by first | exact HB2.cell rfl | exact HB0.cell rfl | assumption)) ?_))))
 replace HSl := HSl.ext e2
 refine l_to (to_f1 zk (zvS rfl) (CallsR.mono (read_c HSl hn) ?_))
 rintro _ w3 ⟨rv, rfl, HSr, e3⟩
 have := e3.size
 rw [← hr0] at HSr hYo ⊢
 replace HSr := HSr.mono (F' := fun i => (F i ∧ i < n0) ∨ (w2.heap.size ≤ i ∧ i < w3.heap.size)) fun i hi h => h.imp (fun h => h) (fun h => ⟨h, hi⟩)
 obtain ⟨ar, cr, rfl⟩ := HSr.shape
 refine l_v (zmT rfl) (l_v (v_extract (t := .slice _ _ _) rfl rfl) (l_v (v_extract (t := .int _ _) rfl rfl) (l_v (zaS rfl) (l_v (zaI rfl) (l_nil (n_then (c_seq (wp_reg zd (l_v (zmS rfl) ?_)))))))))
 refine l_to (to_f1 zk (zvS rfl) (CallsR.mono (AllJ_c) ?_))
 rintro _ w4 ⟨b4, hb4, rfl, HB4, e4⟩
 have := e4.size
 have zl4 := HB4.lt
 refine l_nil (n_then (c_block ?_))
 replace E := ((E.trans e2.keep).trans e3.keep).trans e4.keep
 replace HSl := (HSl.ext e3).ext e4
 replace HB0 := (HB0.ext e3).ext e4
 replace HB2 := (HB2.ext e3).ext e4
 replace HSr := HSr.ext e4
 refine c_rangeT (N := 21) rfl (show _ = (Value.func _ _ _) from rfl) zk zq E (fun x : Nat × List Value => [.int .i64 (x.1 : Int), .agg x.2.toArray]) (fun _ => rfl) (yJ (w4.heap.size + 2) (fun i => (F i ∧ i < n0) ∨ (w2.heap.size ≤ i ∧ i < w3.heap.size)) r) (fun xs => xs.length = r.length) (fun _ => True) (K) (fun i h => ⟨fun _ => h, by have := hKn i h; omega⟩) ((AllJ_seq (K := fun i => K i ∨ i = w4.heap.size ∨ i = w4.heap.size + 1) HSr HB4 (fun h => by have := HB4.lt; rcases h with h | h; (have := hKn _ h; omega); omega) (fun i hi h => by rcases h with h | h; (rcases hi with hi | hi; exact hKF' _ h hi; (have := hKn _ h; omega)); omega))) (fun pre W => J pre W) (fun c pre W => c = .ret ∧ Jx pre W) (fun s A B t h => hJ _ _ _ (t.le zo) h) (fun c s A B t h => ⟨h.1, hJx _ _ _ (t.le zo) h.2⟩) (hJ _ _ _ (Ext.turn e4) (hJ _ _ _ (Ext.turn e3) (hJ _ _ _ (Ext.turn e2) h0))) (fun pre x e1 W => ∃ b6, Holds [(2, .pointer (some ⟨b2, 0, none⟩)), (5, .int .i64 (x.1 : Int)), (6, .pointer (some ⟨b6, 0, none⟩))] e1 ∧ Blk W b6 x.2 86 ∧ w4.heap.size + 2 ≤ b6 ∧ yJ (w4.heap.size + 2) (fun i => (F i ∧ i < n0) ∨ (w2.heap.size ≤ i ∧ i < w3.heap.size)) r pre x W) (fun pre x e1 W W' t h => by obtain ⟨b6, h1, h2, h3, h9, h4, jd, h5, h6⟩ := h; exact ⟨b6, h1, h2.keep t.keep (fun hh => by have hh := hh; (try dsimp only at hh); omega), h3, Nat.le_trans h9 t.keep.size, h4, jd, h5, tJd.keep h6 t.keep (fun i _ hi hh => by rcases hi with hi | hi <;> omega)⟩) ?_ ?_ ?_ ?_
 ·
  rintro l pre x w101 E EK hY hj
  have := EK.size
  have := E.size
  obtain ⟨hz9, hx1, jd, hjd, hr⟩ := hY
  have EL1 := Keep.refl (K := NoK) w101
  refine c_seq (wp_reg zd (l_v (zaI rfl) (l_nil (n_then (wp_reg zd (l_to (to_alloc (z := (.agg #[.int .i64 0, .int .i64 0, .int .i64 0, .slice none 0 0, .slice none 0 0, .slice none 0 0, .slice none 0 0, .bool false, .int .i64 0, .int .i64 0, .int .i64 0, .int .i64 0, .slice none 0 0, .slice none 0 0])) (by unfold kZero; kernel_rfl) ?_)))))))
  rintro b6 w6 zb6 HB6 e6 z6
  have := e6.size
  try simp only [Value.cells] at HB6
  refine l_to (to_storeA (n := 14) rfl rfl (zvA rfl) zk (tJd.len hr) (tJd.one hr) HB6 dj5 ?_)
  rintro w7 HB7 k7 z7
  have := k7.size
  rw [show x.2.toArray.toList = x.2 from rfl, setAt_all (by rw [tJd.len hr]; rfl)] at HB7
  refine l_nil (n_then ?_)
  replace HSl := ((HSl.keep EK (by intro i _ hi he; have he0 := he; (try dsimp only [NoK, AllB] at hi he); (try simp only [Value.ownBlock, Option.some.injEq] at he); first | exact hi.elim | exact he.elim | omega | (rcases hi with hi | hi <;> omega) | (rcases he with he | he <;> omega) | (first | (rcases hi with hi | hi; exact (hKF' _ he0 hi).elim; (have := hKn _ he0; omega)) | exact (hKF' _ he0 hi).elim | exact (hKb (he0 ▸ h)).elim | exact (hKb (h ▸ he0)).elim | exact hKb he0 | (have := hKn _ he0; omega)))).ext e6).keep k7 (by intro i _ hi he; have he0 := he; (try dsimp only [NoK, AllB] at hi he); (try simp only [Value.ownBlock, Option.some.injEq] at he); first | exact hi.elim | exact he.elim | omega | (rcases hi with hi | hi <;> omega) | (rcases he with he | he <;> omega) | (first | (rcases hi with hi | hi; exact (hKF' _ he0 hi).elim; (have := hKn _ he0; omega)) | exact (hKF' _ he0 hi).elim | exact (hKb (he0 ▸ h)).elim | exact (hKb (h ▸ he0)).elim | exact hKb he0 | (have := hKn _ he0; omega)))
  replace HB0 := ((HB0.keep EK (by intro h; have he0 := h; (try dsimp only at h); (try simp only [Value.ownBlock, Option.some.injEq] at h); first | omega | (have := hKn _ he0; omega) | (have := hKn _ he0; omega) | (have he := he0; first | (rcases hi with hi | hi; exact (hKF' _ he0 hi).elim; (have := hKn _ he0; omega)) | exact (hKF' _ he0 hi).elim | exact (hKb (he0 ▸ h)).elim | exact (hKb (h ▸ he0)).elim | exact hKb he0 | (have := hKn _ he0; omega)))).ext e6).keep k7 (by intro h; have he0 := h; (try dsimp only at h); (try simp only [Value.ownBlock, Option.some.injEq] at h); first | omega | (have := hKn _ he0; omega) | (have := hKn _ he0; omega) | (have he := he0; first | (rcases hi with hi | hi; exact (hKF' _ he0 hi).elim; (have := hKn _ he0; omega)) | exact (hKF' _ he0 hi).elim | exact (hKb (he0 ▸ h)).elim | exact (hKb (h ▸ he0)).elim | exact hKb he0 | (have := hKn _ he0; omega)))
  replace HB2 := ((HB2.keep EK (by intro h; have he0 := h; (try dsimp only at h); (try simp only [Value.ownBlock, Option.some.injEq] at h); first | omega | (have := hKn _ he0; omega) | (have := hKn _ he0; omega) | (have he := he0; first | (rcases hi with hi | hi; exact (hKF' _ he0 hi).elim; (have := hKn _ he0; omega)) | exact (hKF' _ he0 hi).elim | exact (hKb (he0 ▸ h)).elim | exact (hKb (h ▸ he0)).elim | exact hKb he0 | (have := hKn _ he0; omega)))).ext e6).keep k7 (by intro h; have he0 := h; (try dsimp only at h); (try simp only [Value.ownBlock, Option.some.injEq] at h); first | omega | (have := hKn _ he0; omega) | (have := hKn _ he0; omega) | (have he := he0; first | (rcases hi with hi | hi; exact (hKF' _ he0 hi).elim; (have := hKn _ he0; omega)) | exact (hKF' _ he0 hi).elim | exact (hKb (he0 ▸ h)).elim | exact (hKb (h ▸ he0)).elim | exact hKb he0 | (have := hKn _ he0; omega)))
  replace HSr := ((HSr.keep EK (by intro i _ hi he; have he0 := he; (try dsimp only [NoK, AllB] at hi he); (try simp only [Value.ownBlock, Option.some.injEq] at he); first | exact hi.elim | exact he.elim | omega | (rcases hi with hi | hi <;> omega) | (rcases he with he | he <;> omega) | (first | (rcases hi with hi | hi; exact (hKF' _ he0 hi).elim; (have := hKn _ he0; omega)) | exact (hKF' _ he0 hi).elim | exact (hKb (he0 ▸ h)).elim | exact (hKb (h ▸ he0)).elim | exact hKb he0 | (have := hKn _ he0; omega)))).ext e6).keep k7 (by intro i _ hi he; have he0 := he; (try dsimp only [NoK, AllB] at hi he); (try simp only [Value.ownBlock, Option.some.injEq] at he); first | exact hi.elim | exact he.elim | omega | (rcases hi with hi | hi <;> omega) | (rcases he with he | he <;> omega) | (first | (rcases hi with hi | hi; exact (hKF' _ he0 hi).elim; (have := hKn _ he0; omega)) | exact (hKF' _ he0 hi).elim | exact (hKb (he0 ▸ h)).elim | exact (hKb (h ▸ he0)).elim | exact hKb he0 | (have := hKn _ he0; omega)))
  replace HB4 := ((HB4.keep EK (by intro h; have he0 := h; (try dsimp only at h); (try simp only [Value.ownBlock, Option.some.injEq] at h); first | omega | (have := hKn _ he0; omega) | (have := hKn _ he0; omega) | (have he := he0; first | (rcases hi with hi | hi; exact (hKF' _ he0 hi).elim; (have := hKn _ he0; omega)) | exact (hKF' _ he0 hi).elim | exact (hKb (he0 ▸ h)).elim | exact (hKb (h ▸ he0)).elim | exact hKb he0 | (have := hKn _ he0; omega)))).ext e6).keep k7 (by intro h; have he0 := h; (try dsimp only at h); (try simp only [Value.ownBlock, Option.some.injEq] at h); first | omega | (have := hKn _ he0; omega) | (have := hKn _ he0; omega) | (have he := he0; first | (rcases hi with hi | hi; exact (hKF' _ he0 hi).elim; (have := hKn _ he0; omega)) | exact (hKF' _ he0 hi).elim | exact (hKb (he0 ▸ h)).elim | exact (hKb (h ▸ he0)).elim | exact hKb he0 | (have := hKn _ he0; omega)))
  replace E := (E.trans e6.keep).step k7 (by intro i hi he; have he0 := he; (try dsimp only [NoK] at hi he ⊢); (try simp only [Value.ownBlock, Option.some.injEq] at he); first | exact he.elim | omega | exact he | (first | (rcases hi with hi | hi; exact (hKF' _ he0 hi).elim; (have := hKn _ he0; omega)) | exact (hKF' _ he0 hi).elim | exact (hKb (he0 ▸ h)).elim | exact (hKb (h ▸ he0)).elim | exact hKb he0 | (have := hKn _ he0; omega)))
  replace EL1 := (EL1.trans e6.keep).step k7 (by intro i hi he; have he0 := he; (try dsimp only [NoK] at hi he ⊢); (try simp only [Value.ownBlock, Option.some.injEq] at he); first | exact he.elim | omega | exact he | (first | (rcases hi with hi | hi; exact (hKF' _ he0 hi).elim; (have := hKn _ he0; omega)) | exact (hKF' _ he0 hi).elim | exact (hKb (he0 ▸ h)).elim | exact (hKb (h ▸ he0)).elim | exact hKb he0 | (have := hKn _ he0; omega)))
  exact ⟨_, rfl, EL1, hJ _ _ _ (Ext.turn EL1) hj, b6, ⟨rfl, rfl, rfl, trivial⟩, HB7, by omega, Nat.le_trans hz9 EL1.size, hx1, jd, hjd, tJd.keep hr EL1 (fun _ _ _ h => h)⟩
 ·
  rintro l pre x e1 w102 E EK hj ⟨b6, hh, HB6, hb6, hz9, hx1, jd, hjd, hr⟩
  have := EK.size
  have := E.size
  replace HSl := HSl.keep EK (by intro i _ hi he; have he0 := he; (try dsimp only [NoK, AllB] at hi he); (try simp only [Value.ownBlock, Option.some.injEq] at he); first | exact hi.elim | exact he.elim | omega | (rcases hi with hi | hi <;> omega) | (rcases he with he | he <;> omega) | (first | (rcases hi with hi | hi; exact (hKF' _ he0 hi).elim; (have := hKn _ he0; omega)) | exact (hKF' _ he0 hi).elim | exact (hKb (he0 ▸ h)).elim | exact (hKb (h ▸ he0)).elim | exact hKb he0 | (have := hKn _ he0; omega)))
  replace HB0 := HB0.keep EK (by intro h; have he0 := h; (try dsimp only at h); (try simp only [Value.ownBlock, Option.some.injEq] at h); first | omega | (have := hKn _ he0; omega) | (have := hKn _ he0; omega) | (have he := he0; first | (rcases hi with hi | hi; exact (hKF' _ he0 hi).elim; (have := hKn _ he0; omega)) | exact (hKF' _ he0 hi).elim | exact (hKb (he0 ▸ h)).elim | exact (hKb (h ▸ he0)).elim | exact hKb he0 | (have := hKn _ he0; omega)))
  replace HB2 := HB2.keep EK (by intro h; have he0 := h; (try dsimp only at h); (try simp only [Value.ownBlock, Option.some.injEq] at h); first | omega | (have := hKn _ he0; omega) | (have := hKn _ he0; omega) | (have he := he0; first | (rcases hi with hi | hi; exact (hKF' _ he0 hi).elim; (have := hKn _ he0; omega)) | exact (hKF' _ he0 hi).elim | exact (hKb (he0 ▸ h)).elim | exact (hKb (h ▸ he0)).elim | exact hKb he0 | (have := hKn _ he0; omega)))
  replace HSr := HSr.keep EK (by intro i _ hi he; have he0 := he; (try dsimp only [NoK, AllB] at hi he); (try simp only [Value.ownBlock, Option.some.injEq] at he); first | exact hi.elim | exact he.elim | omega | (rcases hi with hi | hi <;> omega) | (rcases he with he | he <;> omega) | (first | (rcases hi with hi | hi; exact (hKF' _ he0 hi).elim; (have := hKn _ he0; omega)) | exact (hKF' _ he0 hi).elim | exact (hKb (he0 ▸ h)).elim | exact (hKb (h ▸ he0)).elim | exact hKb he0 | (have := hKn _ he0; omega)))
  replace HB4 := HB4.keep EK (by intro h; have he0 := h; (try dsimp only at h); (try simp only [Value.ownBlock, Option.some.injEq] at h); first | omega | (have := hKn _ he0; omega) | (have := hKn _ he0; omega) | (have he := he0; first | (rcases hi with hi | hi; exact (hKF' _ he0 hi).elim; (have := hKn _ he0; omega)) | exact (hKF' _ he0 hi).elim | exact (hKb (he0 ▸ h)).elim | exact (hKb (h ▸ he0)).elim | exact hKb he0 | (have := hKn _ he0; omega)))
  obtain ⟨jj, rfl⟩ : ∃ j, e1 = updL _ j := ⟨_, hh.upd⟩
  have EL1 := Keep.refl (K := K) w102
  refine c_block (c_seq (wp_reg zd (l_v (v_load zk rfl (HB2.cell rfl)) ?_)))
  refine l_v (zmI rfl) (l_v (v_loadA (n := 14) zk rfl HB6.pv (tJd.len hr)) ?_)
  refine l_to (to_yield2 rfl (zvI rfl) (zvA rfl) (YieldAt.mono (hYo pre x _ hj ⟨by omega, hx1, jd, hjd, tJd.mono hr fun i _ h => h.imp (fun h => h) (fun h => by omega)⟩) ?_))
  rintro en w8 ⟨v, rfl, hv⟩
  refine ⟨v, rfl, ?_⟩
  obtain ⟨bb, rfl, hb1, hb2'⟩ := yb hv
  refine l_v (v_not rfl) ?_
  refine l_nil (n_then (c_cond rfl rfl (fun hc => ?_) (fun hc => ?_)))
  ·
   obtain rfl : bb = false := by cases bb <;> simp_all
   obtain ⟨hj7, k8⟩ := hb2' rfl
   have := k8.size
   replace EL1 := EL1.step k8 (by intro i hi he; have he0 := he; (try dsimp only [NoK] at hi he ⊢); (try simp only [Value.ownBlock, Option.some.injEq] at he); first | exact he.elim | omega | exact he | (first | (rcases hi with hi | hi; exact (hKF' _ he0 hi).elim; (have := hKn _ he0; omega)) | exact (hKF' _ he0 hi).elim | exact (hKb (he0 ▸ h)).elim | exact (hKb (h ▸ he0)).elim | exact hKb he0 | (have := hKn _ he0; omega)))
   refine c_ret (r_blk (⟨EL1, ?_⟩))
   exact ⟨rfl, hj7⟩
  obtain rfl : bb = true := by cases bb <;> simp_all
  obtain ⟨hj7, k8⟩ := hb1 rfl
  have := k8.size
  replace EL1 := EL1.step k8 (by intro i hi he; have he0 := he; (try dsimp only [NoK] at hi he ⊢); (try simp only [Value.ownBlock, Option.some.injEq] at he); first | exact he.elim | omega | exact he | (first | (rcases hi with hi | hi; exact (hKF' _ he0 hi).elim; (have := hKn _ he0; omega)) | exact (hKF' _ he0 hi).elim | exact (hKb (he0 ▸ h)).elim | exact (hKb (h ▸ he0)).elim | exact hKb he0 | (have := hKn _ he0; omega)))
  refine c_skip (n_blk (⟨EL1, ?_⟩))
  replace HSl := HSl.keep k8 (by intro i _ hi he; have he0 := he; (try dsimp only [NoK, AllB] at hi he); (try simp only [Value.ownBlock, Option.some.injEq] at he); first | exact hi.elim | exact he.elim | omega | (rcases hi with hi | hi <;> omega) | (rcases he with he | he <;> omega) | (first | (rcases hi with hi | hi; exact (hKF' _ he0 hi).elim; (have := hKn _ he0; omega)) | exact (hKF' _ he0 hi).elim | exact (hKb (he0 ▸ h)).elim | exact (hKb (h ▸ he0)).elim | exact hKb he0 | (have := hKn _ he0; omega)))
  replace HB0 := HB0.keep k8 (by intro h; have he0 := h; (try dsimp only at h); (try simp only [Value.ownBlock, Option.some.injEq] at h); first | omega | (have := hKn _ he0; omega) | (have := hKn _ he0; omega) | (have he := he0; first | (rcases hi with hi | hi; exact (hKF' _ he0 hi).elim; (have := hKn _ he0; omega)) | exact (hKF' _ he0 hi).elim | exact (hKb (he0 ▸ h)).elim | exact (hKb (h ▸ he0)).elim | exact hKb he0 | (have := hKn _ he0; omega)))
  replace HB2 := HB2.keep k8 (by intro h; have he0 := h; (try dsimp only at h); (try simp only [Value.ownBlock, Option.some.injEq] at h); first | omega | (have := hKn _ he0; omega) | (have := hKn _ he0; omega) | (have he := he0; first | (rcases hi with hi | hi; exact (hKF' _ he0 hi).elim; (have := hKn _ he0; omega)) | exact (hKF' _ he0 hi).elim | exact (hKb (he0 ▸ h)).elim | exact (hKb (h ▸ he0)).elim | exact hKb he0 | (have := hKn _ he0; omega)))
  replace HSr := HSr.keep k8 (by intro i _ hi he; have he0 := he; (try dsimp only [NoK, AllB] at hi he); (try simp only [Value.ownBlock, Option.some.injEq] at he); first | exact hi.elim | exact he.elim | omega | (rcases hi with hi | hi <;> omega) | (rcases he with he | he <;> omega) | (first | (rcases hi with hi | hi; exact (hKF' _ he0 hi).elim; (have := hKn _ he0; omega)) | exact (hKF' _ he0 hi).elim | exact (hKb (he0 ▸ h)).elim | exact (hKb (h ▸ he0)).elim | exact hKb he0 | (have := hKn _ he0; omega)))
  replace HB4 := HB4.keep k8 (by intro h; have he0 := h; (try dsimp only at h); (try simp only [Value.ownBlock, Option.some.injEq] at h); first | omega | (have := hKn _ he0; omega) | (have := hKn _ he0; omega) | (have he := he0; first | (rcases hi with hi | hi; exact (hKF' _ he0 hi).elim; (have := hKn _ he0; omega)) | exact (hKF' _ he0 hi).elim | exact (hKb (he0 ▸ h)).elim | exact (hKb (h ▸ he0)).elim | exact hKb he0 | (have := hKn _ he0; omega)))
  replace E := E.step k8 (by intro i hi he; have he0 := he; (try dsimp only [NoK] at hi he ⊢); (try simp only [Value.ownBlock, Option.some.injEq] at he); first | exact he.elim | omega | exact he | (first | (rcases hi with hi | hi; exact (hKF' _ he0 hi).elim; (have := hKn _ he0; omega)) | exact (hKF' _ he0 hi).elim | exact (hKb (he0 ▸ h)).elim | exact (hKb (h ▸ he0)).elim | exact hKb he0 | (have := hKn _ he0; omega)))
  replace HB6 := HB6.keep k8 (by intro h; have he0 := h; (try dsimp only at h); (try simp only [Value.ownBlock, Option.some.injEq] at h); first | omega | (have := hKn _ he0; omega) | (have := hKn _ he0; omega) | (have he := he0; first | (rcases hi with hi | hi; exact (hKF' _ he0 hi).elim; (have := hKn _ he0; omega)) | exact (hKF' _ he0 hi).elim | exact (hKb (he0 ▸ h)).elim | exact (hKb (h ▸ he0)).elim | exact hKb he0 | (have := hKn _ he0; omega)))
  exact hj7
 ·
  rintro D xs w103 hD E EK hS hj HD
  have := EK.size
  have := E.size
  refine n_blk (end0M1 HD rfl ?_)
  have E := keep_put E (by omega : w.heap.size ≤ D) (.deferred none)
  exact .inl ⟨_, hS, hJ _ _ _ (turn_put HD zo _) hj⟩
 rintro D _ pre w104 hD E EK hpre ⟨rfl, hj⟩ HD
 have := EK.size
 have := E.size
 refine c_ret (r_blk (ret0M1 HD rfl ?_))
 have E := keep_put E (by omega : w.heap.size ≤ D) (.deferred none)
 exact .inr ⟨_, trivial, hJx _ _ _ (turn_put HD zo _) hj⟩
end Go.Proofs.Ytifnkmflmgnfjaa

namespace Go.Proofs.Ytifnkmflmgnfjaa
open Go.Vc
set_option linter.unusedVariables false
set_option linter.unusedSimpArgs false
set_option maxRecDepth 100000

theorem bit_zero (d : List Bool) (i : Nat) : decide (((bitN d / 2 ^ i % 2 : Nat) : Int) = 0) = !d.getD i false := by
  rw [bit_at]; cases d.getD i false <;> rfl
theorem bit_one (d : List Bool) (i : Nat) : decide (((bitN d / 2 ^ i % 2 : Nat) : Int) = 1) = d.getD i false := by
  rw [bit_at]; cases d.getD i false <;> rfl
theorem whole_c {w : World} {F : Nat → Prop} {v : Value} {r : List JdV} {d : List Bool} (HSr : SlV tJd w F v r) (hd : d.length = r.length) (hr : r.length ≤ 32) : CallsR Try.prog 71 #[v, .int .u64 (bitN d : Nat)] w (fun o w' => o = .bool (whlJ r d) ∧ Ext w w') := by
 obtain ⟨a, c, rfl⟩ := HSr.shape
 refine enter 25 Try.func71 rfl rfl (by simp) ?_
 refine c_seq ?_
 have E := Keep.refl (K := NoK) w
 replace HSr := HSr.all
 refine wp_reg zd (l_v (v_assign rfl) (l_nil (n_then (c_seq (c_seq (wp_reg zd (l_v (zmS rfl) (l_v (v_len (et := 86) zk rfl) ?_))))))))
 refine l_v (v_move rfl) (l_nil (n_then (c_block (c_loop (τ := Nat) [4, 5, 6, 9, 10, 11, 12, 13, 14, 15, 16, 17, 18, 19, 20, 21, 22, 23, 24] (fun i => [(9, .int .i64 i)]) (fun i W => Ext w W ∧ Keep (NoK) w W ∧ i ≤ r.length ∧ ∀ k, k < i → wbJ r d k = true) (fun i => r.length - i) 0 (by exact ⟨rfl, trivial⟩) (by exact ⟨E, Keep.refl _, Nat.zero_le _, fun k hk => by omega⟩) ?_))))
 rintro i w101 j ⟨E, EL1, h1, h2⟩
 have := EL1.size
 refine c_seq (wp_reg zd (l_v (v_lss rfl rfl) ?_))
 replace HSr := HSr.ext EL1
 refine l_nil (n_then (c_seq (c_cond rfl rfl (fun hlt => ?_) (fun hlt => ?_))))
 ·
  have hlt := dtrue hlt
  obtain ⟨x, hx, _⟩ := getE (l := r) (i := i) zo
  obtain ⟨q, cs, hqq, hF, _, HPq, hrr⟩ := HSr.el hx
  subst hqq
  obtain ⟨a1, c1, a2, c2, a3, c3, a4, c4, a5, c5, a6, c6, rfl, _⟩ := tJd_cells hrr
  refine c_skip (n_then (c_seq (c_block (c_seq (wp_reg zd (l_v (zmI rfl) (l_v (v_indexAddr (et := 86) (sz := 14) (k := i) zk zk rfl rfl (by first | rfl | omega) zo) ?_)))))))
  refine l_v (v_loadA zk rfl (by first | exact HPq | assumption) rfl) ?_
  refine l_to (to_alloc (z := (.agg #[.int .i64 0, .int .i64 0, .int .i64 0, .slice none 0 0, .slice none 0 0, .slice none 0 0, .slice none 0 0, .bool false, .int .i64 0, .int .i64 0, .int .i64 0, .int .i64 0, .slice none 0 0, .slice none 0 0])) (by unfold kZero; kernel_rfl) ?_)
  rintro b2 w2 zb2 HB2 e2 z2
  have := e2.size
  try simp only [Value.cells] at HB2
  refine l_v (zaI rfl) (l_to (to_storeA (n := 14) rfl rfl (zvA rfl) zk rfl dj6 HB2 dj5 ?_))
  rintro w102 HX102 k102 z102
  have := k102.size
  replace HB2 := HX102
  clear HX102
  try simp only [zS, Nat.zero_add, Nat.reduceAdd, List.drop_nil] at HB2
  replace HPq := (HPq.ext e2).keep k102 (by intro h; (try dsimp only at h); (try simp only [add_block] at h); first | omega)
  refine l_nil (n_then (c_seq (wp_reg zd (l_v (v_fieldAddr (off := 10) (ft := 3) zk rfl) (l_v (v_load zk rfl (by first | exact HB2.pv 10 _ rfl | exact HPq 10 _ rfl | exact pv_1 HPq | assumption)) ?_)))))
  refine l_v (v_geq rfl rfl) ?_
  refine l_v (zmB rfl) (l_g1 rfl rfl (fun hG => zmI rfl) (l_g1 rfl rfl (fun hG => zmI rfl) (l_g1 rfl rfl (fun hG => v_shr (t := ((bitN d / 2 ^ i : Nat) : Int)) (gd hG rfl) (gd hG rfl) (by first | decide | omega) (shr64 _ _ zo)) ?_)))
  refine l_g1 rfl rfl (fun hG => v_band (t := ((bitN d / 2 ^ i % 2 : Nat) : Int)) (gd hG rfl) rfl (and1_64 _)) ?_
  refine l_g1 rfl rfl (fun hG => v_eql (gd hG rfl) rfl) ?_
  refine l_v (v_and rfl rfl) ?_
  replace E := (E.trans e2.keep).step k102 dj3
  replace HSr := (HSr.ext e2).keep k102 dj1
  replace EL1 := (EL1.trans e2.keep).step k102 dj3
  refine l_nil (n_then (c_cond rfl rfl (fun hc => ?_) (fun hc => ?_)))
  ·
   rw [bit_zero] at hc
   refine c_seq (wp_reg zd (l_v (v_assign rfl) (l_nil (n_then (c_ret (r_blk (r_then (r_then (r_blk ?_)))))))))
   refine r_then (ret1v rfl zq (zvB rfl) ?_)
   exact ⟨by rw [whl_no (i := i) zo (by simp only [wbJ, hx]; rw [Bool.not_eq_false']; exact hc)], E⟩
  refine c_skip (n_blk (n_then (wp_reg zd (l_v (v_add rfl rfl (by first | exact wr_i64 zo zo | rfl)) ?_))))
  refine l_v (zmI rfl) (l_nil (n_then (⟨i + 1, _, rfl, by (repeat (first | exact Off.of_over _ _ _ | refine Off.upd ?_ zq _ | refine Off.overs ?_ zq _)), ⟨by first | rfl | exact congrArg (Value.int _) zo | (simp; done), trivial⟩, ⟨E, EL1, ?_⟩, ?_⟩)))
  ·
   refine ⟨by omega, fun k hk => ?_⟩
   rw [bit_zero] at hc
   rcases Nat.lt_or_ge k i with h | h
   ·
    exact h2 k h
   obtain rfl : k = i := by omega
   simp only [wbJ, hx]; rw [Bool.not_eq_true']; exact hc
  (dsimp only; omega)
 refine c_exit (x_then (x_then (x_hit (n_then (c_seq (wp_reg zd (l_v (v_assign rfl) (l_nil (n_then ?_)))))))))
 refine c_ret (ret1v rfl zq (zvB rfl) ?_)
 refine ⟨?_, E⟩
 congr 1; symm; exact whl_iff.2 fun k hk => h2 k (by have := dfalse hlt; omega)
theorem may_un {r : List JdV} {d : List Bool} {i : Nat} {x : JdV} (hx : r[i]? = some x) : mayJ r d i = (!(d.getD i false) && (!decide (x.2.2.1 < 0) || opnJ x) && (List.range r.length).all (fun k => !blkJ r d x.2.1 k)) := by
  unfold mayJ; rw [hx]
theorem blk_eq {r : List JdV} {d : List Bool} {k : Nat} {x : JdV} (a : Int) (hx : r[k]? = some x) : blkJ r d a k = (undJ x (d.getD k false) && decide (x.2.2.1 < a)) := by
  unfold blkJ; rw [hx]
theorem may_c {w : World} {F : Nat → Prop} {v : Value} {r : List JdV} {d : List Bool} {i : Nat} (HSr : SlV tJd w F v r) (hd : d.length = r.length) (hr : r.length ≤ 32) (hi : i < r.length) : CallsR Try.prog 73 #[v, .int .u64 (bitN d : Nat), .int .i64 i] w (fun o w' => o = .bool (mayJ r d i) ∧ Ext w w') := by
 obtain ⟨a, c, rfl⟩ := HSr.shape
 obtain ⟨x, hx, _⟩ := getE (l := r) (i := i) hi
 replace HSr := HSr.all
 obtain ⟨q, cs, hqq, hF, _, HPi, hrr⟩ := HSr.el hx
 subst hqq
 have HGi : AgV tJd _ _ _ x := ⟨cs, rfl, hrr⟩
 obtain ⟨a1, c1, a2, c2, a3, c3, a4, c4, a5, c5, a6, c6, rfl, _⟩ := tJd_cells hrr
 refine enter 58 Try.func73 rfl rfl (by simp) ?_
 refine c_seq ?_
 have E := Keep.refl (K := NoK) w
 replace HSr := HSr.all
 refine wp_reg zd (l_v (v_assign rfl) (l_nil (n_then (c_seq (c_seq (wp_reg zd (l_v (zmI rfl) (l_v (zmI rfl) (l_v (v_shr (t := ((bitN d / 2 ^ i : Nat) : Int)) rfl rfl (by first | decide | omega) (shr64 _ _ zo)) ?_)))))))))
 refine l_v (v_band (t := ((bitN d / 2 ^ i % 2 : Nat) : Int)) rfl rfl (and1_64 _)) ?_
 refine l_v (v_eql rfl rfl) ?_
 refine l_v (zmB rfl) (l_g1 rfl rfl (fun hG => zmS rfl) (l_g1 rfl rfl (fun hG => zmI rfl) (l_g1 rfl rfl (fun hG => v_indexAddr (et := 86) (sz := 14) (k := i) zk zk (gd hG rfl) (gd hG rfl) (by first | rfl | omega) zo) ?_)))
 refine l_g1 rfl rfl (fun hG => v_fieldAddr (off := 10) (ft := 3) zk (gd hG rfl)) ?_
 refine l_g1 rfl rfl (fun hG => v_load zk (gd hG rfl) (by first | exact HPi 10 _ rfl | exact pv_1 HPi | assumption)) ?_
 refine l_g1 rfl rfl (fun hG => v_lss (gd hG rfl) rfl) ?_
 refine l_g1 rfl rfl (fun hG => v_move (t := .bool _) (gd hG rfl)) ?_
 refine l_g2 rfl rfl (fun hG => zmS rfl) ?_
 refine l_g2 rfl rfl (fun hG => zmI rfl) ?_
 refine l_g2 rfl rfl (fun hG => v_indexAddr (et := 86) (sz := 14) (k := i) zk zk (gd hG rfl) (gd hG rfl) (by first | rfl | omega) zo) ?_
 refine l_g2 rfl rfl (fun hG => v_loadA zk (gd hG rfl) (by first | exact HPi | assumption) rfl) ?_
 refine l_g2f rfl rfl (fun hG => to_f1 zk (gd hG rfl) (open_c HGi)) ?_
 rintro w101 e101
 have := e101.size
 refine l_g2 rfl rfl (fun hG => v_not (gd hG rfl)) ?_
 refine l_g1 rfl rfl (fun hG => v_and (gd hG rfl) (gda hG rfl)) ?_
 refine l_v (v_or rfl rfl) ?_
 replace E := E.trans e101.keep
 replace HSr := HSr.ext e101
 replace HPi := HPi.ext e101
 replace HGi := HGi.ext e101
 refine l_nil (n_then (c_cond rfl rfl (fun hc => ?_) (fun hc => ?_)))
 ·
  rw [bit_one] at hc
  refine c_seq (wp_reg zd (l_v (v_assign rfl) (l_nil (n_then (c_ret (r_then (ret1v rfl zq (zvB rfl) ?_)))))))
  refine ⟨?_, E⟩
  rw [may_un hx]
  congr 1
  cases g1 : d.getD i false <;> cases g2 : decide (x.2.2.1 < 0) <;> cases g3 : opnJ x <;> simp_all
 rw [bit_one] at hc
 have hb : (!(d.getD i false) && (!decide (x.2.2.1 < 0) || opnJ x)) = true := by cases g1 : d.getD i false <;> cases g2 : decide (x.2.2.1 < 0) <;> cases g3 : opnJ x <;> simp_all
 refine c_skip (n_then (c_seq (c_seq (wp_reg zd (l_v (zmS rfl) (l_v (v_len (et := 86) zk rfl) ?_))))))
 refine l_v (v_move rfl) (l_nil (n_then (c_block (c_loop (τ := Nat) [6, 7, 8, 32, 33, 34, 35, 36, 37, 38, 39, 40, 41, 42, 43, 44, 45, 46, 47, 48, 49, 50, 51, 52, 53, 54, 55, 56, 57] (fun k => [(32, .int .i64 k)]) (fun k W => Ext w W ∧ Keep (NoK) w101 W ∧ k ≤ r.length ∧ ∀ t, t < k → blkJ r d x.2.1 t = false) (fun k => r.length - k) 0 (by exact ⟨rfl, trivial⟩) (by exact ⟨E, Keep.refl _, Nat.zero_le _, fun k hk => by omega⟩) ?_))))
 rintro k w102 j ⟨E, EL1, h1, h2⟩
 have := EL1.size
 refine c_seq (wp_reg zd (l_v (v_lss rfl rfl) ?_))
 replace HSr := HSr.ext EL1
 replace HPi := HPi.ext EL1
 replace HGi := HGi.ext EL1
 refine l_nil (n_then (c_seq (c_cond rfl rfl (fun hlt => ?_) (fun hlt => ?_))))
 ·
  have hlt := dtrue hlt
  obtain ⟨y, hy, _⟩ := getE (l := r) (i := k) zo
  obtain ⟨q', cs', hq', hF', _, HPk, hr'⟩ := HSr.el hy
  cases hq'
  obtain ⟨d1, e1, d2, e2, d3, e3, d4, e4, d5, e5, d6, e6, rfl, _⟩ := tJd_cells hr'
  refine c_skip (n_then (c_seq (c_block (c_seq (wp_reg zd (l_v (zmI rfl) (l_v (v_indexAddr (et := 86) (sz := 14) (k := k) zk zk rfl rfl (by first | rfl | omega) zo) ?_)))))))
  refine l_v (v_loadA zk rfl (by first | exact HPk | exact HPi | assumption) rfl) ?_
  refine l_to (to_alloc (z := (.agg #[.int .i64 0, .int .i64 0, .int .i64 0, .slice none 0 0, .slice none 0 0, .slice none 0 0, .slice none 0 0, .bool false, .int .i64 0, .int .i64 0, .int .i64 0, .int .i64 0, .slice none 0 0, .slice none 0 0])) (by unfold kZero; kernel_rfl) ?_)
  rintro b2 w2 zb2 HB2 e20 z2
  have := e20.size
  try simp only [Value.cells] at HB2
  refine l_v (zaI rfl) (l_to (to_storeA (n := 14) rfl rfl (zvA rfl) zk rfl dj6 HB2 dj5 ?_))
  rintro w103 HX103 k103 z103
  have := k103.size
  replace HB2 := HX103
  clear HX103
  try simp only [zS, Nat.zero_add, Nat.reduceAdd, List.drop_nil] at HB2
  refine l_nil (n_then (c_seq (wp_regd (NoK) zk zd zd ?_)))
  refine rt_v (fun vals w hR hd => zmI rfl) ?_
  refine rt_v (fun vals w hR hd => zmI rfl) ?_
  refine rt_v (fun vals w hR hd => v_shr (t := ((bitN d / 2 ^ k : Nat) : Int)) (hd 0 rfl) (hd 1 rfl) (by first | decide | omega) (shr64 _ _ zo)) ?_
  refine rt_v (fun vals w hR hd => v_band (t := ((bitN d / 2 ^ k % 2 : Nat) : Int)) (hd 2 rfl) rfl (and1_64 _)) ?_
  refine rt_v (fun vals w hR hd => v_eql (hd 3 rfl) rfl) ?_
  refine rt_v (fun vals w hR hd => v_move (t := .bool _) (hd 4 rfl)) ?_
  refine rt_g1 rfl (fun vals w hd => hd 5 rfl) (fun vals w hR hd hG => v_fieldAddr (off := 10) (ft := 3) zk rfl) ?_
  replace HPi := (HPi.ext e20).keep k103 (by intro h; (try dsimp only at h); (try simp only [add_block] at h); first | omega)
  replace HPk := (HPk.ext e20).keep k103 (by intro h; (try dsimp only at h); (try simp only [add_block] at h); first | omega)
  refine rt_g1 rfl (fun vals w hd => hd 5 rfl) (fun vals w hR hd hG => v_load zk (gd hG (hd 6 rfl)) (by first | exact (HB2.ext hR).pv 10 _ rfl | exact (HPk.ext hR) 10 _ rfl | exact pv_1 (HPk.ext hR) | exact (HPi.ext hR) 10 _ rfl | exact pv_1 (HPi.ext hR) | assumption)) ?_
  refine rt_g1 rfl (fun vals w hd => hd 5 rfl) (fun vals w hR hd hG => v_geq (gd hG (hd 7 rfl)) rfl) ?_
  refine rt_v (fun vals w hR hd => v_and (hd 5 rfl) (hd 8 rfl)) ?_
  refine rt_v (fun vals w hR hd => v_move (t := .bool _) (hd 9 rfl)) ?_
  refine rt_g1 rfl (fun vals w hd => hd 10 rfl) (fun vals w hR hd hG => v_fieldAddr (off := 10) (ft := 3) zk rfl) ?_
  refine rt_g1 rfl (fun vals w hd => hd 10 rfl) (fun vals w hR hd hG => v_load zk (gd hG (hd 11 rfl)) (by first | exact (HB2.ext hR).pv 10 _ rfl | exact (HPk.ext hR) 10 _ rfl | exact pv_1 (HPk.ext hR) | exact (HPi.ext hR) 10 _ rfl | exact pv_1 (HPi.ext hR) | assumption)) ?_
  refine rt_g1 rfl (fun vals w hd => hd 10 rfl) (fun vals w hR hd hG => zmS rfl) ?_
  refine rt_g1 rfl (fun vals w hd => hd 10 rfl) (fun vals w hR hd hG => zmI rfl) ?_
  refine rt_g1 rfl (fun vals w hd => hd 10 rfl) (fun vals w hR hd hG => v_indexAddr (et := 86) (sz := 14) (k := i) zk zk (gd hG (hd 13 rfl)) (gd hG (hd 14 rfl)) (by first | rfl | omega) zo) ?_
  refine rt_g1 rfl (fun vals w hd => hd 10 rfl) (fun vals w hR hd hG => v_fieldAddr (off := 9) (ft := 3) zk (gd hG (hd 15 rfl))) ?_
  refine rt_g1 rfl (fun vals w hd => hd 10 rfl) (fun vals w hR hd hG => v_load zk (gd hG (hd 16 rfl)) (by first | exact (HB2.ext hR).pv 9 _ rfl | exact (HPk.ext hR) 9 _ rfl | exact pv_1 (HPk.ext hR) | exact (HPi.ext hR) 9 _ rfl | exact pv_1 (HPi.ext hR) | assumption)) ?_
  refine rt_g1 rfl (fun vals w hd => hd 10 rfl) (fun vals w hR hd hG => v_lss (gd hG (hd 12 rfl)) (gd hG (hd 17 rfl))) ?_
  refine rt_v (fun vals w hR hd => v_and (hd 10 rfl) (hd 18 rfl)) ?_
  refine rt_nil (fun w104 e104 => ?_)
  replace HSr := (HSr.ext e20).keep k103 dj1
  replace HGi := (HGi.ext e20).keep k103 dj1
  rintro _ rfl _ rfl _ rfl _ rfl _ rfl _ rfl _ rfl _ rfl _ rfl _ rfl _ rfl _ rfl _ rfl _ rfl _ rfl _ rfl _ rfl _ rfl _ rfl _ rfl
  have := e104.size
  replace E := ((E.trans e20.keep).step k103 dj3).trans e104.keep
  replace EL1 := ((EL1.trans e20.keep).step k103 dj3).trans e104.keep
  replace HSr := HSr.ext e104
  replace HPi := HPi.ext e104
  replace HGi := HGi.ext e104
  replace HPk := HPk.ext e104
  replace HB2 := HB2.ext e104
  refine fin_nil (n_then (c_cond rfl rfl (fun h56 => ?_) (fun h56 => ?_)))
  ·
   rw [bit_zero] at h56
   refine c_seq (wp_reg zd (l_v (v_assign rfl) (l_nil (n_then (c_ret (r_blk (r_then (r_then (r_blk ?_)))))))))
   refine r_then (ret1v rfl zq (zvB rfl) ?_)
   refine ⟨?_, E⟩
   have hbl : blkJ r d x.2.1 k = true := by rw [blk_eq _ hy, undJ, Bool.and_comm (decide (0 ≤ y.2.2.1))]; exact h56
   rw [may_un hx]
   congr 1; symm
   rw [Bool.and_eq_false_iff]; right
   rw [List.all_eq_false]
   exact ⟨k, List.mem_range.2 zo, by rw [hbl]; decide⟩
  refine c_skip (n_blk (n_then (wp_reg zd (l_v (v_add rfl rfl (by first | exact wr_i64 zo zo | rfl)) ?_))))
  refine l_v (zmI rfl) (l_nil (n_then (⟨k + 1, _, rfl, by (repeat (first | exact Off.of_over _ _ _ | refine Off.upd ?_ zq _ | refine Off.overs ?_ zq _)), ⟨by first | rfl | exact congrArg (Value.int _) zo | (simp; done), trivial⟩, ⟨E, EL1, ?_⟩, ?_⟩)))
  ·
   refine ⟨by omega, fun t ht => ?_⟩
   rw [bit_zero] at h56
   rcases Nat.lt_or_ge t k with h | h
   ·
    exact h2 t h
   obtain rfl : t = k := by omega
   rw [blk_eq _ hy, undJ, Bool.and_comm (decide (0 ≤ y.2.2.1))]; exact h56
  (dsimp only; omega)
 refine c_exit (x_then (x_then (x_hit (n_then (c_seq (wp_reg zd (l_v (v_assign rfl) (l_nil (n_then ?_)))))))))
 refine c_ret (ret1v rfl zq (zvB rfl) ?_)
 refine ⟨?_, E⟩
 rw [may_un hx, hb]
 congr 1; symm
 rw [Bool.true_and, List.all_eq_true]
 intro t ht
 rw [h2 t (by have := dfalse hlt; have := List.mem_range.1 ht; omega)]; rfl
end Go.Proofs.Ytifnkmflmgnfjaa
