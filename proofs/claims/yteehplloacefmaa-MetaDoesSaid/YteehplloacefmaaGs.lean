/- A part of the proof: steps and lemmas for the walks through the given program. -/
import Derived.Test.YteehplloacefmaaR4
import Derived.Test.YteehplloacefmaaGe
namespace Go.Proofs.Yteehplloacefmaa
open Go.Vc
set_option linter.unusedVariables false
set_option linter.unusedSimpArgs false
set_option maxRecDepth 100000

/-- slices.All over ranges -/
theorem allRg_stops {w0 : World} {b : Nat} {T : TypeId} {a : Option Addr} {c : Nat} {F K : Nat → Prop} {xs : List RgV} {css : Nat → List Value} (hmx : xs.length ≤ 9223372036854775807)
    (hcss : ∀ i x, xs[i]? = some x → ∃ q, a = some q ∧ F q.block ∧ q.block < w0.heap.size ∧ Pv w0 (q.add (i * tRg.sz)) (css i) ∧ tRg.rep w0 F (css i) x) (hb : Blk w0 b [.slice a xs.length c] T) (hKb : ¬ K b) (hKF : ∀ i, F i → ¬ K i) :
    SeqStopsK Fence.wide 1 Try.prog 86 #[.pointer (some ⟨b, 0, none⟩)] (fun x : Fin xs.length => ([.int .i64 (x.val : Int), .agg (css x.val).toArray] : List Value).toArray) (Keep K) (fun ys => ys = List.finRange xs.length) (fun pre => pre <+: List.finRange xs.length) xs.length w0 := by
  refine seq_mk (encs := fun x : Fin xs.length => [.int .i64 (x.val : Int), .agg (css x.val).toArray]) fun l J Jx W hx hJ hJx hY h0 => ?_
  refine CallsR.mono (R := fun _ W' => J (List.finRange xs.length) W' ∨ ∃ pre, pre <+: List.finRange xs.length ∧ Jx pre W') ?_ fun _ _ h => h
  show CallsR _ _ (#[.func (.yield l) #[] #[], .pointer (some ⟨b, 0, none⟩)]) W _
  refine enter 18 Try.func86 rfl rfl (by simp) ?_
  refine c_seq (wp_reg zd (l_v (v_load zk rfl ((hb.ext hx).cell rfl)) ?_))
  refine l_v (v_len (et := 63) zk rfl) ?_
  refine l_v (v_move rfl) (l_nil (n_then (c_block (c_loop (τ := Nat) [3, 4, 7, 8, 9, 10, 11, 12, 13, 14, 15, 16, 17] (fun i => [(7, .int .i64 i)]) (fun i w => i ≤ xs.length ∧ Keep K w0 w ∧ J ((List.finRange xs.length).take i) w) (fun i => xs.length - i) 0 (by exact ⟨rfl, trivial⟩) (by exact ⟨Nat.zero_le _, hx.keep, by rw [List.take_zero]; exact h0⟩) ?_))))
  rintro i w1 j ⟨h1, k1, hj⟩
  refine c_seq (wp_reg zd (l_v (v_lss rfl rfl) ?_))
  refine l_nil (n_then (c_seq (c_cond rfl rfl (fun hlt => ?_) (fun hlt => ?_))))
  · skip
    have hlt : i < xs.length := by have := dtrue hlt; omega
    obtain ⟨x, hx1, _⟩ := getE hlt
    obtain ⟨q, rfl, hF, hql, hp, hr⟩ := hcss i x hx1
    obtain ⟨a1, c1, a2, c2, hcs, _, _, _⟩ := tRg_cells hr
    refine c_skip (n_then (c_seq (c_block (c_seq (wp_reg zd (l_v (zmI rfl) (l_v (v_indexAddr (et := 63) (sz := 4) (k := i) zk zk rfl rfl (by first | rfl | omega) (hlt)) ?_)))))))
    refine l_v (v_loadA (n := 4) zk rfl (hp.keep k1 (by rw [add_block]; exact hKF _ hF)) (tRg.len hr)) ?_
    refine l_to (to_alloc (z := (.agg #[.slice none 0 0, .slice none 0 0, .bool false, .int .i64 0])) (by unfold kZero; kernel_rfl) ?_)
    rintro b2 w2 zb2 hb2 e2 z2
    have zs_e2 := e2.size
    refine l_v (zaI rfl) (l_to (to_storeA (n := 4) rfl rfl (zvA rfl) zk (tRg.len hr) (tRg.one hr) hb2 dj5 ?_))
    rintro w3 hb3 k3 z3
    have zs_k3 := k3.size
    rw [show (css i).toArray.toList = css i from rfl, setAt_all (by rw [hcs]; rfl)] at hb3
    have e3 : Ext w1 w3 := e2.step k3 (by intro i hi he; dsimp only [NoK] at he ⊢; omega)
    refine l_nil (n_then (c_seq (wp_reg zd (l_v (zmF rfl) (l_v (zmI rfl) (l_v (v_loadA (n := 4) zk rfl (hb3.pv) (tRg.len hr)) ?_))))))
    refine l_to (to_yield2 rfl (zvI rfl) (zvA rfl) (YieldAt.mono (hY ((List.finRange xs.length).take i) ⟨i, hlt⟩ w3 (hJ _ _ _ e3 hj) (by simp; omega)) ?_))
    rintro en w4 ⟨v, rfl, hv⟩
    refine ⟨v, rfl, ?_⟩
    obtain ⟨bb, rfl, hb1, hb2⟩ := yb hv
    refine l_v (v_not rfl) ?_
    refine l_nil (n_then (c_cond rfl rfl (fun hc => ?_) (fun hc => ?_)))
    · skip
      refine c_ret (r_blk (r_then (r_then (r_blk (ret0 rfl ?_)))))
      obtain rfl : bb = false := by cases bb <;> simp_all
      exact .inr ⟨_, by rw [← finRange_take hlt]; exact List.take_prefix _ _, hb2 rfl⟩
    · skip
      obtain rfl : bb = true := by cases bb <;> simp_all
      obtain ⟨hj4, k4⟩ := hb1 rfl
      refine c_skip (n_blk (n_then (wp_reg zd (l_v (v_add rfl rfl (by first | exact wr_i64 zo zo | rfl)) ?_))))
      refine l_v (zmI rfl) (l_nil (n_then (⟨i + 1, _, rfl, by (repeat (first | exact Off.of_over _ _ _ | refine Off.upd ?_ zq _ | refine Off.overs ?_ zq _)), ⟨by first | rfl | exact congrArg (Value.int _) zo | (simp; done), trivial⟩, ?_, ?_⟩)))
      · exact ⟨by omega, k1.trans ((Ext.keep e3).trans k4), by rw [finRange_take hlt]; exact hj4⟩
      · dsimp only; omega
  · skip
    refine c_exit (x_then (x_then (x_hit (end0 rfl ?_))))
    exact .inl (by rw [finRange_all (by have := dfalse hlt; omega)] at hj; exact hj)
end Go.Proofs.Yteehplloacefmaa

namespace Go.Proofs.Yteehplloacefmaa
open Go.Vc
set_option linter.unusedVariables false
set_option linter.unusedSimpArgs false
set_option maxRecDepth 100000

theorem All_c {w : World} {v : Value} : CallsR Try.prog 79 #[v] w (fun o w' => ∃ b, b = w.heap.size ∧ o = .func (.func 86) #[] #[.pointer (some ⟨b, 0, none⟩)] ∧ Blk w' b v.cells.toList 22 ∧ w'.heap.size = b + 1 ∧ Ext w w') := by
  refine enter 4 Try.func79 rfl rfl (by simp) ?_
  refine c_seq (wp_reg zd (l_to (to_box rfl ?_)))
  rintro b1 w1 zb1 hb1 e1 z1
  have zs_e1 := e1.size
  refine l_v (v_assign rfl) (l_nil (n_then (c_seq (wp_reg zd (l_v (v_makeFunc (by simp [ev]; rfl) (by simp [ev]; rfl)) ?_)))))
  refine l_v (v_assign rfl) (l_nil (n_then (c_ret (ret1 rfl zq ?_))))
  exact ⟨b1, zb1, rfl, hb1, z1, e1⟩
theorem find_c {w : World} {F : Nat → Prop} {v : Value} {e : Int} {rs : List RgV} {fn : Nat} {cap : Array Value} {p : RgV → Bool} (HG1 : AgV tMp w F v (e, rs)) (hb : kBody Try.prog fn = true)
    (his : ∀ W G u r, Ext w W → AgV tRg W G u r → CallsR Try.prog fn (#[u] ++ cap) W (fun o W' => o = .bool (p r) ∧ Ext W W')) :
    CallsR Try.prog 53 #[v, .func (.func fn) #[] cap] w (fun o w' => o = .int .i64 (optI (findO (e, rs) p)) ∧ Ext w w') := by
  obtain ⟨a, c, rfl, HSr, he⟩ := HG1.mp
  simp only at HSr he
  have hmx := HSr.len_max
  refine enterM 22 Try.func53 rfl rfl (by simp) ?_
  refine c_seq ?_
  have E := Keep.refl (K := NoK) w
  replace HSr := HSr.all
  replace HG1 := HG1.all
  refine wp_reg zd (l_to (to_box (zvA rfl) ?_))
  rintro b1 w1 zb1 HB1 e1 z1
  have zs_e1 := e1.size
  replace E := E.trans (Ext.keep e1)
  replace HSr := HSr.ext e1
  replace HG1 := HG1.ext e1
  try simp only [Value.cells] at HB1
  refine l_to (to_box (show _ = (Value.func _ _ _) from rfl) ?_)
  rintro b2 w2 zb2 HB2 e2 z2
  have zs_e2 := e2.size
  replace E := E.trans (Ext.keep e2)
  replace HSr := HSr.ext e2
  replace HG1 := HG1.ext e2
  replace HB1 := HB1.ext e2
  try simp only [Value.cells] at HB2
  refine l_v (v_assign rfl) (l_nil (n_then (c_scope (c_seq (wp_reg zd (l_to (to_alloc (z := (.int .i64 0)) (by unfold kZero; kernel_rfl) ?_)))))))
  rintro b3 w3 zb3 HB3 e3 z3
  have zs_e3 := e3.size
  replace E := E.trans (Ext.keep e3)
  replace HSr := HSr.ext e3
  replace HG1 := HG1.ext e3
  replace HB1 := HB1.ext e3
  replace HB2 := HB2.ext e3
  try simp only [Value.cells] at HB3
  refine l_to (to_store rfl rfl (zvI rfl) rfl zk HB3 dj5 ?_)
  rintro w101 HX101 k101 z101
  have zs_k101 := k101.size
  replace E := E.step k101 dj3
  replace HSr := HSr.keep k101 dj1
  replace HG1 := HG1.keep k101 dj1
  replace HB1 := HB1.keep k101 dj4
  replace HB2 := HB2.keep k101 dj4
  replace HB3 := HX101
  clear HX101
  try simp only [zS, Nat.zero_add, Nat.reduceAdd, List.drop_nil] at HB3
  refine l_nil (n_then (c_seq (c_seq (wp_reg zd (l_v (v_loadA zk rfl (by first | exact HB3.pv | exact HB2.pv | exact HB1.pv | assumption) rfl) ?_)))))
  refine l_to (to_f1 zk (zvA rfl) (CallsR.mono (May_c HG1) ?_))
  rintro _ w102 ⟨rfl, e102⟩
  have zs_e102 := e102.size
  replace E := E.trans (Ext.keep e102)
  replace HSr := HSr.ext e102
  replace HG1 := HG1.ext e102
  replace HB1 := HB1.ext e102
  replace HB2 := HB2.ext e102
  replace HB3 := HB3.ext e102
  refine l_v (v_not rfl) ?_
  refine l_nil (n_then (c_cond rfl rfl (fun hc => ?_) (fun hc => ?_)))
  · skip
    refine c_seq (wp_reg zd (l_v (v_load zk rfl (by first | exact HB3.cell rfl | exact HB2.cell rfl | exact HB1.cell rfl | assumption)) ?_))
    refine l_v (zaI rfl) (l_nil (n_then (c_ret (r_then (r_scp (retM0v rfl zq (zvI rfl) ?_))))))
    have h : mayM (e, rs) = false := by simpa using hc
    exact ⟨by rw [findO, h]; rfl, E⟩
  · skip
    have hm : mayM (e, rs) = true := by simpa using hc
    refine c_skip (n_then (c_seq (c_label (n_then (c_seq (c_seq (wp_reg zd (l_v (v_fieldAddr (off := 1) (ft := 22) zk rfl) (l_v (v_load zk rfl (by first | exact HB3.pv 1 _ rfl | exact HB2.pv 1 _ rfl | exact HB1.pv 1 _ rfl | assumption)) ?_)))))))))
    refine l_to (to_f1 zk (zvS rfl) (CallsR.mono (All_c) ?_))
    rintro _ w4 ⟨b4, hb4, rfl, HB4, z4, e4⟩
    have zs_e4 := e4.size
    replace E := E.trans (Ext.keep e4)
    replace HSr := HSr.ext e4
    replace HG1 := HG1.ext e4
    replace HB1 := HB1.ext e4
    replace HB2 := HB2.ext e4
    replace HB3 := HB3.ext e4
    refine l_nil (n_then (c_block ?_))
    simp only [Value.cells] at HB4
    obtain ⟨css, hcss⟩ := HSr.pick
    refine c_rangeK (N := 22) rfl (show _ = (Value.func _ _ _) from rfl) zk zq E (fun x : Fin rs.length => [.int .i64 (x.val : Int), .agg (css x.val).toArray]) (fun _ => rfl) (fun i => i = b3) (fun i h => by have h := h; (try dsimp only at h); omega) (allRg_stops (F := fun b => b < w.heap.size) hmx hcss HB4 zo (fun i h => by omega)) (fun pre W => Blk W b3 [.int .i64 (-1)] 3 ∧ (∀ x ∈ pre, p (rs.get x) = false)) (fun c pre W => c = .exit 0 ∧ ∃ (q : List (Fin rs.length)) (x : Fin rs.length), pre = q ++ [x] ∧ (∀ y ∈ q, p (rs.get y) = false) ∧ p (rs.get x) = true ∧ Blk W b3 [.int .i64 (x.val : Int)] 3) (fun s W W' t h => ⟨h.1.turn t, h.2⟩) (fun c s W W' t h => by obtain ⟨h1, q, x, h2, h3, h4, h5⟩ := h; exact ⟨h1, q, x, h2, h3, h4, h5.turn t⟩) (⟨HB3, by simp⟩) (fun x e1 W => ∃ b7, Holds [(3, .pointer (some ⟨b2, 0, none⟩)), (5, .pointer (some ⟨b3, 0, none⟩)), (6, .int .i64 (x.val : Int)), (7, .pointer (some ⟨b7, 0, none⟩))] e1 ∧ Blk W b7 (css x.val) 63 ∧ b3 < b7) (fun x e1 W W' t h => by obtain ⟨b7, h1, h2, h3⟩ := h; exact ⟨b7, h1, h2.turn t, h3⟩) ?_ ?_ ?_ ?_
    · skip
      rintro l pre x w103 E EK ⟨HB5, hp⟩
      have zs_EK103 := EK.size
      have zs_E103 := E.size
      replace HSr := HSr.keep EK dj1
      replace HG1 := HG1.keep EK dj1
      replace HB1 := HB1.keep EK dj4
      replace HB2 := HB2.keep EK dj4
      replace HB4 := HB4.keep EK dj4
      have EL1 := Keep.refl (K := NoK) w103
      refine c_seq ?_
      obtain ⟨q, _, _, _, _, hr⟩ := hcss x.val (rs.get x) (by simp)
      obtain ⟨a1, c1, a2, c2, hcs, _, _, _⟩ := tRg_cells hr
      refine wp_reg zd (l_v (zaI rfl) (l_nil (n_then (wp_reg zd (l_to (to_alloc (z := (.agg #[.slice none 0 0, .slice none 0 0, .bool false, .int .i64 0])) (by unfold kZero; kernel_rfl) ?_))))))
      rintro b7 w7 zb7 HB7 e7 z7
      have zs_e7 := e7.size
      replace HSr := HSr.ext e7
      replace HG1 := HG1.ext e7
      replace HB1 := HB1.ext e7
      replace HB2 := HB2.ext e7
      replace HB4 := HB4.ext e7
      replace E := E.trans (Ext.keep e7)
      replace HB5 := HB5.ext e7
      replace EL1 := EL1.trans (Ext.keep e7)
      try simp only [Value.cells] at HB7
      refine l_to (to_storeA (n := 4) rfl rfl (zvA rfl) zk (tRg.len hr) (tRg.one hr) HB7 dj5 ?_)
      rintro w8 HB8 k8 z8
      have zs_k8 := k8.size
      rw [show (css x.val).toArray.toList = css x.val from rfl, setAt_all (by rw [hcs]; rfl)] at HB8
      replace HSr := HSr.keep k8 dj1
      replace HG1 := HG1.keep k8 dj1
      replace HB1 := HB1.keep k8 dj4
      replace HB2 := HB2.keep k8 dj4
      replace HB4 := HB4.keep k8 dj4
      replace E := E.step k8 dj3
      replace HB5 := HB5.keep k8 dj4
      replace EL1 := EL1.step k8 dj3
      refine l_nil (n_then ?_)
      exact ⟨_, rfl, EL1, ⟨HB5, hp⟩, b7, ⟨rfl, rfl, rfl, rfl, trivial⟩, HB8, by omega⟩
    · skip
      rintro l pre x e1 w104 E EK ⟨HB5, hp⟩ ⟨b7, hh, HB7, hb7⟩ hlen
      have zs_EK104 := EK.size
      have zs_E104 := E.size
      replace HSr := HSr.keep EK dj1
      replace HG1 := HG1.keep EK dj1
      replace HB1 := HB1.keep EK dj4
      replace HB2 := HB2.keep EK dj4
      replace HB4 := HB4.keep EK dj4
      obtain ⟨jj, rfl⟩ : ∃ j, e1 = updL _ j := ⟨_, hh.upd⟩
      obtain ⟨q, _, _, _, _, hr⟩ := hcss x.val (rs.get x) (by simp)
      have hr' := tRg.keep hr EK dj2
      have EL1 := Keep.refl (K := fun i => i = b3) w104
      refine c_block (c_seq (wp_reg zd (l_v (v_load zk rfl (by first | exact HB7.cell rfl | exact HB5.cell rfl | exact HB4.cell rfl | exact HB2.cell rfl | exact HB1.cell rfl | assumption)) ?_)))
      refine l_v (v_loadA (n := 4) zk rfl HB7.pv (tRg.len hr)) ?_
      refine l_to (to_call1 hb rfl (zvA rfl) (CallsR.mono (his _ _ _ _ E ⟨_, rfl, hr'⟩) ?_))
      rintro _ w9 ⟨rfl, e9⟩
      have zs_e9 := e9.size
      replace HSr := HSr.ext e9
      replace HG1 := HG1.ext e9
      replace HB1 := HB1.ext e9
      replace HB2 := HB2.ext e9
      replace HB4 := HB4.ext e9
      replace E := E.trans (Ext.keep e9)
      replace HB5 := HB5.ext e9
      replace HB7 := HB7.ext e9
      replace EL1 := EL1.trans (Ext.keep e9)
      refine l_nil (n_then (c_cond rfl rfl (fun hq => ?_) (fun hq => ?_)))
      · skip
        refine c_seq (wp_reg zd (l_v (zmI rfl) (l_to (to_store rfl rfl (zvI rfl) rfl zk HB5 (by simp) ?_))))
        rintro w10 HB10 k10 z10
        have zs_k10 := k10.size
        replace HSr := HSr.keep k10 dj1
        replace HG1 := HG1.keep k10 dj1
        replace HB1 := HB1.keep k10 dj4
        replace HB2 := HB2.keep k10 dj4
        replace HB4 := HB4.keep k10 dj4
        replace E := E.step k10 dj3
        replace HB7 := HB7.keep k10 dj4
        replace EL1 := EL1.step k10 dj3
        refine l_nil (n_then (c_exit (x_miss zq (⟨EL1, ?_⟩))))
        exact ⟨rfl, pre, x, rfl, hp, hq, HB10⟩
      · skip
        refine c_skip (n_blk (⟨EL1, ?_⟩))
        exact ⟨HB5, fun y hy => by rcases List.mem_append.1 hy with h | h; exact hp y h; (simp at h; subst h; exact hq)⟩
    · skip
      rintro D w105 hD E EK ⟨HB5, hp⟩ HD
      have zs_EK105 := EK.size
      have zs_E105 := E.size
      replace HSr := HSr.keep EK dj1
      replace HG1 := HG1.keep EK dj1
      replace HB1 := HB1.keep EK dj4
      replace HB2 := HB2.keep EK dj4
      replace HB4 := HB4.keep EK dj4
      refine n_blk (n_then (c_seq (wp_reg zd (l_v (v_load zk rfl (by first | exact HB5.cell rfl | exact HB4.cell rfl | exact HB2.cell rfl | exact HB1.cell rfl | assumption)) ?_))))
      refine l_v (zaI rfl) (l_nil (n_then (c_ret (r_scp (retM1v HD rfl zq (zvI rfl) ?_)))))
      have E := keep_put E (by omega : w.heap.size ≤ D) (.deferred none)
      exact ⟨by rw [findO, if_pos hm, find_none hp]; rfl, E⟩
    · skip
      rintro D _ pre w106 hD E EK hpre ⟨rfl, q, x, rfl, hq2, hq3, HB5⟩ HD
      have zs_EK106 := EK.size
      have zs_E106 := E.size
      replace HSr := HSr.keep EK dj1
      replace HG1 := HG1.keep EK dj1
      replace HB1 := HB1.keep EK dj4
      replace HB2 := HB2.keep EK dj4
      replace HB4 := HB4.keep EK dj4
      refine c_exit (x_hit (n_then (c_seq (wp_reg zd (l_v (v_load zk rfl (by first | exact HB5.cell rfl | exact HB4.cell rfl | exact HB2.cell rfl | exact HB1.cell rfl | assumption)) ?_)))))
      refine l_v (zaI rfl) (l_nil (n_then (c_ret (r_scp (retM1v HD rfl zq (zvI rfl) ?_)))))
      have E := keep_put E (by omega : w.heap.size ≤ D) (.deferred none)
      exact ⟨by rw [findO, if_pos hm, find_some hpre hq2 hq3]; rfl, E⟩
end Go.Proofs.Yteehplloacefmaa

namespace Go.Proofs.Yteehplloacefmaa
open Go.Vc
set_option linter.unusedVariables false
set_option linter.unusedSimpArgs false
set_option maxRecDepth 100000

theorem Grow_c {w : World} {n : Nat} (hn : n ≤ 1000000) : CallsR Try.prog 81 #[.slice none 0 0, .int .i64 n] w (fun o w' => OwV tRg 63 w' w.heap.size NoK o [] ∧ Ext w w') := by
  refine enter 27 Try.func81 rfl rfl (by simp) ?_
  refine c_seq ?_
  have E := Keep.refl (K := NoK) w
  refine wp_reg zd (l_v (v_assign rfl) (l_nil (n_then (c_seq (c_seq (wp_reg zd (l_v (zmI rfl) (l_v (v_lss rfl rfl) ?_))))))))
  refine l_nil (n_then (c_cond rfl rfl (fun hc => ?_) (fun hc => ?_)))
  · skip
    have := dtrue hc; omega
  · skip
    refine c_skip (n_then (c_seq (c_seq (wp_reg zd (l_v (zmI rfl) (l_v (zmS rfl) (l_v (v_cap (et := 63) zk rfl) ?_)))))))
    refine l_v (zmS rfl) (l_v (v_len (et := 63) zk rfl) ?_)
    refine l_v (v_sub rfl rfl (by first | exact wr_i64 zo zo | rfl)) ?_
    refine l_v (v_sub rfl rfl (by first | exact wr_i64 zo zo | rfl)) ?_
    refine l_v (zaI rfl) (l_nil (n_then (c_seq (wp_reg zd (l_v (zmI rfl) (l_v (v_gtr rfl rfl) ?_))))))
    refine l_nil (n_then (c_cond rfl rfl (fun hp => ?_) (fun hp => ?_)))
    · skip
      have hp0 : 0 < n := by have := dtrue hp; omega
      refine wp_reg zd (l_v (zmS rfl) (l_v (zmS rfl) (l_v (v_cap (et := 63) zk rfl) ?_)))
      refine l_v (v_slicePre (et := 63) (sz := 4) (h := 0) zk zk rfl rfl (by first | rfl | omega) zo) ?_
      refine l_v (zmI rfl) (l_to (to_appendZ (t := tRg) (k := n) (kn := .i64) (et := 63) (bytes := 64) zk zk rfl (show _ = Value.int .i64 (n : Int) from congrArg (Value.int _) (by simp)) (hp0) zo (by simp only [maxLen]; omega) ?_))
      rintro b5 c5 w5 zb5 HO5 e5 z5
      have zs_e5 := e5.size
      replace E := E.trans (Ext.keep e5)
      have zo_HO5 := fun (b : Nat) h => HO5.own_lt (b := b) h
      refine l_v (zmS rfl) (l_v (v_len (et := 63) zk rfl) ?_)
      refine l_v (v_slicePre (et := 63) (sz := 4) (h := 0) zk zk rfl rfl (by first | rfl | omega) zo) ?_
      refine l_v (zaS rfl) (l_nil (n_then (c_seq (wp_reg zd (l_v (zmS rfl) (l_v (zaS rfl) (l_nil (n_then (c_ret ?_)))))))))
      refine ret1v rfl zq (zvS rfl) ?_
      exact ⟨HO5.base zo, E⟩
    · skip
      refine c_skip (n_then (c_seq (wp_reg zd (l_v (zmS rfl) (l_v (zaS rfl) (l_nil (n_then (c_ret (ret1v rfl zq (zvS rfl) ?_)))))))))
      exact ⟨OwV.nil _ _ _ _ _, E⟩
theorem Concat_c {w : World} {F : Nat → Prop} {v : Value} {ls : List (List RgV)} (HS1 : SlV (tSl tRg) w F v ls) (hn : ls.length ≤ 1000) (hl : ls.flatten.length ≤ 1000000) : CallsR Try.prog 62 #[v] w (fun o w' => SlV tRg w' (fun b => b < w'.heap.size) o ls.flatten ∧ Ext w w') := by
  obtain ⟨a1, c1, rfl⟩ := HS1.shape
  have hpre : ∀ i, (ls.take i).flatten.length ≤ ls.flatten.length := fun i => by
    have : ls.flatten = (ls.take i).flatten ++ (ls.drop i).flatten := by rw [← List.flatten_append, List.take_append_drop]
    rw [this, List.length_append]; omega
  have hstep : ∀ i x, ls[i]? = some x → (ls.take (i + 1)).flatten = (ls.take i).flatten ++ x := fun i x hx => by rw [List.take_add_one, hx]; simp
  refine enter 36 Try.func62 rfl rfl (by simp) ?_
  refine c_seq ?_
  have E := Keep.refl (K := NoK) w
  replace HS1 := HS1.all
  refine wp_reg zd (l_v (v_assign rfl) (l_nil (n_then (c_seq (wp_reg zd (l_v (v_assign rfl) (l_nil (n_then (c_seq ?_)))))))))
  refine c_seq (wp_reg zd (l_v (zmS rfl) (l_v (v_len (et := 22) zk rfl) ?_)))
  refine l_v (v_move rfl) (l_nil (n_then (c_block (c_loop (τ := Nat) [3, 5, 11, 12, 13, 14, 15, 16, 17, 18, 19, 20, 21, 22] (fun i => [(3, .int .i64 ((ls.take i).flatten.length : Nat)), (11, .int .i64 i)]) (fun i W => Ext w W ∧ Keep (NoK) w W ∧ i ≤ ls.length) (fun i => ls.length - i) 0 (by exact ⟨rfl, rfl, trivial⟩) (by exact ⟨E, Keep.refl _, Nat.zero_le _⟩) ?_))))
  rintro i w101 j ⟨E, EL1, h1⟩
  have zs_EL1 := EL1.size
  replace HS1 := HS1.ext EL1
  refine c_seq (wp_reg zd (l_v (v_lss rfl rfl) ?_))
  refine l_nil (n_then (c_seq (c_cond rfl rfl (fun hlt => ?_) (fun hlt => ?_))))
  · skip
    have hlt := dtrue hlt
    obtain ⟨x, hx, _⟩ := getE (l := ls) (i := i) zo
    have hs := congrArg List.length (hstep i x hx)
    rw [List.length_append] at hs
    have hp1 := hpre (i + 1)
    refine c_skip (n_then (c_seq (c_block (c_seq (wp_reg zd (l_to (to_index (et := 22) zk zk (zvS rfl) HS1 (zvI rfl) rfl hx ?_)))))))
    rintro q cs hF HPq hr
    obtain ⟨u, rfl, HSu⟩ := hr
    obtain ⟨a2, c2, rfl⟩ := HSu.shape
    refine l_v (v_load zk rfl (by first | exact pv_1 HPq | assumption)) ?_
    refine l_v (zaS rfl) (l_nil (n_then (c_seq (wp_reg zd (l_v (zmI rfl) (l_v (zmS rfl) (l_v (v_len (et := 63) zk rfl) ?_)))))))
    refine l_v (v_add rfl rfl (by first | exact wr_i64 zo zo | rfl)) ?_
    refine l_v (zaI rfl) (l_nil (n_then (c_seq (wp_reg zd (l_v (zmI rfl) (l_v (v_lss rfl rfl) ?_))))))
    refine l_nil (n_then (c_cond rfl rfl (fun hneg => ?_) (fun hneg => ?_)))
    · skip
      have := dtrue hneg; omega
    · skip
      refine c_skip (n_blk (n_then (wp_reg zd (l_v (v_add rfl rfl (by first | exact wr_i64 zo zo | rfl)) ?_))))
      refine l_v (zmI rfl) (l_nil (n_then (⟨i + 1, _, rfl, by (repeat (first | exact Off.of_over _ _ _ | refine Off.upd ?_ zq _ | refine Off.overs ?_ zq _)), ⟨by first | rfl | exact congrArg (Value.int _) zo | (simp; done), by first | rfl | exact congrArg (Value.int _) zo | (simp; done), trivial⟩, ⟨E, EL1, ?_⟩, ?_⟩)))
      · skip
        omega
      · (dsimp only; omega)
  · skip
    refine c_exit (x_then (x_then (x_hit (n_then (c_seq (wp_reg zd (l_v (zmI rfl) (l_to (to_f2 zk (zvS rfl) (zvI rfl) (CallsR.mono (Grow_c (by have := hpre i; omega)) ?_))))))))))
    rintro v6 w6 ⟨HO6, e6⟩
    have zs_e6 := e6.size
    replace E := E.trans (Ext.keep e6)
    replace HS1 := HS1.ext e6
    have zo_HO6 := fun (b : Nat) h => HO6.own_lt (b := b) h
    obtain ⟨a6, c6, rfl⟩ := HO6.shape
    refine l_v (zaS rfl) (l_nil (n_then (c_seq (c_seq (wp_reg zd (l_v (zmS rfl) (l_v (v_len (et := 22) zk rfl) ?_)))))))
    refine l_v (v_move rfl) (l_nil (n_then (c_block (c_loop (τ := Nat × Value) [6, 8, 27, 28, 29, 30, 31, 32, 33, 34] (fun (i, v) => [(6, v), (27, .int .i64 i)]) (fun (i, v) W => Ext w W ∧ Keep (fun b => w.heap.size ≤ b) w6 W ∧ i ≤ ls.length ∧ OwV tRg 63 W w.heap.size (fun b => b < w.heap.size) v (ls.take i).flatten) (fun (i, v) => ls.length - i) (0, _) (by exact ⟨rfl, rfl, trivial⟩) (by exact ⟨E, Keep.refl _, Nat.zero_le _, (HO6.base zo).mono (fun _ _ h => h.elim)⟩) ?_))))
    rintro ⟨i, v⟩ w102 j ⟨E, EL2, h3, HOv⟩
    have zs_EL2 := EL2.size
    replace HS1 := HS1.keep EL2 dj1
    have zo_HOv := fun (b : Nat) h => HOv.own_lt (b := b) h
    refine c_seq (wp_reg zd (l_v (v_lss rfl rfl) ?_))
    refine l_nil (n_then (c_seq (c_cond rfl rfl (fun hlt2 => ?_) (fun hlt2 => ?_))))
    · skip
      have hlt2 := dtrue hlt2
      obtain ⟨x, hx, _⟩ := getE (l := ls) (i := i) zo
      have hs := congrArg List.length (hstep i x hx)
      rw [List.length_append] at hs
      have hp1 := hpre (i + 1)
      refine c_skip (n_then (c_seq (c_block (c_seq (wp_reg zd (l_to (to_index (et := 22) zk zk (zvS rfl) HS1 (zvI rfl) rfl hx ?_)))))))
      rintro q cs hF HPq hr
      obtain ⟨u, rfl, HSu⟩ := hr
      obtain ⟨a2, c2, rfl⟩ := HSu.shape
      obtain ⟨a3, c3, rfl⟩ := HOv.shape
      refine l_v (v_load zk rfl (by first | exact pv_1 HPq | assumption)) ?_
      refine l_v (zaS rfl) (l_nil (n_then (wp_reg zd (l_v (zmS rfl) (l_v (zmS rfl) (l_to (to_append (et := 63) (bytes := 64) zk (zvS rfl) HOv (zvS rfl) HSu (deepF fun b _ hb => ⟨hb, fun ho => by have := HOv.own_lt ho; omega⟩) (by first | omega | (simp; done) | (simp; omega)) (by simp only [maxLen]; first | omega | (simp; done) | (simp; omega)) zo ?_)))))))
      rintro a9 n9 c9 w9 HO9 hn9 k9 h9 i9
      have zs_k9 := k9.size
      replace E := E.step k9 (by intro i hi he; have he0 := he; (try dsimp only [NoK] at hi he ⊢); (try simp only [Value.ownBlock, Option.some.injEq] at he); first | exact he.elim | omega | exact he | (have := (HOv).own_lt he0; omega) | (have := zo_HOv _ he0; omega) | (have := (HOv).own_lt he0; rcases hi with hi | hi <;> omega))
      replace HS1 := HS1.keep k9 (by intro i _ hi he; have he0 := he; (try dsimp only [NoK, AllB] at hi he); (try simp only [Value.ownBlock, Option.some.injEq] at he); first | exact hi.elim | exact he.elim | omega | (rcases hi with hi | hi <;> omega) | (rcases he with he | he <;> omega) | (have := (HOv).own_lt he0; omega) | (have := zo_HOv _ he0; omega) | (have := (HOv).own_lt he0; rcases hi with hi | hi <;> omega))
      replace EL2 := EL2.step k9 (by intro i hi he; have he0 := he; (try dsimp only [NoK] at hi he ⊢); (try simp only [Value.ownBlock, Option.some.injEq] at he); first | exact he.elim | omega | exact he | (have := (HOv).own_lt he0; omega) | (have := zo_HOv _ he0; omega) | (have := (HOv).own_lt he0; rcases hi with hi | hi <;> omega))
      replace HPq := HPq.keep k9 (by intro h; have he0 := h; (try dsimp only at h); (try simp only [Value.ownBlock, Option.some.injEq] at h); (try simp only [add_block] at h); (try simp only [add_block] at he0); first | omega | (have := (HOv).own_lt he0; omega) | (have := zo_HOv _ he0; omega))
      replace HSu := HSu.keep k9 (by intro i _ hi he; have he0 := he; (try dsimp only [NoK, AllB] at hi he); (try simp only [Value.ownBlock, Option.some.injEq] at he); first | exact hi.elim | exact he.elim | omega | (rcases hi with hi | hi <;> omega) | (rcases he with he | he <;> omega) | (have := (HOv).own_lt he0; omega) | (have := zo_HOv _ he0; omega) | (have := (HOv).own_lt he0; rcases hi with hi | hi <;> omega))
      have zo_HO9 := fun (b : Nat) h => HO9.own_lt (b := b) h
      refine l_v (zaS rfl) (l_nil (n_blk (n_then (wp_reg zd (l_v (v_add rfl rfl (by first | exact wr_i64 zo zo | rfl)) ?_)))))
      refine l_v (zmI rfl) (l_nil (n_then (⟨(i + 1, .slice a9 n9 c9), _, rfl, by (repeat (first | exact Off.of_over _ _ _ | refine Off.upd ?_ zq _ | refine Off.overs ?_ zq _)), ⟨by first | rfl | exact congrArg (Value.int _) zo | (simp; done), by first | rfl | exact congrArg (Value.int _) zo | (simp; done), trivial⟩, ⟨E, EL2, ?_⟩, ?_⟩)))
      · skip
        exact ⟨by omega, by rw [hstep i x hx]; exact HO9⟩
      · (dsimp only; omega)
    · skip
      obtain ⟨a4, c4, rfl⟩ := HOv.shape
      refine c_exit (x_then (x_then (x_hit (n_then (c_seq (wp_reg zd (l_v (zmS rfl) (l_v (zaS rfl) (l_nil ?_)))))))))
      refine n_then (c_ret (ret1v rfl zq (zvS rfl) ?_))
      have h := dfalse hlt2
      have e1 : ls.take i = ls := List.take_of_length_le zo
      rw [e1] at HOv ⊢
      exact ⟨HOv.view.all, E⟩
theorem CloneS_c {w : World} {F : Nat → Prop} {v : Value} {l : List RgV} (HS1 : SlV tRg w F v l) (hn : l.length ≤ 1000000) : CallsR Try.prog 82 #[v] w (fun o w' => OwV tRg 63 w' w.heap.size (fun b => b < w.heap.size) o l ∧ Ext w w') := by
  obtain ⟨a1, c1, rfl⟩ := HS1.shape
  refine enter 8 Try.func82 rfl rfl (by simp) ?_
  refine c_seq ?_
  have E := Keep.refl (K := NoK) w
  replace HS1 := HS1.all
  refine wp_reg zd (l_v (v_assign rfl) (l_nil (n_then (c_seq (c_seq (wp_reg zd (l_v (zmS rfl) (l_v (v_sleneq (et := 63) zk rfl rfl) ?_))))))))
  refine l_nil (n_then (c_cond rfl rfl (fun hc => ?_) (fun hc => ?_)))
  · skip
    refine c_seq (wp_reg zd (l_v (v_assign rfl) (l_nil (n_then (c_ret (r_then (ret1v rfl zq (zvS rfl) ?_)))))))
    have hn : a1 = none := by simpa using hc
    subst hn
    obtain ⟨a, c, hv, _, _, h3, _⟩ := HS1
    cases hv
    have : l = [] := List.eq_nil_of_length_eq_zero (by have := h3 rfl; omega)
    subst this
    exact ⟨OwV.nil _ _ _ _ _, E⟩
  · skip
    refine c_skip (n_then (c_seq (wp_reg zd (l_to (to_slice0 (t := tRg) (et := 63) (bytes := 64) zk ?_)))))
    rintro b2 w2 zb2 HO2 e2 z2
    have zs_e2 := e2.size
    replace E := E.trans (Ext.keep e2)
    replace HS1 := HS1.ext e2
    have zo_HO2 := fun (b : Nat) h => HO2.own_lt (b := b) h
    refine l_v (zmS rfl) (l_to (to_append (et := 63) (bytes := 64) zk (zvS rfl) (HO2.mono (F' := fun b => b < w.heap.size) fun _ _ h => h.elim) (zvS rfl) HS1 (deepF fun b _ hb => ⟨hb, fun ho => by have := HO2.own_lt ho; omega⟩) (by first | omega | (simp; done) | (simp; omega)) (by simp only [maxLen]; first | omega | (simp; done) | (simp; omega)) zo ?_))
    rintro a3 n3 c3 w3 HO3 hn3 k3 h3 i3
    have zs_k3 := k3.size
    replace E := E.step k3 (by intro i hi he; have he0 := he; (try dsimp only [NoK] at hi he ⊢); (try simp only [Value.ownBlock, Option.some.injEq] at he); first | exact he.elim | omega | exact he | (have := ((HO2.mono (F' := fun b => b < w.heap.size) fun _ _ h => h.elim)).own_lt he0; omega) | (have := zo_HO2 _ he0; omega) | (have := ((HO2.mono (F' := fun b => b < w.heap.size) fun _ _ h => h.elim)).own_lt he0; rcases hi with hi | hi <;> omega))
    replace HS1 := HS1.keep k3 (by intro i _ hi he; have he0 := he; (try dsimp only [NoK, AllB] at hi he); (try simp only [Value.ownBlock, Option.some.injEq] at he); first | exact hi.elim | exact he.elim | omega | (rcases hi with hi | hi <;> omega) | (rcases he with he | he <;> omega) | (have := ((HO2.mono (F' := fun b => b < w.heap.size) fun _ _ h => h.elim)).own_lt he0; omega) | (have := zo_HO2 _ he0; omega) | (have := ((HO2.mono (F' := fun b => b < w.heap.size) fun _ _ h => h.elim)).own_lt he0; rcases hi with hi | hi <;> omega))
    have zo_HO3 := fun (b : Nat) h => HO3.own_lt (b := b) h
    refine l_v (zaS rfl) (l_nil (n_then (c_ret (ret1v rfl zq (zvS rfl) ?_))))
    exact ⟨HO3.base zo, E⟩
end Go.Proofs.Yteehplloacefmaa

namespace Go.Proofs.Yteehplloacefmaa
open Go.Vc
set_option linter.unusedVariables false
set_option linter.unusedSimpArgs false
set_option maxRecDepth 100000

theorem next_c {w : World} {F : Nat → Prop} {u v : Value} {e : Int} {rs : List RgV} (HS1 : SlV tRg w F v rs) (he : 0 ≤ e ∧ e ≤ 2147483647) (hn : rs.length ≤ 1000) (hl : ∀ r ∈ rs, r.1.length ≤ 100 ∧ r.2.1.length ≤ 100) :
    CallsR Try.prog 61 #[.agg #[.int .i64 e, u], v] w (fun o w' => (∃ x, o = .tuple #[x, .int .i64 (nextM e rs).2] ∧ AgV tMp w' (fun b => w.heap.size ≤ b) x (nextM e rs).1) ∧ Ext w w') := by
  obtain ⟨a1, c1, rfl⟩ := HS1.shape
  refine enter 37 Try.func61 rfl rfl (by simp) ?_
  refine c_seq ?_
  have E := Keep.refl (K := NoK) w
  replace HS1 := HS1.all
  refine wp_reg zd (l_to (to_box (zvA rfl) ?_))
  rintro b2 w2 zb2 HB2 e2 z2
  have zs_e2 := e2.size
  replace E := E.trans (Ext.keep e2)
  replace HS1 := HS1.ext e2
  try simp only [Value.cells] at HB2
  refine l_to (to_alloc (z := (.agg #[.int .i64 0, .slice none 0 0])) (by unfold kZero; kernel_rfl) ?_)
  rintro b4 w4 zb4 HB4 e4 z4
  have zs_e4 := e4.size
  replace E := E.trans (Ext.keep e4)
  replace HS1 := HS1.ext e4
  replace HB2 := HB2.ext e4
  try simp only [Value.cells] at HB4
  refine l_v (v_assign rfl) (l_nil (n_then (c_seq (c_seq (wp_reg zd (l_v (v_fieldAddr (off := 0) (ft := 2) zk rfl) (l_v (v_load zk rfl (by first | exact HB4.pv 0 _ rfl | exact HB2.pv 0 _ rfl | assumption)) ?_)))))))
  refine l_v (v_eql rfl rfl) ?_
  refine l_v (zmB rfl) (l_g1 rfl rfl (fun hG => zmS rfl) (l_g1 rfl rfl (fun hG => v_len (et := 63) zk (gd hG rfl)) ?_))
  refine l_g1 rfl rfl (fun hG => v_gtr (gd hG rfl) rfl) ?_
  refine l_v (v_or rfl rfl) ?_
  refine l_nil (n_then (c_cond rfl rfl (fun hc => ?_) (fun hc => ?_)))
  · skip
    refine c_seq (wp_reg zd (l_v (v_build (pl := [(0, 1), (1, 1)]) (z := .agg #[.int .i64 0, .slice none 0 0]) (zl := [.int .i64 0, .slice none 0 0]) zk (by unfold kZero; kernel_rfl) rfl rfl (cells := [_, _]) rfl) ?_))
    refine l_to (to_storeA (n := 2) rfl rfl (zvA rfl) zk rfl dj6 HB4 dj5 ?_)
    rintro w101 HX101 k101 z101
    have zs_k101 := k101.size
    replace E := E.step k101 dj3
    replace HS1 := HS1.keep k101 dj1
    replace HB2 := HB2.keep k101 dj4
    replace HB4 := HX101
    clear HX101
    try simp only [zS, Nat.zero_add, Nat.reduceAdd, List.drop_nil] at HB4
    refine l_v (v_assign rfl) (l_nil (n_then (c_ret (r_then (ret2cv (n := 2) rfl zq zq rfl zk HB4.pv rfl (zvI rfl) ?_)))))
    have h : e = 2147483647 ∨ 16 < rs.length := by
      simp only [Bool.or_eq_true, decide_eq_true_eq] at hc; omega
    rw [nextM, if_pos h]
    exact ⟨⟨_, rfl, AgV.mkMp (SlV.nil _ _ _) zo⟩, E⟩
  · skip
    have h : ¬ (e = 2147483647 ∨ 16 < rs.length) := by
      simp only [Bool.or_eq_false_iff, decide_eq_false_iff_not] at hc; omega
    refine c_skip (n_then (c_seq (wp_reg zd (l_v (v_fieldAddr (off := 0) (ft := 2) zk rfl) (l_v (v_load zk rfl (by first | exact HB4.pv 0 _ rfl | exact HB2.pv 0 _ rfl | assumption)) ?_)))))
    refine l_v (v_add rfl rfl (by first | exact wr_i64 zo zo | rfl)) ?_
    refine l_v (v_build (pl := [(0, 1), (1, 1)]) (z := .agg #[.int .i64 0, .slice none 0 0]) (zl := [.int .i64 0, .slice none 0 0]) zk (by unfold kZero; kernel_rfl) rfl rfl (cells := [_, _]) rfl) ?_
    refine l_to (to_alloc (z := (.agg #[.int .i64 0, .slice none 0 0])) (by unfold kZero; kernel_rfl) ?_)
    rintro b6 w6 zb6 HB6 e6 z6
    have zs_e6 := e6.size
    replace E := E.trans (Ext.keep e6)
    replace HS1 := HS1.ext e6
    replace HB2 := HB2.ext e6
    replace HB4 := HB4.ext e6
    try simp only [Value.cells] at HB6
    refine l_to (to_storeA (n := 2) rfl rfl (zvA rfl) zk rfl dj6 HB6 dj5 ?_)
    rintro w102 HX102 k102 z102
    have zs_k102 := k102.size
    replace E := E.step k102 dj3
    replace HS1 := HS1.keep k102 dj1
    replace HB2 := HB2.keep k102 dj4
    replace HB4 := HB4.keep k102 dj4
    replace HB6 := HX102
    clear HX102
    try simp only [zS, Nat.zero_add, Nat.reduceAdd, List.drop_nil] at HB6
    refine l_nil (n_then (c_seq (c_seq (wp_reg zd (l_v (zmS rfl) (l_v (v_len (et := 63) zk rfl) ?_))))))
    refine l_v (v_move rfl) (l_nil (n_then (c_block (c_loop (τ := Nat × Value) [8, 24, 25, 26, 27, 28, 29, 30, 31, 32, 33, 34, 35] (fun (i, x) => [(24, .int .i64 i)]) (fun (i, x) W => Ext w W ∧ Keep (fun b => b6 ≤ b) w102 W ∧ i ≤ rs.length ∧ Blk W b6 [.int .i64 (e + 1), x] 24 ∧ OwV tRg 63 W w6.heap.size (fun b => b6 < b ∧ b < W.heap.size) x (rs.take i)) (fun (i, x) => rs.length - i) (0, .slice none 0 0) (by exact ⟨rfl, trivial⟩) (by exact ⟨E, Keep.refl _, Nat.zero_le _, HB6, OwV.nil _ _ _ _ _⟩) ?_))))
    rintro ⟨i, x⟩ w103 j ⟨E, EL1, h1, HB6, HOx⟩
    have zs_EL1 := EL1.size
    replace HS1 := HS1.keep EL1 dj1
    replace HB2 := HB2.keep EL1 dj4
    replace HB4 := HB4.keep EL1 dj4
    have zo_HOx := fun (b : Nat) h => HOx.own_lt (b := b) h
    refine c_seq (wp_reg zd (l_v (v_lss rfl rfl) ?_))
    refine l_nil (n_then (c_seq (c_cond rfl rfl (fun hlt => ?_) (fun hlt => ?_))))
    · skip
      have hlt := dtrue hlt
      have htl : (rs.take i).length = i := by rw [List.length_take]; omega
      obtain ⟨r, hx, _⟩ := getE (l := rs) (i := i) zo
      obtain ⟨hl1, hl2⟩ := hl r (List.mem_of_getElem? hx)
      refine c_skip (n_then (c_seq (c_block (c_seq (wp_reg zd (l_to (to_index (et := 63) zk zk (zvS rfl) HS1 (zvI rfl) rfl hx ?_)))))))
      rintro q cs hF HPq hr
      have HG3 : AgV tRg _ _ _ r := ⟨cs, rfl, hr⟩
      obtain ⟨b3, d3, b5, d5, rfl, _, _, hg⟩ := tRg_cells hr
      obtain ⟨ax, cx, rfl⟩ := HOx.shape
      refine l_v (v_loadA zk rfl (by first | exact HPq | exact HB6.pv | exact HB4.pv | exact HB2.pv | assumption) rfl) ?_
      refine l_to (to_alloc (z := (.agg #[.slice none 0 0, .slice none 0 0, .bool false, .int .i64 0])) (by unfold kZero; kernel_rfl) ?_)
      rintro b8 w8 zb8 HB8 e8 z8
      have zs_e8 := e8.size
      replace E := E.trans (Ext.keep e8)
      replace HS1 := HS1.ext e8
      replace HB2 := HB2.ext e8
      replace HB4 := HB4.ext e8
      replace HB6 := HB6.ext e8
      replace HOx := HOx.ext e8
      replace EL1 := EL1.trans (Ext.keep e8)
      replace HPq := HPq.ext e8
      replace HG3 := HG3.ext e8
      try simp only [Value.cells] at HB8
      refine l_to (to_storeA (n := 4) rfl rfl (zvA rfl) zk rfl dj6 HB8 dj5 ?_)
      rintro w104 HX104 k104 z104
      have zs_k104 := k104.size
      replace E := E.step k104 dj3
      replace HS1 := HS1.keep k104 dj1
      replace HB2 := HB2.keep k104 dj4
      replace HB4 := HB4.keep k104 dj4
      replace HB6 := HB6.keep k104 dj4
      replace HOx := HOx.keep k104 (by intro i ho he; have he0 := he; have ho0 := ho; (try dsimp only [NoK] at he); (try simp only [Value.ownBlock, Option.some.injEq, reduceCtorEq] at ho); (try simp only [Value.ownBlock, Option.some.injEq, reduceCtorEq] at he); first | exact he.elim | exact ho.elim | omega | (have := zo_HOx _ ho0; omega)) (by intro i _ hi _ he; have he0 := he; have hi := hi; have he := he; (try dsimp only [NoK, AllB] at hi he); (try simp only [Value.ownBlock, Option.some.injEq, reduceCtorEq] at he); all_goals first | exact hi.elim | exact hi.1.elim | exact he.elim | omega | (rcases hi with hi | hi <;> omega) | (rcases he with he | he <;> omega))
      replace EL1 := EL1.step k104 dj3
      replace HPq := HPq.keep k104 (by intro h; (try dsimp only at h); (try simp only [add_block] at h); first | omega)
      replace HG3 := HG3.keep k104 dj1
      replace HB8 := HX104
      clear HX104
      try simp only [zS, Nat.zero_add, Nat.reduceAdd, List.drop_nil] at HB8
      refine l_nil (n_then (wp_any zk ?_))
      have e105 : Ext w104 { w104 with drawn := w104.drawn + 1 } := Keep.drawn _ _
      generalize hw105 : ({ w104 with drawn := w104.drawn + 1 } : World) = w105 at e105 ⊢
      clear hw105
      have zs_e105 := e105.size
      replace E := E.trans (Ext.keep e105)
      replace HS1 := HS1.ext e105
      replace HB2 := HB2.ext e105
      replace HB4 := HB4.ext e105
      replace HB6 := HB6.ext e105
      replace HOx := HOx.ext e105
      replace EL1 := EL1.trans (Ext.keep e105)
      replace HPq := HPq.ext e105
      replace HG3 := HG3.ext e105
      replace HB8 := HB8.ext e105
      refine r_cut 5 rfl zd zd zd ?_
      refine wp_regdW (NoK) zd zd ?_
      refine rt_v (fun vals w hR hd => v_fieldAddr (off := 1) (ft := 22) zk rfl) ?_
      refine rt_v (fun vals w hR hd => v_load zk (hd 0 rfl) (by first | exact (HB8.ext hR).pv 1 _ rfl | exact (HPq.ext hR) 1 _ rfl | exact pv_1 (HPq.ext hR) | exact (HB6.ext hR).pv 1 _ rfl | exact (HB4.ext hR).pv 1 _ rfl | exact (HB2.ext hR).pv 1 _ rfl | assumption)) ?_
      refine rt_v (fun vals w hR hd => v_loadA zk rfl (by first | exact (HB8.ext hR).pv | exact (HPq.ext hR) | exact (HB6.ext hR).pv | exact (HB4.ext hR).pv | exact (HB2.ext hR).pv | assumption) rfl) ?_
      refine rt_to (fun v W => AgV tRg W (fun b => b8 < b) v r) (fun v w w' h k => h.ext k) (fun vals w hR hd => to_f1 zk (show _ = (Value.agg _) from (hd 2 rfl)) (CallsR.mono (clone_c (HG3.ext hR) zo zo) fun v w1 ⟨h, e⟩ => ⟨e, h.mono fun b _ hb => by have := hR.size; omega⟩)) ?_
      refine rt_to (fun v W => SlV tRg W (fun b => b8 < b) v [r]) (fun v w w' h k => h.ext k) (fun vals w hR hd => by (obtain ⟨cs, hcs, hr⟩ := hd 3 rfl; exact to_slice1 (t := tRg) (et := 63) (bytes := 64) zk zq (show _ = vals 3 from rfl) (by rw [hcs]; exact hr) fun b w1 hb HO e z => ⟨e, HO.view.mono fun i _ hi => by have := hR.size; exact hi.elim (fun h => by omega) (fun h => h.1)⟩)) ?_
      have htl2 : (rs.take i ++ [r]).length = i + 1 := by rw [List.length_append, htl]; rfl
      have HOy := HOx.mono (F' := fun b => b6 < b) fun b _ h => h.1
      have zo_HOy := fun (b : Nat) h => HOy.own_lt (b := b) h
      have zo_HOy := zo_HOx
      refine rt_nil (fun w106 e106 => ?_)
      rintro _ rfl _ rfl _ rfl v31 HG31 v32 HS32
      have zs_e106 := e106.size
      obtain ⟨a32, c32, rfl⟩ := HS32.shape
      replace E := E.trans (Ext.keep e106)
      replace HS1 := HS1.ext e106
      replace HB2 := HB2.ext e106
      replace HB4 := HB4.ext e106
      replace HB6 := HB6.ext e106
      replace EL1 := EL1.trans (Ext.keep e106)
      replace HPq := HPq.ext e106
      replace HG3 := HG3.ext e106
      replace HB8 := HB8.ext e106
      replace HOy := HOy.ext e106
      refine fin_nil (n_then (r_cut 1 rfl zd zd zd ?_))
      refine r_one zd rfl ?_
      refine l_to (to_append (et := 63) (bytes := 64) zk (zvS rfl) HOy (zvS rfl) HS32 (deepF fun b hb hb2 => ⟨by omega, fun ho => by have := zo_HOx _ ho; omega⟩) (by first | omega | (simp; done) | (simp; omega)) (by simp only [maxLen]; first | omega | (simp; done) | (simp; omega)) zo ?_)
      rintro a9 n9 c9 w9 HO9 hn9 k9 h9 i9
      have zs_k9 := k9.size
      replace E := E.step k9 (by intro i hi he; have he0 := he; (try dsimp only [NoK] at hi he ⊢); (try simp only [Value.ownBlock, Option.some.injEq] at he); first | exact he.elim | omega | exact he | (have := (HOy).own_lt he0; omega) | (have := zo_HOy _ he0; omega) | (have := (HOy).own_lt he0; rcases hi with hi | hi <;> omega))
      replace HS1 := HS1.keep k9 (by intro i _ hi he; have he0 := he; (try dsimp only [NoK, AllB] at hi he); (try simp only [Value.ownBlock, Option.some.injEq] at he); first | exact hi.elim | exact he.elim | omega | (rcases hi with hi | hi <;> omega) | (rcases he with he | he <;> omega) | (have := (HOy).own_lt he0; omega) | (have := zo_HOy _ he0; omega) | (have := (HOy).own_lt he0; rcases hi with hi | hi <;> omega))
      replace HB2 := HB2.keep k9 (by intro h; have he0 := h; (try dsimp only at h); (try simp only [Value.ownBlock, Option.some.injEq] at h); first | omega | (have := (HOy).own_lt he0; omega) | (have := zo_HOy _ he0; omega))
      replace HB4 := HB4.keep k9 (by intro h; have he0 := h; (try dsimp only at h); (try simp only [Value.ownBlock, Option.some.injEq] at h); first | omega | (have := (HOy).own_lt he0; omega) | (have := zo_HOy _ he0; omega))
      replace HB6 := HB6.keep k9 (by intro h; have he0 := h; (try dsimp only at h); (try simp only [Value.ownBlock, Option.some.injEq] at h); first | omega | (have := (HOy).own_lt he0; omega) | (have := zo_HOy _ he0; omega))
      replace EL1 := EL1.step k9 (by intro i hi he; have he0 := he; (try dsimp only [NoK] at hi he ⊢); (try simp only [Value.ownBlock, Option.some.injEq] at he); first | exact he.elim | omega | exact he | (have := (HOy).own_lt he0; omega) | (have := zo_HOy _ he0; omega) | (have := (HOy).own_lt he0; rcases hi with hi | hi <;> omega))
      replace HPq := HPq.keep k9 (by intro h; have he0 := h; (try dsimp only at h); (try simp only [Value.ownBlock, Option.some.injEq] at h); (try simp only [add_block] at h); (try simp only [add_block] at he0); first | omega | (have := (HOy).own_lt he0; omega) | (have := zo_HOy _ he0; omega))
      replace HG3 := HG3.keep k9 (by intro i _ hi he; have he0 := he; (try dsimp only [NoK, AllB] at hi he); (try simp only [Value.ownBlock, Option.some.injEq] at he); first | exact hi.elim | exact he.elim | omega | (rcases hi with hi | hi <;> omega) | (rcases he with he | he <;> omega) | (have := (HOy).own_lt he0; omega) | (have := zo_HOy _ he0; omega) | (have := (HOy).own_lt he0; rcases hi with hi | hi <;> omega))
      replace HB8 := HB8.keep k9 (by intro h; have he0 := h; (try dsimp only at h); (try simp only [Value.ownBlock, Option.some.injEq] at h); first | omega | (have := (HOy).own_lt he0; omega) | (have := zo_HOy _ he0; omega))
      replace HG31 := HG31.keep k9 (by intro i _ hi he; have he0 := he; (try dsimp only [NoK, AllB] at hi he); (try simp only [Value.ownBlock, Option.some.injEq] at he); first | exact hi.elim | exact he.elim | omega | (rcases hi with hi | hi <;> omega) | (rcases he with he | he <;> omega) | (have := (HOy).own_lt he0; omega) | (have := zo_HOy _ he0; omega) | (have := (HOy).own_lt he0; rcases hi with hi | hi <;> omega))
      replace HS32 := HS32.keep k9 (by intro i _ hi he; have he0 := he; (try dsimp only [NoK, AllB] at hi he); (try simp only [Value.ownBlock, Option.some.injEq] at he); first | exact hi.elim | exact he.elim | omega | (rcases hi with hi | hi <;> omega) | (rcases he with he | he <;> omega) | (have := (HOy).own_lt he0; omega) | (have := zo_HOy _ he0; omega) | (have := (HOy).own_lt he0; rcases hi with hi | hi <;> omega))
      have zo_HO9 := fun (b : Nat) h => HO9.own_lt (b := b) h
      refine l_nil (n_then (r_cut 1 rfl zd zd zd ?_))
      refine r_one zd rfl ?_
      refine l_v (v_fieldAddr (off := 1) (ft := 22) zk rfl) (l_nil (n_then (r_one zd rfl ?_)))
      refine l_to (to_store rfl rfl (zvS rfl) rfl zk HB6 dj5 ?_)
      rintro w107 HX107 k107 z107
      have zs_k107 := k107.size
      replace E := E.step k107 dj3
      replace HS1 := HS1.keep k107 dj1
      replace HB2 := HB2.keep k107 dj4
      replace HB4 := HB4.keep k107 dj4
      replace EL1 := EL1.step k107 dj3
      replace HPq := HPq.keep k107 (by intro h; (try dsimp only at h); (try simp only [add_block] at h); first | omega)
      replace HG3 := HG3.keep k107 dj1
      replace HB8 := HB8.keep k107 dj4
      replace HG31 := HG31.keep k107 dj1
      replace HS32 := HS32.keep k107 dj1
      replace HO9 := HO9.keep k107 (by intro i ho he; have he0 := he; have ho0 := ho; (try dsimp only [NoK] at he); (try simp only [Value.ownBlock, Option.some.injEq, reduceCtorEq] at ho); (try simp only [Value.ownBlock, Option.some.injEq, reduceCtorEq] at he); first | exact he.elim | exact ho.elim | omega | (have := zo_HO9 _ ho0; omega)) (by intro i _ hi _ he; have he0 := he; have hi := hi; have he := he; (try dsimp only [NoK, AllB] at hi he); (try simp only [Value.ownBlock, Option.some.injEq, reduceCtorEq] at he); all_goals first | exact hi.elim | exact hi.1.elim | exact he.elim | omega | (rcases hi with hi | hi <;> omega) | (rcases he with he | he <;> omega))
      replace HB6 := HX107
      clear HX107
      try simp only [zS, Nat.zero_add, Nat.reduceAdd, List.drop_nil] at HB6
      refine l_nil (n_blk (n_then (wp_reg zd (l_v (v_add rfl rfl (by first | exact wr_i64 zo zo | rfl)) ?_))))
      refine l_v (zmI rfl) (l_nil (n_then (⟨(i + 1, .slice a9 n9 c9), _, rfl, by (repeat (first | exact Off.of_over _ _ _ | refine Off.upd ?_ zq _ | refine Off.overs ?_ zq _)), ⟨by first | rfl | exact congrArg (Value.int _) zo | (simp; done), trivial⟩, ⟨E, EL1, ?_⟩, ?_⟩)))
      · skip
        exact ⟨by omega, HB6, by rw [List.take_add_one, hx]; exact HO9.mono fun b hb h => ⟨h, hb⟩⟩
      · (dsimp only; omega)
    · skip
      obtain ⟨ax, cx, rfl⟩ := HOx.shape
      refine c_exit (x_then (x_then (x_hit (n_then (c_seq (wp_reg zd (l_v (v_loadA zk rfl (by first | exact HB6.pv | exact HB4.pv | exact HB2.pv | assumption) rfl) ?_)))))))
      refine l_to (to_storeA (n := 2) rfl rfl (zvA rfl) zk rfl dj6 HB4 dj5 ?_)
      rintro w108 HX108 k108 z108
      have zs_k108 := k108.size
      replace E := E.step k108 dj3
      replace HS1 := HS1.keep k108 dj1
      replace HB2 := HB2.keep k108 dj4
      replace HB6 := HB6.keep k108 dj4
      replace HOx := HOx.keep k108 (by intro i ho he; have he0 := he; have ho0 := ho; (try dsimp only [NoK] at he); (try simp only [Value.ownBlock, Option.some.injEq, reduceCtorEq] at ho); (try simp only [Value.ownBlock, Option.some.injEq, reduceCtorEq] at he); first | exact he.elim | exact ho.elim | omega | (have := zo_HOx _ ho0; omega)) (by intro i _ hi _ he; have he0 := he; have hi := hi; have he := he; (try dsimp only [NoK, AllB] at hi he); (try simp only [Value.ownBlock, Option.some.injEq, reduceCtorEq] at he); all_goals first | exact hi.elim | exact hi.1.elim | exact he.elim | omega | (rcases hi with hi | hi <;> omega) | (rcases he with he | he <;> omega))
      replace HB4 := HX108
      clear HX108
      try simp only [zS, Nat.zero_add, Nat.reduceAdd, List.drop_nil] at HB4
      refine l_v (v_assign rfl) (l_nil (n_then (c_ret (ret2cv (n := 2) rfl zq zq rfl zk HB4.pv rfl (zvI rfl) ?_))))
      have h2 := dfalse hlt
      have e1 : rs.take i = rs := List.take_of_length_le zo
      rw [e1] at HOx ⊢
      rw [nextM, if_neg h]
      exact ⟨⟨_, rfl, AgV.mkMp (HOx.view.mono fun b _ h => by rcases h with h | h <;> omega) zo⟩, E⟩
end Go.Proofs.Yteehplloacefmaa

namespace Go.Proofs.Yteehplloacefmaa
open Go.Vc
set_option linter.unusedVariables false
set_option linter.unusedSimpArgs false
set_option maxRecDepth 100000

theorem Find1_c {w : World} {F G : Nat → Prop} {u kv : Value} {r : RgV} {k : List UInt8} {b : Nat} {T : TypeId} (HG1 : AgV tRg w F u r) (hb : Blk w b [kv] T) (HS2 : Bv w G kv k) : CallsR Try.prog 54 #[u, .pointer (some ⟨b, 0, none⟩)] w (fun o w' => o = .bool (hasB k r) ∧ Ext w w') := by
  obtain ⟨a1, c1, a2, c2, rfl, HSf, HSt, hg⟩ := HG1.rg
  obtain ⟨a3, c3, rfl⟩ := HS2.shape
  have HBk := hb
  refine enter 7 Try.func54 rfl rfl (by simp) ?_
  refine c_seq ?_
  have E := Keep.refl (K := NoK) w
  replace HG1 := HG1.all
  replace HS2 := HS2.all
  refine wp_reg zd (l_to (to_box (zvA rfl) ?_))
  rintro b101 w101 zb101 HB101 e101 z101
  have zs_e101 := e101.size
  replace E := E.trans (Ext.keep e101)
  replace HG1 := HG1.ext e101
  replace HS2 := HS2.ext e101
  replace HBk := HBk.ext e101
  try simp only [Value.cells] at HB101
  refine l_v (v_assign rfl) (l_nil (n_then (c_seq (wp_reg zd (l_v (v_loadA zk rfl (by first | exact HB101.pv | exact HBk.pv | assumption) rfl) ?_)))))
  refine l_v (v_load zk rfl (by first | exact HB101.cell rfl | exact HBk.cell rfl | assumption)) ?_
  refine l_to (to_f2 zk (zvA rfl) (zvS rfl) (CallsR.mono (Has_c HG1 HS2) ?_))
  rintro _ w102 ⟨rfl, e102⟩
  have zs_e102 := e102.size
  replace E := E.trans (Ext.keep e102)
  replace HG1 := HG1.ext e102
  replace HS2 := HS2.ext e102
  replace HBk := HBk.ext e102
  replace HB101 := HB101.ext e102
  refine l_v (zaB rfl) (l_nil (n_then (c_ret (ret1v rfl zq (zvB rfl) ?_))))
  exact ⟨rfl, E⟩
theorem begins1_c {w : World} {F G : Nat → Prop} {u kv : Value} {r : RgV} {k : List UInt8} {b : Nat} {T : TypeId} (HG1 : AgV tRg w F u r) (hb : Blk w b [kv] T) (HS2 : Bv w G kv k) : CallsR Try.prog 80 #[u, .pointer (some ⟨b, 0, none⟩)] w (fun o w' => o = .bool (begB k r) ∧ Ext w w') := by
  obtain ⟨a1, c1, a2, c2, rfl, HSf, HSt, hg⟩ := HG1.rg
  obtain ⟨a3, c3, rfl⟩ := HS2.shape
  have HBk := hb
  refine enter 8 Try.func80 rfl rfl (by simp) ?_
  refine c_seq ?_
  have E := Keep.refl (K := NoK) w
  replace HSf := HSf.all
  replace HS2 := HS2.all
  refine wp_reg zd (l_to (to_box (zvA rfl) ?_))
  rintro b101 w101 zb101 HB101 e101 z101
  have zs_e101 := e101.size
  replace E := E.trans (Ext.keep e101)
  replace HSf := HSf.ext e101
  replace HS2 := HS2.ext e101
  replace HBk := HBk.ext e101
  try simp only [Value.cells] at HB101
  refine l_v (v_assign rfl) (l_nil (n_then (c_seq (wp_reg zd (l_v (v_fieldAddr (off := 0) (ft := 33) zk rfl) (l_v (v_load zk rfl (by first | exact HB101.pv 0 _ rfl | exact HBk.pv 0 _ rfl | assumption)) ?_))))))
  refine l_v (v_load zk rfl (by first | exact HB101.cell rfl | exact HBk.cell rfl | assumption)) ?_
  refine l_to (to_f2 zk (zvS rfl) (zvS rfl) (CallsR.mono (Equal_c HSf HS2) ?_))
  rintro _ w102 ⟨rfl, e102⟩
  have zs_e102 := e102.size
  replace E := E.trans (Ext.keep e102)
  replace HSf := HSf.ext e102
  replace HS2 := HS2.ext e102
  replace HBk := HBk.ext e102
  replace HB101 := HB101.ext e102
  refine l_v (zaB rfl) (l_nil (n_then (c_ret (ret1v rfl zq (zvB rfl) ?_))))
  exact ⟨rfl, E⟩
theorem begins_c {w : World} {F G : Nat → Prop} {v kv : Value} {e : Int} {rs : List RgV} {k : List UInt8} (HG1 : AgV tMp w F v (e, rs)) (HS2 : Bv w G kv k) : CallsR Try.prog 60 #[v, kv] w (fun o w' => o = .int .i64 (optI (findO (e, rs) (begB k))) ∧ Ext w w') := by
  obtain ⟨a, c, rfl, HSr, he⟩ := HG1.mp
  obtain ⟨a3, c3, rfl⟩ := HS2.shape
  refine enter 8 Try.func60 rfl rfl (by simp) ?_
  refine c_seq ?_
  have E := Keep.refl (K := NoK) w
  replace HG1 := HG1.all
  replace HS2 := HS2.all
  refine wp_reg zd (l_to (to_box (zvA rfl) ?_))
  rintro b2 w2 zb2 HB2 e2 z2
  have zs_e2 := e2.size
  replace E := E.trans (Ext.keep e2)
  replace HG1 := HG1.ext e2
  replace HS2 := HS2.ext e2
  try simp only [Value.cells] at HB2
  refine l_to (to_box (zvS rfl) ?_)
  rintro b3 w3 zb3 HB3 e3 z3
  have zs_e3 := e3.size
  replace E := E.trans (Ext.keep e3)
  replace HG1 := HG1.ext e3
  replace HS2 := HS2.ext e3
  replace HB2 := HB2.ext e3
  try simp only [Value.cells] at HB3
  refine l_v (v_assign rfl) (l_nil (n_then (c_seq (wp_reg zd (l_v (v_loadA zk rfl (by first | exact HB3.pv | exact HB2.pv | assumption) rfl) ?_)))))
  refine l_v (v_makeFunc (by simp [ev]; rfl) (by simp [ev]; rfl)) ?_
  refine l_to (to_f2 zk (zvA rfl) (show _ = (Value.func _ _ _) from rfl) (CallsR.mono (find_c (cap := #[.pointer (some ⟨b3, 0, none⟩)]) HG1 zk (fun W G u r e h => begins1_c h (HB3.ext e) (HS2.ext e))) ?_))
  rintro _ w101 ⟨rfl, e101⟩
  have zs_e101 := e101.size
  replace E := E.trans (Ext.keep e101)
  replace HG1 := HG1.ext e101
  replace HS2 := HS2.ext e101
  replace HB2 := HB2.ext e101
  replace HB3 := HB3.ext e101
  refine l_v (zaI rfl) (l_nil (n_then (c_ret (ret1v rfl zq (zvI rfl) ?_))))
  exact ⟨rfl, E⟩
theorem Find_c {w : World} {F G : Nat → Prop} {v kv : Value} {e : Int} {rs : List RgV} {k : List UInt8} (HG1 : AgV tMp w F v (e, rs)) (HS2 : Bv w G kv k) : CallsR Try.prog 29 #[v, kv] w (fun o w' => (∃ x, o = .tuple #[x, .int .i64 (optI (findO (e, rs) (hasB k)))] ∧ AgV tRg w' (fun b => w.heap.size ≤ b) x (rgAt rs (findO (e, rs) (hasB k)))) ∧ Ext w w') := by
  obtain ⟨a, c, rfl, HSr, he⟩ := HG1.mp
  obtain ⟨a3, c3, rfl⟩ := HS2.shape
  refine enter 20 Try.func29 rfl rfl (by simp) ?_
  refine c_seq ?_
  have E := Keep.refl (K := NoK) w
  replace HG1 := HG1.all
  replace HS2 := HS2.all
  replace HSr := HSr.all
  refine wp_reg zd (l_to (to_box (zvA rfl) ?_))
  rintro b2 w2 zb2 HB2 e2 z2
  have zs_e2 := e2.size
  replace E := E.trans (Ext.keep e2)
  replace HG1 := HG1.ext e2
  replace HS2 := HS2.ext e2
  replace HSr := HSr.ext e2
  try simp only [Value.cells] at HB2
  refine l_to (to_box (zvS rfl) ?_)
  rintro b3 w3 zb3 HB3 e3 z3
  have zs_e3 := e3.size
  replace E := E.trans (Ext.keep e3)
  replace HG1 := HG1.ext e3
  replace HS2 := HS2.ext e3
  replace HSr := HSr.ext e3
  replace HB2 := HB2.ext e3
  try simp only [Value.cells] at HB3
  refine l_to (to_alloc (z := (.agg #[.slice none 0 0, .slice none 0 0, .bool false, .int .i64 0])) (by unfold kZero; kernel_rfl) ?_)
  rintro b4 w4 zb4 HB4 e4 z4
  have zs_e4 := e4.size
  replace E := E.trans (Ext.keep e4)
  replace HG1 := HG1.ext e4
  replace HS2 := HS2.ext e4
  replace HSr := HSr.ext e4
  replace HB2 := HB2.ext e4
  replace HB3 := HB3.ext e4
  try simp only [Value.cells] at HB4
  refine l_v (v_assign rfl) (l_nil (n_then (c_seq (wp_reg zd (l_v (v_loadA zk rfl (by first | exact HB4.pv | exact HB3.pv | exact HB2.pv | assumption) rfl) ?_)))))
  refine l_v (v_makeFunc (by simp [ev]; rfl) (by simp [ev]; rfl)) ?_
  refine l_to (to_f2 zk (zvA rfl) (show _ = (Value.func _ _ _) from rfl) (CallsR.mono (find_c (cap := #[.pointer (some ⟨b3, 0, none⟩)]) HG1 zk (fun W G u r e h => Find1_c h (HB3.ext e) (HS2.ext e))) ?_))
  rintro _ w101 ⟨rfl, e101⟩
  have zs_e101 := e101.size
  replace E := E.trans (Ext.keep e101)
  replace HG1 := HG1.ext e101
  replace HS2 := HS2.ext e101
  replace HSr := HSr.ext e101
  replace HB2 := HB2.ext e101
  replace HB3 := HB3.ext e101
  replace HB4 := HB4.ext e101
  refine l_v (zaI rfl) (l_nil (n_then (c_seq (c_seq (wp_reg zd (l_v (zmI rfl) (l_v (v_lss rfl rfl) ?_)))))))
  refine l_nil (n_then (c_cond rfl rfl (fun hc => ?_) (fun hc => ?_)))
  · skip
    refine c_seq (wp_reg zd (l_v (v_build (pl := [(0, 1), (1, 1), (2, 1), (3, 1)]) (z := .agg #[.slice none 0 0, .slice none 0 0, .bool false, .int .i64 0]) (zl := [.slice none 0 0, .slice none 0 0, .bool false, .int .i64 0]) zk (by unfold kZero; kernel_rfl) rfl rfl (cells := [_, _, _, _]) rfl) ?_))
    refine l_to (to_storeA (n := 4) rfl rfl (zvA rfl) zk rfl dj6 HB4 dj5 ?_)
    rintro w102 HX102 k102 z102
    have zs_k102 := k102.size
    replace E := E.step k102 dj3
    replace HG1 := HG1.keep k102 dj1
    replace HS2 := HS2.keep k102 dj1
    replace HSr := HSr.keep k102 dj1
    replace HB2 := HB2.keep k102 dj4
    replace HB3 := HB3.keep k102 dj4
    replace HB4 := HX102
    clear HX102
    try simp only [zS, Nat.zero_add, Nat.reduceAdd, List.drop_nil] at HB4
    refine l_v (v_assign rfl) (l_nil (n_then (c_ret (r_then (ret2cv (n := 4) rfl zq zq rfl zk HB4.pv rfl (zvI rfl) ?_)))))
    have h := optI_neg.1 (dtrue hc)
    rw [h]
    exact ⟨⟨_, rfl, AgV.mkRg (SlV.nil _ _ _) (SlV.nil _ _ _) zo⟩, E⟩
  · skip
    obtain ⟨i, hi⟩ : ∃ i, findO (e, rs) (hasB k) = some i := by
      cases h : findO (e, rs) (hasB k) with
      | none => rw [h] at hc; simp [optI] at hc
      | some i => exact ⟨i, rfl⟩
    obtain ⟨hm, hlt, _⟩ := findO_at hi
    simp only at hlt
    obtain ⟨h24, h25, _⟩ := mayM_lens hm _ (getD_mem (l := rs) hlt)
    rw [hi]
    obtain ⟨q, cs, hq, hF, _, HPq, hr⟩ := HSr.el (getD_at hlt)
    subst hq
    have HG5 : AgV tRg _ _ _ (rs.getD i rg0) := ⟨cs, rfl, hr⟩
    obtain ⟨b5, d5, b6, d6, rfl, _, _, hg⟩ := tRg_cells hr
    refine c_skip (n_then (c_seq (wp_reg zd (l_v (v_fieldAddr (off := 1) (ft := 22) zk rfl) (l_v (v_load zk rfl (by first | exact HPq 1 _ rfl | exact pv_1 HPq | exact HB4.pv 1 _ rfl | exact HB3.pv 1 _ rfl | exact HB2.pv 1 _ rfl | assumption)) ?_)))))
    refine l_v (zmI rfl) (l_v (v_indexAddr (et := 63) (sz := 4) (k := i) zk zk rfl rfl (rfl) (hlt)) ?_)
    refine l_v (v_loadA zk rfl (by first | exact HPq | exact HB4.pv | exact HB3.pv | exact HB2.pv | assumption) rfl) ?_
    refine l_to (to_f1 zk (zvA rfl) (CallsR.mono (clone_c HG5 zo zo) ?_))
    rintro v8 w8 ⟨HG8, e8⟩
    have zs_e8 := e8.size
    obtain ⟨a8, c8, a9, c9, rfl, HS8, HS9, hg8⟩ := HG8.rg
    replace E := E.trans (Ext.keep e8)
    replace HG1 := HG1.ext e8
    replace HS2 := HS2.ext e8
    replace HSr := HSr.ext e8
    replace HB2 := HB2.ext e8
    replace HB3 := HB3.ext e8
    replace HB4 := HB4.ext e8
    replace HPq := HPq.ext e8
    replace HG5 := HG5.ext e8
    refine l_v (zmI rfl) (l_to (to_storeA (n := 4) rfl rfl (zvA rfl) zk rfl dj6 HB4 dj5 ?_))
    rintro w103 HX103 k103 z103
    have zs_k103 := k103.size
    replace E := E.step k103 dj3
    replace HG1 := HG1.keep k103 dj1
    replace HS2 := HS2.keep k103 dj1
    replace HSr := HSr.keep k103 dj1
    replace HB2 := HB2.keep k103 dj4
    replace HB3 := HB3.keep k103 dj4
    replace HPq := HPq.keep k103 (by intro h; (try dsimp only at h); (try simp only [add_block] at h); first | omega)
    replace HG5 := HG5.keep k103 dj1
    replace HG8 := HG8.keep k103 dj1
    replace HS8 := HS8.keep k103 dj1
    replace HS9 := HS9.keep k103 dj1
    replace HB4 := HX103
    clear HX103
    try simp only [zS, Nat.zero_add, Nat.reduceAdd, List.drop_nil] at HB4
    refine l_v (zaI rfl) (l_nil (n_then (c_ret (ret2cv (n := 4) rfl zq zq rfl zk HB4.pv rfl (zvI rfl) ?_))))
    exact ⟨⟨_, rfl, HG8.mono fun b _ h => by omega⟩, E⟩
end Go.Proofs.Yteehplloacefmaa
