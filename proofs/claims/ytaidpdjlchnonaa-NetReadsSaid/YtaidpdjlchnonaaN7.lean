/- A part of the proof: steps and lemmas for the walks through the given program. -/
import Derived.Test.YtaidpdjlchnonaaN6
namespace Go.Proofs.Ytaidpdjlchnonaa
open Go.Vc
set_option linter.unusedVariables false
set_option linter.unusedSimpArgs false
set_option maxRecDepth 100000

def yAll (n : Nat) (ms : List Ms) (pre : List (Nat × List Value)) (x : Nat × List Value) (W : World) : Prop :=
  x.1 = pre.length ∧ n + 2 ≤ W.heap.size ∧ ∃ m, ms[x.1]? = some m ∧ tMs.rep W (fun b => n + 2 ≤ b) x.2 m
theorem All1_seq {w0 : World} {F K : Nat → Prop} {a : Option Addr} {c bw b2 : Nat} {y : Value} {ms : List Ms} (HBw : Blk w0 bw [.bool true, .slice a ms.length c, y] 68) (HSw : SlV tMs w0 F (.slice a ms.length c) ms) (hb2 : Blk w0 b2 [.pointer (some ⟨bw, 0, none⟩)] 39)
    (hF : ∀ i, F i → ¬ K i) (hKw : ¬ K bw) (hK2 : ¬ K b2) (hmay : ∀ m ∈ ms, mayN m = true) : SeqY Try.prog 98 #[.pointer (some ⟨b2, 0, none⟩)] (fun x => [.int .i64 (x.1 : Int), .agg x.2.toArray]) (yAll w0.heap.size ms) K (fun xs => xs.length = ms.length) (fun _ => True) w0 := by
  refine fun l J Jx W hx hz hJ hJx hY h0 => ?_
  have hmx := HSw.len_max
  obtain ⟨css, hcss⟩ := HSw.pick
  refine CallsR.mono (R := fun _ W' => (∃ xs, xs.length = ms.length ∧ J xs W') ∨ ∃ pre, True ∧ Jx pre W') ?_ fun _ _ h => h
  show CallsR _ _ (#[.func (.yield l) #[] #[], .pointer (some ⟨b2, 0, none⟩)]) W _
  refine enter 25 Try.func98 rfl rfl (by simp) ?_
  refine c_seq ?_
  refine c_seq ?_
  refine wp_reg (by decide +kernel) ?_
  refine l_v (v_load (by kernel_rfl) rfl ((hb2.ext hx).cell rfl)) ?_
  refine l_to (to_f1 (by kernel_rfl) (show _ = (Value.pointer _) from rfl) (CallsR.mono (there_c (HBw.ext hx)) ?_))
  rintro _ w1 ⟨rfl, e1⟩
  have zs_e1 := e1.size
  refine l_v (v_not rfl) ?_
  refine l_nil ?_
  refine n_then ?_
  refine c_cond rfl rfl (fun hc => ?_) (fun hc => ?_)
  · skip
    cases hc
  · skip
    have hx1 := hx.trans e1
    refine c_skip ?_
    refine n_then ?_
    refine c_seq ?_
    refine wp_reg (by decide +kernel) ?_
    refine l_v (v_load (by kernel_rfl) rfl ((hb2.ext hx1).cell rfl)) ?_
    refine l_v (v_nilCheck rfl) ?_
    refine l_v (v_fieldAddr (off := 1) (ft := 41) (by kernel_rfl) rfl) ?_
    refine l_v (v_load (by kernel_rfl) rfl ((HBw.ext hx1).pv 1 _ rfl)) ?_
    refine l_v (v_len (et := 26) (by kernel_rfl) rfl) ?_
    refine l_v (v_move rfl) ?_
    refine l_nil ?_
    refine n_then ?_
    refine c_block ?_
    refine c_loop (τ := Nat × List (Nat × List Value)) [3, 4, 13, 14, 15, 16, 17, 18, 19, 20, 21, 22, 23, 24] (fun t => [(13, .int .i64 t.1)]) (fun t w => t.1 ≤ ms.length ∧ Keep K w0 w ∧ w0.heap.size + 2 ≤ w.heap.size ∧ J t.2 w ∧ t.2.length = t.1) (fun t => ms.length - t.1) (0, []) (by exact ⟨rfl, trivial⟩) (by exact ⟨Nat.zero_le _, hx1.keep, by have := e1.size; omega, hJ _ _ _ e1 h0, rfl⟩) ?_
    rintro ⟨i, pre⟩ w2 j ⟨h1, k1, hz1, hj, hn⟩
    refine c_seq ?_
    simp only at h1 hn hj
    refine wp_reg (by decide +kernel) ?_
    refine l_v (v_lss rfl rfl) ?_
    refine l_nil ?_
    refine n_then ?_
    refine c_seq ?_
    refine c_cond rfl rfl (fun hlt => ?_) (fun hlt => ?_)
    · skip
      have hlt : i < ms.length := by have := dtrue hlt; simp only at this; omega
      obtain ⟨r, hx1', hdr⟩ := getE hlt
      obtain ⟨q, rfl, hFq, hql, hp, hr⟩ := hcss i r hx1'
      obtain ⟨a1, c1, a2, c2, hcs, _⟩ := tMs_cells hr
      refine c_skip ?_
      refine n_then ?_
      refine c_seq ?_
      refine c_block ?_
      refine c_seq ?_
      refine wp_reg (by decide +kernel) ?_
      refine l_v (v_move (t := .int _ _) rfl) ?_
      refine l_v (v_indexAddr (et := 26) (sz := 11) (k := i) (by kernel_rfl) (by kernel_rfl) rfl rfl (by first | rfl | omega) (hlt)) ?_
      refine l_v (v_loadA (n := 11) (by kernel_rfl) rfl (hp.keep k1 (by rw [add_block]; exact hF _ hFq)) (tMs.len hr)) ?_
      refine l_to (to_alloc (z := (.agg #[.int .i64 0, .int .i64 0, .int .i64 0, .int .i64 0, .int .i64 0, .int .i64 0, .int .i64 0, .int .i64 0, .slice none 0 0, .bool false, .slice none 0 0])) (by unfold kZero; kernel_rfl) ?_)
      rintro b4 w4 zb4 hb4 e4 z4
      have zs_e4 := e4.size
      refine l_v (v_assign (t := .int _ _) rfl) ?_
      refine l_to (to_storeA (n := 11) rfl rfl (show _ = (Value.agg _) from rfl) (by kernel_rfl) (tMs.len hr) (tMs.one hr) hb4 (by first | exact of_decide_eq_true rfl | (simp; done) | decide) ?_)
      rintro w5 hb5 k5 z5
      have zs_k5 := k5.size
      rw [show (css i).toArray.toList = css i from rfl, setAt_all (by rw [hcs]; rfl)] at hb5
      have e5 : Ext w2 w5 := e4.step k5 (by intro i hi he; dsimp only [NoK] at he ⊢; omega)
      have hr5 := tMs.keep (tMs.keep hr k1 (fun b _ hf => hF _ hf)) e5 (fun _ _ _ h => h)
      have HG5 : AgV tMs w5 F _ r := ⟨_, rfl, hr5⟩
      refine l_nil ?_
      refine n_then ?_
      refine c_seq ?_
      refine wp_reg (by decide +kernel) ?_
      refine l_v (v_move (t := .func _ _ _) rfl) ?_
      refine l_v (v_move (t := .int _ _) rfl) ?_
      refine l_v (v_loadA (n := 11) (by kernel_rfl) rfl ((hb5).pv) (tMs.len hr)) ?_
      refine l_to (to_f1 (by kernel_rfl) (show _ = (Value.agg _) from rfl) (CallsR.mono (clone_c HG5 (hmay r (List.mem_of_getElem? hx1'))) ?_))
      rintro x6 w6 ⟨⟨cs6, rfl, hr6⟩, e6⟩
      have zs_e6 := e6.size
      have e26 := e5.trans e6
      refine l_to (to_yield2 rfl (show _ = (Value.int _ _) from rfl) (show _ = (Value.agg _) from rfl) (YieldAt.mono (hY pre (i, cs6) w6 (hJ _ _ _ e26 hj) ⟨by rw [hn], by have := e26.size; omega, r, hx1', tMs.mono hr6 fun b _ hb => by have := e5.size; omega⟩) ?_))
      rintro en w7 ⟨v, rfl, hv⟩
      refine ⟨v, rfl, ?_⟩
      obtain ⟨bb, rfl, hb1, hb2'⟩ := yb hv
      refine l_v (v_not rfl) ?_
      refine l_nil ?_
      refine n_then ?_
      refine c_cond rfl rfl (fun hc2 => ?_) (fun hc2 => ?_)
      · skip
        refine c_ret ?_
        refine r_blk ?_
        refine r_then ?_
        refine r_then ?_
        refine r_blk ?_
        refine ret0 rfl ?_
        obtain rfl : bb = false := by cases bb <;> simp_all
        exact .inr ⟨_, trivial, hb2' rfl⟩
      · skip
        obtain rfl : bb = true := by cases bb <;> simp_all
        obtain ⟨hj7, k7⟩ := hb1 rfl
        refine c_skip ?_
        refine n_blk ?_
        refine n_then ?_
        refine wp_reg (by decide +kernel) ?_
        refine l_v (v_add rfl rfl (by first | exact wr_i64 (by omega) (by omega) | rfl)) ?_
        refine l_v (v_move (t := .int _ _) rfl) ?_
        refine l_nil ?_
        refine n_then ?_
        refine ⟨(i + 1, pre ++ [(i, cs6)]), _, rfl, by (repeat (first | exact Off.of_over _ _ _ | refine Off.upd ?_ (by decide) _ | refine Off.overs ?_ (by decide) _)), ⟨by first | rfl | exact congrArg (Value.int _) (by omega) | (simp; done), trivial⟩, ?_, ?_⟩
        · exact ⟨by dsimp only; omega, k1.trans ((Ext.keep e26).trans k7), by have := e26.size; have := k7.size; omega, hj7, by simp [hn]⟩
        · dsimp only; omega
    · skip
      refine c_exit ?_
      refine x_then ?_
      refine x_then ?_
      refine x_hit ?_
      refine end0 rfl ?_
      exact .inl ⟨_, by have := dfalse hlt; simp only at this; omega, hj⟩
end Go.Proofs.Ytaidpdjlchnonaa
