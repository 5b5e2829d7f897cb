/- A part of the proof: steps and lemmas for the walks through the given program. -/
import Derived.Test.YtkaangdfpjkjpaaR4
namespace Go.Proofs.Ytkaangdfpjkjpaa
open Go.Vc
set_option linter.unusedVariables false
set_option linter.unusedSimpArgs false
set_option maxRecDepth 100000

/-- slices.All over ranges -/
theorem allRg_stops {w0 : World} {b : Nat} {T : TypeId} {a : Option Addr} {c : Nat} {F K : Nat → Prop} {xs : List RgV} {css : Nat → List Value} (hmx : xs.length ≤ 9223372036854775807)
    (hcss : ∀ i x, xs[i]? = some x → ∃ q, a = some q ∧ F q.block ∧ q.block < w0.heap.size ∧ Pv w0 (q.add (i * tRg.sz)) (css i) ∧ tRg.rep w0 F (css i) x) (hb : Blk w0 b [.slice a xs.length c] T) (hKb : ¬ K b) (hKF : ∀ i, F i → ¬ K i) :
    SeqStopsK Fence.wide 1 Try.prog 101 #[.pointer (some ⟨b, 0, none⟩)] (fun x : Fin xs.length => ([.int .i64 (x.val : Int), .agg (css x.val).toArray] : List Value).toArray) (Keep K) (fun ys => ys = List.finRange xs.length) (fun pre => pre <+: List.finRange xs.length) xs.length w0 := by
  refine seq_mk (encs := fun x : Fin xs.length => [.int .i64 (x.val : Int), .agg (css x.val).toArray]) fun l J Jx W hx hJ hJx hY h0 => ?_
  refine CallsR.mono (R := fun _ W' => J (List.finRange xs.length) W' ∨ ∃ pre, pre <+: List.finRange xs.length ∧ Jx pre W') ?_ fun _ _ h => h
  show CallsR _ _ (#[.func (.yield l) #[] #[], .pointer (some ⟨b, 0, none⟩)]) W _
  refine enter 18 Try.func101 rfl rfl (by simp) ?_
  refine c_seq ?_
  refine wp_reg (by decide +kernel) ?_
  refine l_v (v_load (by kernel_rfl) rfl ((hb.ext hx).cell rfl)) ?_
  refine l_v (v_len (et := 37) (by kernel_rfl) rfl) ?_
  refine l_v (v_move rfl) ?_
  refine l_nil ?_
  refine n_then ?_
  refine c_block ?_
  refine c_loop (τ := Nat) [3, 4, 7, 8, 9, 10, 11, 12, 13, 14, 15, 16, 17] (fun i => [(7, .int .i64 i)]) (fun i w => i ≤ xs.length ∧ Keep K w0 w ∧ J ((List.finRange xs.length).take i) w) (fun i => xs.length - i) 0 (by exact ⟨rfl, trivial⟩) (by exact ⟨Nat.zero_le _, hx.keep, by rw [List.take_zero]; exact h0⟩) ?_
  rintro i w1 j ⟨h1, k1, hj⟩
  refine c_seq ?_
  refine wp_reg (by decide +kernel) ?_
  refine l_v (v_lss rfl rfl) ?_
  refine l_nil ?_
  refine n_then ?_
  refine c_seq ?_
  refine c_cond rfl rfl (fun hlt => ?_) (fun hlt => ?_)
  · skip
    have hlt : i < xs.length := by have := dtrue hlt; omega
    obtain ⟨x, hx1, _⟩ := getE hlt
    obtain ⟨q, rfl, hF, hql, hp, hr⟩ := hcss i x hx1
    obtain ⟨a1, c1, a2, c2, hcs, _, _, _⟩ := tRg_cells hr
    refine c_skip ?_
    refine n_then ?_
    refine c_seq ?_
    refine c_block ?_
    refine c_seq ?_
    refine wp_reg (by decide +kernel) ?_
    refine l_v (v_move (t := .int _ _) rfl) ?_
    refine l_v (v_indexAddr (et := 37) (sz := 4) (k := i) (by kernel_rfl) (by kernel_rfl) rfl rfl (by first | rfl | omega) (hlt)) ?_
    refine l_v (v_loadA (n := 4) (by kernel_rfl) rfl (hp.keep k1 (by rw [add_block]; exact hKF _ hF)) (tRg.len hr)) ?_
    refine l_to (to_alloc (z := (.agg #[.slice none 0 0, .slice none 0 0, .bool false, .int .i64 0])) (by unfold kZero; kernel_rfl) ?_)
    rintro b2 w2 zb2 hb2 e2 z2
    have zs_e2 := e2.size
    refine l_v (v_assign (t := .int _ _) rfl) ?_
    refine l_to (to_storeA (n := 4) rfl rfl (show _ = (Value.agg _) from rfl) (by kernel_rfl) (tRg.len hr) (tRg.one hr) hb2 (by first | exact of_decide_eq_true rfl | (simp; done) | decide) ?_)
    rintro w3 hb3 k3 z3
    have zs_k3 := k3.size
    rw [show (css i).toArray.toList = css i from rfl, setAt_all (by rw [hcs]; rfl)] at hb3
    have e3 : Ext w1 w3 := e2.step k3 (by intro i hi he; dsimp only [NoK] at he ⊢; omega)
    refine l_nil ?_
    refine n_then ?_
    refine c_seq ?_
    refine wp_reg (by decide +kernel) ?_
    refine l_v (v_move (t := .func _ _ _) rfl) ?_
    refine l_v (v_move (t := .int _ _) rfl) ?_
    refine l_v (v_loadA (n := 4) (by kernel_rfl) rfl (hb3.pv) (tRg.len hr)) ?_
    refine l_to (to_yield2 rfl (show _ = (Value.int _ _) from rfl) (show _ = (Value.agg _) from rfl) (YieldAt.mono (hY ((List.finRange xs.length).take i) ⟨i, hlt⟩ w3 (hJ _ _ _ e3 hj) (by simp; omega)) ?_))
    rintro en w4 ⟨v, rfl, hv⟩
    refine ⟨v, rfl, ?_⟩
    obtain ⟨bb, rfl, hb1, hb2⟩ := yb hv
    refine l_v (v_not rfl) ?_
    refine l_nil ?_
    refine n_then ?_
    refine c_cond rfl rfl (fun hc => ?_) (fun hc => ?_)
    · skip
      refine c_ret ?_
      refine r_blk ?_
      refine r_then ?_
      refine r_then ?_
      refine r_blk ?_
      refine ret0 rfl ?_
      obtain rfl : bb = false := by cases bb <;> simp_all
      exact .inr ⟨_, by rw [← finRange_take hlt]; exact List.take_prefix _ _, hb2 rfl⟩
    · skip
      obtain rfl : bb = true := by cases bb <;> simp_all
      obtain ⟨hj4, k4⟩ := hb1 rfl
      refine c_skip ?_
      refine n_blk ?_
      refine n_then ?_
      refine wp_reg (by decide +kernel) ?_
      refine l_v (v_add rfl rfl (by first | exact wr_i64 (by omega) (by omega) | rfl)) ?_
      refine l_v (v_move (t := .int _ _) rfl) ?_
      refine l_nil ?_
      refine n_then ?_
      refine ⟨i + 1, _, rfl, by (repeat (first | exact Off.of_over _ _ _ | refine Off.upd ?_ (by decide) _)), ⟨by first | rfl | exact congrArg (Value.int _) (by omega) | (simp; done), trivial⟩, ?_, ?_⟩
      · exact ⟨by omega, k1.trans ((Ext.keep e3).trans k4), by rw [finRange_take hlt]; exact hj4⟩
      · dsimp only; omega
  · skip
    refine c_exit ?_
    refine x_then ?_
    refine x_then ?_
    refine x_hit ?_
    refine end0 rfl ?_
    exact .inl (by rw [finRange_all (by have := dfalse hlt; omega)] at hj; exact hj)
end Go.Proofs.Ytkaangdfpjkjpaa
