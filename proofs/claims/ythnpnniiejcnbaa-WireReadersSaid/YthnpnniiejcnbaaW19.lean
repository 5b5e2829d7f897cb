/- A part of the proof: steps and lemmas for the walks through the given program. -/
import Derived.Test.YthnpnniiejcnbaaW18
namespace Go.Proofs.Ythnpnniiejcnbaa
open Go.Vc
set_option linter.unusedVariables false
set_option linter.unusedSimpArgs false
set_option maxRecDepth 100000

theorem putI_c {w : World} {v : Value} {F : Nat → Prop} {xs : List (Int)} {fr : Nat} {cap : Array Value} (hv : SlV (tInt .i64) w F v xs) (hb : kBody Try.prog fr = true) (sp : Int → List UInt8)
    (hform : ∀ (w1 : World) (cs : List Value) (x : Int), Ext w w1 → (tInt .i64).rep w1 F cs x → x ∈ xs → CallsR Try.prog fr (#[.int .i64 x] ++ cap) w1 (fun r w2 => OwV tU8 nU8 w2 w1.heap.size NoK r (sp x) ∧ Ext w1 w2))
    (hl : (wList sp xs).length ≤ 140737488355300) (hn : xs.length ≤ 5000000000000) :
    CallsR Try.prog 37 #[v, .func (.func fr) #[] cap] w (fun r w' => ∃ q c, r = .tuple #[.slice (some q) (wList sp xs).length c, .int .i64 0] ∧ OwV tU8 nU8 w' w.heap.size NoK (.slice (some q) (wList sp xs).length c) (wList sp xs) ∧ Ext w w') := by
  obtain ⟨a, c, rfl⟩ := hv.shape
  obtain ⟨w0, rfl⟩ : ∃ x, x = w := ⟨w, rfl⟩
  refine enter 32 Try.func37 rfl rfl (by simp) ?_
  refine c_seq ?_
  refine wp_reg (by decide +kernel) ?_
  refine l_v (v_assign rfl) ?_
  refine l_v (v_assign rfl) ?_
  refine l_nil ?_
  refine n_then ?_
  refine c_seq ?_
  refine c_seq ?_
  refine wp_reg (by decide +kernel) ?_
  refine l_v (v_move (t := .func _ _ _) rfl) ?_
  refine l_v (v_feqlnil (ps := #[3]) (rs := #[22]) (v := false) (by kernel_rfl) rfl rfl) ?_
  refine l_nil ?_
  refine n_then ?_
  refine c_cond rfl rfl (fun hc => ?_) (fun hc => ?_)
  · skip
    cases hc
  · skip
    refine wp_skip ?_
    refine n_then ?_
    refine c_seq ?_
    refine wp_reg (by decide +kernel) ?_
    refine l_v (v_move (t := .slice _ _ _) rfl) ?_
    refine l_v (v_len (et := 3) (by kernel_rfl) rfl) ?_
    refine l_v (v_conv (ds := .int .i64) (by kernel_rfl) (by kernel_rfl) rfl (by first | exact wr_u64 (by omega) (by omega) | rfl)) ?_
    refine l_to (to_f1 (by kernel_rfl) (show _ = (Value.int _ _) from rfl) (CallsR.mono (Number_c (n := xs.length) (by omega)) ?_))
    rintro _ w1 ⟨o1, ⟨q1, c1, rfl⟩, e1⟩
    have zs_e1 := e1.size
    refine l_to (to_slice1 (t := tSl tU8) (et := 22) (bytes := 24) (by kernel_rfl) (by decide) (show _ = (Value.slice _ _ _) from rfl) ((show (tSl tU8).rep _ _ [_] _ from ⟨_, rfl, o1.view⟩)) ?_)
    rintro b2 w2 rfl o2 e2 z2
    have zs_e2 := e2.size
    refine l_v (v_assign (t := .slice _ _ _) rfl) ?_
    refine l_nil ?_
    refine n_then ?_
    refine c_seq ?_
    refine c_seq ?_
    refine wp_reg (by decide +kernel) ?_
    refine l_v (v_move (t := .slice _ _ _) rfl) ?_
    refine l_v (v_len (et := 3) (by kernel_rfl) rfl) ?_
    refine l_v (v_move rfl) ?_
    refine l_nil ?_
    refine n_then ?_
    refine wp_block ?_
    refine c_loop (τ := Option Addr × Nat × Nat) [6, 7, 17, 18, 19, 20, 21, 22, 23, 24, 25, 26, 27, 28, 29] (fun (a1, c1, k) => [(6, .slice a1 (k + 1) c1), (17, .int .i64 k)]) (fun (a1, c1, k) w => OwV (tSl tU8) nSl w w0.heap.size (fun b => w0.heap.size ≤ b) (.slice a1 (k + 1) c1) (wNum xs.length :: (xs.take k).map sp) ∧ Ext w0 w ∧ k ≤ xs.length) (fun (a1, c1, k) => xs.length - k) (some ⟨w1.heap.size, 0, none⟩, 1, 0) (by exact ⟨rfl, rfl, trivial⟩) (by exact ⟨(o2.base (by omega)).mono (fun b _ h => by rcases h.1 with h | h; exact h; exact h.elim), e1.trans e2, Nat.zero_le _⟩) ?_
    rintro ⟨a1, c1, k⟩ w3 j ⟨o3, e3, h3⟩
    refine c_seq ?_
    refine wp_reg (by decide +kernel) ?_
    refine l_v (v_lss rfl rfl) ?_
    refine l_nil ?_
    refine n_then ?_
    refine c_seq ?_
    refine c_cond rfl rfl (fun hc2 => ?_) (fun hc2 => ?_)
    · skip
      have hc2 := dtrue hc2
      have zs_e3 := e3.size
      obtain ⟨x, hx⟩ : ∃ x, xs[k]? = some x := ⟨xs[k]'(by omega), by simp [show k < xs.length by omega]⟩
      have hlk : (wNum xs.length :: (xs.take k).map sp).length = k + 1 := by simp; omega
      refine wp_skip ?_
      refine n_then ?_
      refine c_seq ?_
      refine wp_block ?_
      refine c_seq ?_
      refine wp_reg (by decide +kernel) ?_
      refine l_v (v_move (t := .int _ _) rfl) ?_
      refine l_v (v_assign (t := .int _ _) rfl) ?_
      refine l_nil ?_
      refine n_then ?_
      refine wp_reg (by decide +kernel) ?_
      refine l_v (v_move (t := .slice _ _ _) rfl) ?_
      refine l_v (v_move (t := .func _ _ _) rfl) ?_
      refine l_v (v_move (t := .slice _ _ _) rfl) ?_
      refine l_v (v_move (t := .int _ _) rfl) ?_
      refine l_to (to_index (et := 3) (by kernel_rfl) (by kernel_rfl) (show _ = (Value.slice _ _ _) from rfl) (hv.ext e3) (show _ = (Value.int _ _) from rfl) rfl hx ?_)
      rintro q cs hF hp hr
      have hr' := hr; obtain ⟨rfl, hwf⟩ := hr'
      refine l_v (v_load (by kernel_rfl) rfl (pv_1 hp)) ?_
      refine l_to (to_call1 hb rfl (show _ = (Value.int _ _) from rfl) (CallsR.mono ((hform w3 _ x e3 hr (List.mem_of_getElem? hx))) ?_))
      rintro _ w4 ⟨o4, e4⟩
      have zs_e4 := e4.size
      obtain ⟨a4, c4, rfl⟩ := o4.shape
      refine l_to (to_slice1 (t := tSl tU8) (et := 22) (bytes := 24) (by kernel_rfl) (by decide) (show _ = (Value.slice _ _ _) from rfl) ((show (tSl tU8).rep _ _ [_] _ from ⟨_, rfl, o4.view⟩)) ?_)
      rintro b5 w5 rfl o5 e5 z5
      have zs_e5 := e5.size
      refine l_to (to_append (et := 22) (bytes := 24) (by kernel_rfl) (show _ = (Value.slice _ _ _) from rfl) (o3.ext (e4.trans e5)) (show _ = (Value.slice _ _ _) from rfl) o5.view ((OwV_sep o3 (by intro b hb; simp only [NoK, or_false] at hb; omega) (by omega))) (by first | omega | (simp; done) | (simp; omega)) (by simp only [maxLen]; first | omega | (simp; done) | (simp; omega)) (by omega) ?_)
      rintro a6 n6 c6 w6 o6 hn6 k6 b6 i6
      have zs_k6 := k6.size
      have hlk2 : ((wNum xs.length :: (xs.take k).map sp) ++ [sp x]).length = k + 1 + 1 := by simp; omega
      rw [hlk2] at hn6
      subst hn6
      have e6 : Ext w0 w6 := ((e3.trans e4).trans e5).step k6 fun b hb h => by have := (o3.own_lt h).1; omega
      have htk : (xs.take (k + 1)).map sp = (xs.take k).map sp ++ [sp x] := by rw [List.take_add_one, hx]; simp
      refine l_v (v_assign (t := .slice _ _ _) rfl) ?_
      refine l_nil ?_
      refine n_blk ?_
      refine n_then ?_
      refine wp_reg (by decide +kernel) ?_
      refine l_v (v_add rfl rfl (by first | exact wr_i64 (by omega) (by omega) | rfl)) ?_
      refine l_v (v_move (t := .int _ _) rfl) ?_
      refine l_nil ?_
      refine n_then ?_
      refine ⟨(a6, c6, k + 1), _, rfl, by (repeat (first | exact Off.of_over _ _ _ | refine Off.upd ?_ (by decide) _)), ⟨by first | rfl | exact congrArg (Value.int _) (by omega) | (simp; done), by first | rfl | exact congrArg (Value.int _) (by omega) | (simp; done), trivial⟩, ?_, ?_⟩
      · exact ⟨by rw [htk]; exact o6, e6, by omega⟩
      · dsimp only; omega
    · skip
      have hc2 := dfalse hc2
      obtain rfl : k = xs.length := by omega
      rw [List.take_length] at o3
      have zs_e3 := e3.size
      refine wp_exit ?_
      refine x_then ?_
      refine x_then ?_
      refine x_hit ?_
      refine n_then ?_
      refine c_seq ?_
      refine wp_reg (by decide +kernel) ?_
      refine l_v (v_move (t := .slice _ _ _) rfl) ?_
      refine l_to (to_f1 (by kernel_rfl) (show _ = (Value.slice _ _ _) from rfl) (CallsR.mono (Join_c o3.view (by simpa [wList] using hl)) ?_))
      rintro _ w4 ⟨o4, ⟨q4, c4, rfl⟩, e4⟩
      have zs_e4 := e4.size
      refine l_v (v_assign (t := .slice _ _ _) rfl) ?_
      refine l_v (v_assign rfl) ?_
      refine l_nil ?_
      refine n_then ?_
      refine wp_ret ?_
      refine ret2 rfl (by decide) (by decide) ?_
      have hfl : (wNum xs.length :: xs.map sp).flatten = wList sp xs := by simp [wList]
      rw [hfl] at o4 ⊢
      exact ⟨q4, c4, rfl, o4.base (by omega), e3.trans e4⟩


/-- no reader: nil, or one that no Open made -/
def Cl (w : World) (p : Option Addr) : Prop := p = none ∨ ∃ b, p = some ⟨b, 0, none⟩ ∧ Blk w b [.slice none 0 0] nRd
theorem Cl.ext {w w' : World} {p : Option Addr} (h : Cl w p) (e : Ext w w') : Cl w' p := by
  rcases h with h | ⟨b, h, hb⟩
  · exact .inl h
  · exact .inr ⟨b, h, hb.ext e⟩
theorem closedN_c {w : World} {p : Option Addr} (h : Cl w p) : CallsR Try.prog 44 #[.pointer p] w (fun r w' => r = .bool true ∧ Ext w w') := by
  rcases h with rfl | ⟨b, rfl, hb⟩
  · skip
    refine enter 12 Try.func44 rfl rfl (by simp) ?_
    refine c_seq ?_
    refine wp_reg (by decide +kernel) ?_
    refine l_v (v_assign rfl) ?_
    refine l_nil ?_
    refine n_then ?_
    refine c_seq ?_
    refine wp_reg (by decide +kernel) ?_
    refine l_v (v_move (t := .pointer _) rfl) ?_
    refine l_v (OpVat.as (b := true) (v_peql (et := 71) (by kernel_rfl) rfl rfl) (by first | rfl | (simp; done) | (simp; omega))) ?_
    refine l_v (v_move (t := .bool _) rfl) ?_
    refine l_skip (u := .bool true) rfl rfl rfl ?_
    refine l_skip (u := .bool true) rfl rfl rfl ?_
    refine l_skip (u := .bool true) rfl rfl rfl ?_
    refine l_skip (u := .bool true) rfl rfl rfl ?_
    refine l_skip (u := .bool true) rfl rfl rfl ?_
    refine l_v (v_orC rfl) ?_
    refine l_v (v_assign (t := .bool _) rfl) ?_
    refine l_nil ?_
    refine n_then ?_
    refine wp_ret ?_
    refine ret1 rfl (by decide) ?_
    exact ⟨rfl, Keep.refl _⟩
  · skip
    refine enter 12 Try.func44 rfl rfl (by simp) ?_
    refine c_seq ?_
    refine wp_reg (by decide +kernel) ?_
    refine l_v (v_assign rfl) ?_
    refine l_nil ?_
    refine n_then ?_
    refine c_seq ?_
    refine wp_reg (by decide +kernel) ?_
    refine l_v (v_move (t := .pointer _) rfl) ?_
    refine l_v (OpVat.as (b := false) (v_peql (et := 71) (by kernel_rfl) rfl rfl) (by first | rfl | (simp; done) | (simp; omega))) ?_
    refine l_v (v_move (t := .bool _) rfl) ?_
    refine l_gt rfl rfl (OpTo.of_v (v_move (t := .pointer _) rfl) ?_)
    refine l_gt rfl rfl (OpTo.of_v (v_nilCheck rfl) ?_)
    refine l_gt rfl rfl (OpTo.of_v (v_fieldAddr (off := 0) (ft := 22) (by kernel_rfl) rfl) ?_)
    refine l_gt rfl rfl (OpTo.of_v (v_load (by kernel_rfl) rfl (hb.pv 0 _ rfl)) ?_)
    refine l_gt rfl rfl (OpTo.of_v (OpVat.as (b := true) (v_sleneq (et := 5) (by kernel_rfl) rfl rfl) (by first | rfl | (simp; done) | (simp; omega))) ?_)
    refine l_v (v_orT rfl rfl) ?_
    refine l_v (v_assign (t := .bool _) rfl) ?_
    refine l_nil ?_
    refine n_then ?_
    refine wp_ret ?_
    refine ret1 rfl (by decide) ?_
    exact ⟨rfl, Keep.refl _⟩
theorem NumberN_c {w : World} {p : Option Addr} (h : Cl w p) : CallsR Try.prog 15 #[.pointer p] w (fun r w' => r = .tuple #[.int .u64 0, .int .i64 1] ∧ Ext w w') := by
  refine enter 28 Try.func15 rfl rfl (by simp) ?_
  refine c_seq ?_
  refine wp_reg (by decide +kernel) ?_
  refine l_v (v_assign rfl) ?_
  refine l_v (v_assign rfl) ?_
  refine l_nil ?_
  refine n_then ?_
  refine c_seq ?_
  refine c_seq ?_
  refine wp_reg (by decide +kernel) ?_
  refine l_v (v_move (t := .pointer _) rfl) ?_
  refine l_to (to_f1 (by kernel_rfl) (show _ = (Value.pointer _) from rfl) (CallsR.mono (closedN_c h) ?_))
  rintro _ w1 ⟨rfl, e1⟩
  have zs_e1 := e1.size
  refine l_nil ?_
  refine n_then ?_
  refine c_cond rfl rfl (fun hc => ?_) (fun hc => ?_)
  · skip
    refine c_seq ?_
    refine wp_reg (by decide +kernel) ?_
    refine l_v (v_assign rfl) ?_
    refine l_v (v_assign rfl) ?_
    refine l_nil ?_
    refine n_then ?_
    refine wp_ret ?_
    refine r_then ?_
    refine ret2 rfl (by decide) (by decide) ?_
    exact ⟨rfl, e1⟩
  · skip
    cases hc
theorem SignedN_c {w : World} {p : Option Addr} (h : Cl w p) : CallsR Try.prog 14 #[.pointer p] w (fun r w' => r = .tuple #[.int .i64 0, .int .i64 1] ∧ Ext w w') := by
  refine enter 23 Try.func14 rfl rfl (by simp) ?_
  refine c_seq ?_
  refine wp_reg (by decide +kernel) ?_
  refine l_v (v_assign rfl) ?_
  refine l_v (v_assign rfl) ?_
  refine l_nil ?_
  refine n_then ?_
  refine c_seq ?_
  refine wp_reg (by decide +kernel) ?_
  refine l_v (v_move (t := .pointer _) rfl) ?_
  refine l_to (to_f1 (by kernel_rfl) (show _ = (Value.pointer _) from rfl) (CallsR.mono (NumberN_c h) ?_))
  rintro _ w1 ⟨rfl, e1⟩
  have zs_e1 := e1.size
  refine l_v (v_move (t := .tuple _) rfl) ?_
  refine l_v (v_extract (t := .int _ _) rfl rfl) ?_
  refine l_v (v_extract (t := .int _ _) rfl rfl) ?_
  refine l_v (v_assign (t := .int _ _) rfl) ?_
  refine l_v (v_assign (t := .int _ _) rfl) ?_
  refine l_nil ?_
  refine n_then ?_
  refine c_seq ?_
  refine wp_reg (by decide +kernel) ?_
  refine l_v (v_move (t := .int _ _) rfl) ?_
  refine l_v (v_quo rfl rfl (by decide) (by first | exact qu_u64 (by omega) (by omega) (by decide) | rfl)) ?_
  refine l_v (v_conv (ds := .int .u64) (by kernel_rfl) (by kernel_rfl) rfl (by first | exact wr_i64 (by omega) (by omega) | rfl)) ?_
  refine l_v (v_assign (t := .int _ _) rfl) ?_
  refine l_nil ?_
  refine n_then ?_
  refine c_seq ?_
  refine c_seq ?_
  refine wp_reg (by decide +kernel) ?_
  refine l_v (v_move (t := .int _ _) rfl) ?_
  refine l_v (v_rem rfl rfl (by decide) (by first | exact tm_nn (by omega) | rfl)) ?_
  refine l_v (v_eql rfl rfl) ?_
  refine l_nil ?_
  refine n_then ?_
  refine c_cond rfl rfl (fun hc => ?_) (fun hc => ?_)
  · skip
    simp at hc
  · skip
    refine wp_skip ?_
    refine n_then ?_
    refine c_seq ?_
    refine wp_reg (by decide +kernel) ?_
    refine l_v (v_move (t := .int _ _) rfl) ?_
    refine l_v (v_move (t := .int _ _) rfl) ?_
    refine l_v (v_assign (t := .int _ _) rfl) ?_
    refine l_v (v_assign (t := .int _ _) rfl) ?_
    refine l_nil ?_
    refine n_then ?_
    refine wp_ret ?_
    refine ret2 rfl (by decide) (by decide) ?_
    exact ⟨rfl, e1⟩
theorem FlagN_c {w : World} {p : Option Addr} (h : Cl w p) : CallsR Try.prog 40 #[.pointer p] w (fun r w' => r = .tuple #[.bool false, .int .i64 1] ∧ Ext w w') := by
  refine enter 38 Try.func40 rfl rfl (by simp) ?_
  refine c_seq ?_
  refine wp_reg (by decide +kernel) ?_
  refine l_v (v_assign rfl) ?_
  refine l_v (v_assign rfl) ?_
  refine l_nil ?_
  refine n_then ?_
  refine c_seq ?_
  refine c_seq ?_
  refine wp_reg (by decide +kernel) ?_
  refine l_v (v_move (t := .pointer _) rfl) ?_
  refine l_to (to_f1 (by kernel_rfl) (show _ = (Value.pointer _) from rfl) (CallsR.mono (closedN_c h) ?_))
  rintro _ w1 ⟨rfl, e1⟩
  have zs_e1 := e1.size
  refine l_nil ?_
  refine n_then ?_
  refine c_cond rfl rfl (fun hc => ?_) (fun hc => ?_)
  · skip
    refine c_seq ?_
    refine wp_reg (by decide +kernel) ?_
    refine l_v (v_assign rfl) ?_
    refine l_v (v_assign rfl) ?_
    refine l_nil ?_
    refine n_then ?_
    refine wp_ret ?_
    refine r_then ?_
    refine ret2 rfl (by decide) (by decide) ?_
    exact ⟨rfl, e1⟩
  · skip
    cases hc
theorem EndN_c {w : World} {p : Option Addr} (h : Cl w p) : CallsR Try.prog 17 #[.pointer p] w (fun r w' => r = .int .i64 1 ∧ Ext w w') := by
  refine enter 11 Try.func17 rfl rfl (by simp) ?_
  refine c_seq ?_
  refine wp_reg (by decide +kernel) ?_
  refine l_v (v_assign rfl) ?_
  refine l_nil ?_
  refine n_then ?_
  refine c_seq ?_
  refine c_seq ?_
  refine wp_reg (by decide +kernel) ?_
  refine l_v (v_move (t := .pointer _) rfl) ?_
  refine l_to (to_f1 (by kernel_rfl) (show _ = (Value.pointer _) from rfl) (CallsR.mono (closedN_c h) ?_))
  rintro _ w1 ⟨rfl, e1⟩
  have zs_e1 := e1.size
  refine l_nil ?_
  refine n_then ?_
  refine c_cond rfl rfl (fun hc => ?_) (fun hc => ?_)
  · skip
    refine c_seq ?_
    refine wp_reg (by decide +kernel) ?_
    refine l_v (v_assign rfl) ?_
    refine l_nil ?_
    refine n_then ?_
    refine wp_ret ?_
    refine r_then ?_
    refine ret1 rfl (by decide) ?_
    exact ⟨rfl, e1⟩
  · skip
    cases hc
theorem LeftN_c {w : World} {p : Option Addr} (h : Cl w p) : CallsR Try.prog 22 #[.pointer p] w (fun r w' => r = .int .i64 0 ∧ Ext w w') := by
  refine enter 10 Try.func22 rfl rfl (by simp) ?_
  refine c_seq ?_
  refine wp_reg (by decide +kernel) ?_
  refine l_v (v_assign rfl) ?_
  refine l_nil ?_
  refine n_then ?_
  refine c_seq ?_
  refine c_seq ?_
  refine wp_reg (by decide +kernel) ?_
  refine l_v (v_move (t := .pointer _) rfl) ?_
  refine l_to (to_f1 (by kernel_rfl) (show _ = (Value.pointer _) from rfl) (CallsR.mono (closedN_c h) ?_))
  rintro _ w1 ⟨rfl, e1⟩
  have zs_e1 := e1.size
  refine l_nil ?_
  refine n_then ?_
  refine c_cond rfl rfl (fun hc => ?_) (fun hc => ?_)
  · skip
    refine c_seq ?_
    refine wp_reg (by decide +kernel) ?_
    refine l_v (v_assign rfl) ?_
    refine l_nil ?_
    refine n_then ?_
    refine wp_ret ?_
    refine r_then ?_
    refine ret1 rfl (by decide) ?_
    exact ⟨rfl, e1⟩
  · skip
    cases hc
theorem tryCB_c {w : World} {p : Option Addr} {most : Int} {fv : Value} (h : Cl w p) : CallsR Try.prog 55 #[.pointer p, .int .i64 most, fv] w (fun r w' => r = .tuple #[.slice none 0 0, .int .i64 1] ∧ Ext w w') := by
  refine enter 56 Try.func55 rfl rfl (by simp) ?_
  refine c_seq ?_
  refine wp_reg (by decide +kernel) ?_
  refine l_v (v_assign rfl) ?_
  refine l_v (v_assign rfl) ?_
  refine l_nil ?_
  refine n_then ?_
  refine c_seq ?_
  refine wp_reg (by decide +kernel) ?_
  refine l_v (v_assign rfl) ?_
  refine l_nil ?_
  refine n_then ?_
  refine c_seq ?_
  refine c_seq ?_
  refine wp_reg (by decide +kernel) ?_
  refine l_v (v_move (t := .pointer _) rfl) ?_
  refine l_to (to_f1 (by kernel_rfl) (show _ = (Value.pointer _) from rfl) (CallsR.mono (closedN_c h) ?_))
  rintro _ w1 ⟨rfl, e1⟩
  have zs_e1 := e1.size
  refine l_nil ?_
  refine n_then ?_
  refine c_cond rfl rfl (fun hc => ?_) (fun hc => ?_)
  · skip
    refine c_seq ?_
    refine wp_reg (by decide +kernel) ?_
    refine l_v (v_move (t := .slice _ _ _) rfl) ?_
    refine l_v (v_assign (t := .slice _ _ _) rfl) ?_
    refine l_v (v_assign rfl) ?_
    refine l_nil ?_
    refine n_then ?_
    refine wp_ret ?_
    refine r_then ?_
    refine ret2 rfl (by decide) (by decide) ?_
    exact ⟨rfl, e1⟩
  · skip
    cases hc
theorem tryCP_c {w : World} {p : Option Addr} {most : Int} {fv : Value} (h : Cl w p) : CallsR Try.prog 53 #[.pointer p, .int .i64 most, fv] w (fun r w' => r = .tuple #[.slice none 0 0, .int .i64 1] ∧ Ext w w') := by
  refine enter 56 Try.func53 rfl rfl (by simp) ?_
  refine c_seq ?_
  refine wp_reg (by decide +kernel) ?_
  refine l_v (v_assign rfl) ?_
  refine l_v (v_assign rfl) ?_
  refine l_nil ?_
  refine n_then ?_
  refine c_seq ?_
  refine wp_reg (by decide +kernel) ?_
  refine l_v (v_assign rfl) ?_
  refine l_nil ?_
  refine n_then ?_
  refine c_seq ?_
  refine c_seq ?_
  refine wp_reg (by decide +kernel) ?_
  refine l_v (v_move (t := .pointer _) rfl) ?_
  refine l_to (to_f1 (by kernel_rfl) (show _ = (Value.pointer _) from rfl) (CallsR.mono (closedN_c h) ?_))
  rintro _ w1 ⟨rfl, e1⟩
  have zs_e1 := e1.size
  refine l_nil ?_
  refine n_then ?_
  refine c_cond rfl rfl (fun hc => ?_) (fun hc => ?_)
  · skip
    refine c_seq ?_
    refine wp_reg (by decide +kernel) ?_
    refine l_v (v_move (t := .slice _ _ _) rfl) ?_
    refine l_v (v_assign (t := .slice _ _ _) rfl) ?_
    refine l_v (v_assign rfl) ?_
    refine l_nil ?_
    refine n_then ?_
    refine wp_ret ?_
    refine r_then ?_
    refine ret2 rfl (by decide) (by decide) ?_
    exact ⟨rfl, e1⟩
  · skip
    cases hc
theorem BytesN_c {w : World} {p : Option Addr} {most : Int} (h : Cl w p) : CallsR Try.prog 33 #[.pointer p, .int .i64 most] w (fun r w' => r = .tuple #[.slice none 0 0, .int .i64 1] ∧ Ext w w') := by
  refine enter 11 Try.func33 rfl rfl (by simp) ?_
  refine c_seq ?_
  refine wp_reg (by decide +kernel) ?_
  refine l_v (v_assign rfl) ?_
  refine l_v (v_assign rfl) ?_
  refine l_nil ?_
  refine n_then ?_
  refine c_seq ?_
  refine wp_reg (by decide +kernel) ?_
  refine l_v (v_move (t := .pointer _) rfl) ?_
  refine l_v (v_move (t := .int _ _) rfl) ?_
  refine l_to (to_f3 (by kernel_rfl) (show _ = (Value.pointer _) from rfl) (show _ = (Value.int _ _) from rfl) rfl (CallsR.mono (tryCB_c h) ?_))
  rintro _ w1 ⟨rfl, e1⟩
  have zs_e1 := e1.size
  refine l_v (v_extract (t := .slice _ _ _) rfl rfl) ?_
  refine l_v (v_extract (t := .int _ _) rfl rfl) ?_
  refine l_v (v_assign (t := .slice _ _ _) rfl) ?_
  refine l_v (v_assign (t := .int _ _) rfl) ?_
  refine l_nil ?_
  refine n_then ?_
  refine wp_ret ?_
  refine ret2 rfl (by decide) (by decide) ?_
  exact ⟨rfl, e1⟩
theorem takeCP_c {w : World} {p : Option Addr} {most : Int} {fr : Nat} {cap : Array Value} (h : Cl w p) : CallsR Try.prog 31 #[.pointer p, .int .i64 most, .func (.func fr) #[] cap] w (fun r w' => r = .tuple #[.slice none 0 0, .int .i64 1] ∧ Ext w w') := by
  refine enter 16 Try.func31 rfl rfl (by simp) ?_
  refine c_seq ?_
  refine wp_reg (by decide +kernel) ?_
  refine l_to (to_box (show _ = (Value.func _ _ _) from rfl) ?_)
  rintro b1 w1 rfl hb1 e1 z1
  have zs_e1 := e1.size
  refine l_v (v_assign rfl) ?_
  refine l_v (v_assign rfl) ?_
  refine l_nil ?_
  refine n_then ?_
  refine c_seq ?_
  refine c_seq ?_
  refine wp_reg (by decide +kernel) ?_
  refine l_v (v_load (by kernel_rfl) rfl (hb1.pv 0 _ rfl)) ?_
  refine l_v (v_feqlnil (ps := #[24]) (rs := #[56, 26]) (v := false) (by kernel_rfl) rfl rfl) ?_
  refine l_nil ?_
  refine n_then ?_
  refine c_cond rfl rfl (fun hc => ?_) (fun hc => ?_)
  · skip
    cases hc
  · skip
    refine wp_skip ?_
    refine n_then ?_
    refine c_seq ?_
    refine wp_reg (by decide +kernel) ?_
    refine l_v (v_move (t := .pointer _) rfl) ?_
    refine l_v (v_move (t := .int _ _) rfl) ?_
    refine l_v (v_makeFunc (by simp [ev]; rfl) (by simp [ev]; rfl)) ?_
    refine l_to (to_f3 (by kernel_rfl) (show _ = (Value.pointer _) from rfl) (show _ = (Value.int _ _) from rfl) (show _ = (Value.func _ _ _) from rfl) (CallsR.mono (tryCP_c (h.ext e1)) ?_))
    rintro _ w2 ⟨rfl, e2⟩
    have zs_e2 := e2.size
    refine l_v (v_extract (t := .slice _ _ _) rfl rfl) ?_
    refine l_v (v_extract (t := .int _ _) rfl rfl) ?_
    refine l_v (v_assign (t := .slice _ _ _) rfl) ?_
    refine l_v (v_assign (t := .int _ _) rfl) ?_
    refine l_nil ?_
    refine n_then ?_
    refine wp_ret ?_
    refine ret2 rfl (by decide) (by decide) ?_
    exact ⟨rfl, e1.trans e2⟩
theorem takeNI_c {w : World} {p : Option Addr} {most : Int} : CallsR Try.prog 39 #[.pointer p, .int .i64 most, .nilFunc] w (fun r w' => r = .tuple #[.slice none 0 0, .int .i64 1] ∧ Ext w w') := by
  refine enter 16 Try.func39 rfl rfl (by simp) ?_
  refine c_seq ?_
  refine wp_reg (by decide +kernel) ?_
  refine l_to (to_box rfl ?_)
  rintro b1 w1 rfl hb1 e1 z1
  have zs_e1 := e1.size
  refine l_v (v_assign rfl) ?_
  refine l_v (v_assign rfl) ?_
  refine l_nil ?_
  refine n_then ?_
  refine c_seq ?_
  refine c_seq ?_
  refine wp_reg (by decide +kernel) ?_
  refine l_v (v_load (by kernel_rfl) rfl (hb1.pv 0 _ rfl)) ?_
  refine l_v (v_nfeqlnil (ps := #[24]) (rs := #[3, 26]) (v := false) (by kernel_rfl) rfl rfl) ?_
  refine l_nil ?_
  refine n_then ?_
  refine c_cond rfl rfl (fun hc => ?_) (fun hc => ?_)
  · skip
    refine c_seq ?_
    refine wp_reg (by decide +kernel) ?_
    refine l_v (v_assign rfl) ?_
    refine l_v (v_assign rfl) ?_
    refine l_nil ?_
    refine n_then ?_
    refine wp_ret ?_
    refine r_then ?_
    refine ret2 rfl (by decide) (by decide) ?_
    exact ⟨rfl, e1⟩
  · skip
    cases hc
theorem putNI_c {w : World} {v : Value} : CallsR Try.prog 37 #[v, .nilFunc] w (fun r w' => r = .tuple #[.slice none 0 0, .int .i64 1] ∧ Ext w w') := by
  refine enter 32 Try.func37 rfl rfl (by simp) ?_
  refine c_seq ?_
  refine wp_reg (by decide +kernel) ?_
  refine l_v (v_assign rfl) ?_
  refine l_v (v_assign rfl) ?_
  refine l_nil ?_
  refine n_then ?_
  refine c_seq ?_
  refine c_seq ?_
  refine wp_reg (by decide +kernel) ?_
  refine l_v (v_move rfl) ?_
  refine l_v (v_nfeqlnil (ps := #[3]) (rs := #[22]) (v := false) (by kernel_rfl) rfl rfl) ?_
  refine l_nil ?_
  refine n_then ?_
  refine c_cond rfl rfl (fun hc => ?_) (fun hc => ?_)
  · skip
    refine c_seq ?_
    refine wp_reg (by decide +kernel) ?_
    refine l_v (v_assign rfl) ?_
    refine l_v (v_assign rfl) ?_
    refine l_nil ?_
    refine n_then ?_
    refine wp_ret ?_
    refine r_then ?_
    refine ret2 rfl (by decide) (by decide) ?_
    exact ⟨rfl, Keep.refl _⟩
  · skip
    cases hc

theorem WireNone_c {w : World} : CallsR Try.prog 9 #[] w (fun r w' => r = .bool true ∧ Ext w w') := by
  have hw0 : wList (fun _ : Int => ([] : List UInt8)) [] = [0] := by simp [wList, wNum_lt]
  show CallsR _ _ (List.toArray []) _ _
  refine enter 162 Try.func9 rfl rfl (by simp) ?_
  refine c_seq ?_
  refine wp_reg (by decide +kernel) ?_
  refine l_v (v_assign rfl) ?_
  refine l_nil ?_
  refine n_then ?_
  refine c_seq ?_
  refine wp_reg (by decide +kernel) ?_
  refine l_v (v_assign rfl) ?_
  refine l_nil ?_
  refine n_then ?_
  refine c_seq ?_
  refine wp_reg (by decide +kernel) ?_
  refine l_v (v_build (pl := [(0, 1)]) (z := .agg #[.slice none 0 0]) (zl := [.slice none 0 0]) (by kernel_rfl) (by unfold kZero; kernel_rfl) rfl rfl (cells := [_]) rfl) ?_
  refine l_to (to_box (show _ = (Value.agg _) from rfl) ?_)
  rintro b1 w1 rfl hb1 e1 z1
  have zs_e1 := e1.size
  refine l_to (to_f1 (by kernel_rfl) (show _ = (Value.slice _ _ _) from rfl) (CallsR.mono (Open_c (l := []) (SlV.nil _ _ NoK) (by simp)) ?_))
  rintro _ w2 ⟨b2, rfl, r2, hb2, e2, z2⟩
  have zs_e2 := e2.size
  refine l_v (v_assign (t := .pointer _) rfl) ?_
  refine l_v (v_assign (t := .pointer _) rfl) ?_
  refine l_nil ?_
  refine n_then ?_
  refine c_seq ?_
  refine wp_reg (by decide +kernel) ?_
  refine l_to (to_f2 (by kernel_rfl) (show _ = (Value.slice _ _ _) from rfl) rfl (CallsR.mono (putNI_c) ?_))
  rintro _ w3 ⟨rfl, e3⟩
  have zs_e3 := e3.size
  refine l_v (v_move (t := .tuple _) rfl) ?_
  refine l_v (v_extract (t := .slice _ _ _) rfl rfl) ?_
  refine l_v (v_extract (t := .int _ _) rfl rfl) ?_
  refine l_v (v_assign (t := .slice _ _ _) rfl) ?_
  refine l_v (v_assign (t := .int _ _) rfl) ?_
  refine l_nil ?_
  refine n_then ?_
  refine c_seq ?_
  refine wp_reg (by decide +kernel) ?_
  refine l_to (to_f2 (by kernel_rfl) (show _ = (Value.slice _ _ _) from rfl) rfl (CallsR.mono (putI_c (cap := #[]) (xs := []) (SlV.nil _ _ NoK) (by kernel_rfl) (fun _ => []) (fun w1 cs x e1 hr hx => by cases hx) (by simp [wList, wNum_lt]) (by simp)) ?_))
  rintro _ w4 ⟨q4, c4, rfl, o4, e4⟩
  have zs_e4 := e4.size
  refine l_v (v_move (t := .tuple _) rfl) ?_
  refine l_v (v_extract (t := .slice _ _ _) rfl rfl) ?_
  refine l_v (v_extract (t := .int _ _) rfl rfl) ?_
  refine l_v (v_assign (t := .slice _ _ _) rfl) ?_
  refine l_v (v_assign (t := .int _ _) rfl) ?_
  refine l_nil ?_
  refine n_then ?_
  refine c_seq ?_
  refine wp_reg (by decide +kernel) ?_
  refine l_to (to_slice1 (t := tU8) (et := 5) (bytes := 1) (by kernel_rfl) (by decide) (show _ = (Value.int _ _) from rfl) ((show tU8.rep _ NoK [.int .u8 0] 0 from rfl)) ?_)
  rintro b5 w5 rfl o5 e5 z5
  have zs_e5 := e5.size
  refine l_to (to_f1 (by kernel_rfl) (show _ = (Value.slice _ _ _) from rfl) (CallsR.mono (Open_c o5.view (by simp)) ?_))
  rintro _ w6 ⟨b6, rfl, r6, hb6, e6, z6⟩
  have zs_e6 := e6.size
  refine l_to (to_f3 (by kernel_rfl) (show _ = (Value.pointer _) from rfl) (show _ = (Value.int _ _) from rfl) rfl (CallsR.mono (takeNI_c) ?_))
  rintro _ w7 ⟨rfl, e7⟩
  have zs_e7 := e7.size
  refine l_v (v_move (t := .tuple _) rfl) ?_
  refine l_v (v_extract (t := .slice _ _ _) rfl rfl) ?_
  refine l_v (v_extract (t := .int _ _) rfl rfl) ?_
  refine l_v (v_assign (t := .slice _ _ _) rfl) ?_
  refine l_v (v_assign (t := .int _ _) rfl) ?_
  refine l_nil ?_
  refine n_then ?_
  refine c_seq ?_
  refine wp_reg (by decide +kernel) ?_
  refine l_v (v_move (t := .pointer _) rfl) ?_
  refine l_to (to_f3 (by kernel_rfl) (show _ = (Value.pointer _) from rfl) (show _ = (Value.int _ _) from rfl) rfl (CallsR.mono (takeCP_c (cap := #[]) (.inl rfl)) ?_))
  rintro _ w8 ⟨rfl, e8⟩
  have zs_e8 := e8.size
  have e18 := e2.trans (e3.trans (e4.trans (e5.trans (e6.trans (e7.trans e8)))))
  refine l_v (v_move (t := .tuple _) rfl) ?_
  refine l_v (v_extract (t := .slice _ _ _) rfl rfl) ?_
  refine l_v (v_extract (t := .int _ _) rfl rfl) ?_
  refine l_v (v_assign (t := .slice _ _ _) rfl) ?_
  refine l_v (v_assign (t := .int _ _) rfl) ?_
  refine l_nil ?_
  refine n_then ?_
  refine c_seq ?_
  refine wp_reg (by decide +kernel) ?_
  refine l_v (v_move (t := .pointer _) rfl) ?_
  refine l_to (to_f3 (by kernel_rfl) (show _ = (Value.pointer _) from rfl) (show _ = (Value.int _ _) from rfl) rfl (CallsR.mono (takeCP_c (cap := #[]) (.inr ⟨_, rfl, hb1.ext e18⟩)) ?_))
  rintro _ w9 ⟨rfl, e9⟩
  have zs_e9 := e9.size
  have e49 := e5.trans (e6.trans (e7.trans (e8.trans e9)))
  have e29 := e3.trans (e4.trans e49)
  refine l_v (v_move (t := .tuple _) rfl) ?_
  refine l_v (v_extract (t := .slice _ _ _) rfl rfl) ?_
  refine l_v (v_extract (t := .int _ _) rfl rfl) ?_
  refine l_v (v_assign (t := .slice _ _ _) rfl) ?_
  refine l_v (v_assign (t := .int _ _) rfl) ?_
  refine l_nil ?_
  refine n_then ?_
  refine c_seq ?_
  refine c_seq ?_
  refine wp_reg (by decide +kernel) ?_
  refine l_v (v_move (t := .slice _ _ _) rfl) ?_
  refine l_v (v_len (et := 5) (by kernel_rfl) rfl) ?_
  refine l_v (OpVat.as (b := false) (v_neq rfl rfl) (by first | rfl | (simp; done) | (simp; omega))) ?_
  refine l_v (v_move (t := .bool _) rfl) ?_
  refine l_gt rfl rfl (OpTo.of_v (v_move (t := .int _ _) rfl) ?_)
  refine l_gt rfl rfl (to_f1 (by kernel_rfl) (show _ = (Value.int _ _) from rfl) (CallsR.mono (num_c) ?_))
  rintro _ w10 ⟨rfl, e10⟩
  have zs_e10 := e10.size
  refine l_gt rfl rfl (OpTo.of_v (OpVat.as (b := false) (v_neq rfl rfl) (by first | rfl | (simp; done) | (simp; omega))) ?_)
  refine l_v (v_orT rfl rfl) ?_
  refine l_v (v_move (t := .bool _) rfl) ?_
  refine l_gt rfl rfl (OpTo.of_v (v_move (t := .slice _ _ _) rfl) ?_)
  refine l_gt rfl rfl (OpTo.of_v (v_b2s (et := 5) (by kernel_rfl) (by kernel_rfl) (by kernel_rfl) rfl ((o4.ext (e49.trans e10)).view)) ?_)
  refine l_gt rfl rfl (OpTo.of_v (OpVat.as (b := false) (v_sne rfl rfl) (by rw [hw0]; simp)) ?_)
  refine l_v (v_orT rfl rfl) ?_
  refine l_v (v_move (t := .bool _) rfl) ?_
  refine l_gt rfl rfl (OpTo.of_v (v_move (t := .int _ _) rfl) ?_)
  refine l_gt rfl rfl (to_f1 (by kernel_rfl) (show _ = (Value.int _ _) from rfl) (CallsR.mono (num_c) ?_))
  rintro _ w11 ⟨rfl, e11⟩
  have zs_e11 := e11.size
  refine l_gt rfl rfl (OpTo.of_v (OpVat.as (b := false) (v_neq rfl rfl) (by first | rfl | (simp; done) | (simp; omega))) ?_)
  refine l_v (v_orT rfl rfl) ?_
  refine l_v (v_move (t := .bool _) rfl) ?_
  refine l_gt rfl rfl (OpTo.of_v (v_move (t := .int _ _) rfl) ?_)
  refine l_gt rfl rfl (to_f1 (by kernel_rfl) (show _ = (Value.int _ _) from rfl) (CallsR.mono (num_c) ?_))
  rintro _ w12 ⟨rfl, e12⟩
  have zs_e12 := e12.size
  refine l_gt rfl rfl (OpTo.of_v (OpVat.as (b := false) (v_neq rfl rfl) (by first | rfl | (simp; done) | (simp; omega))) ?_)
  refine l_v (v_orT rfl rfl) ?_
  refine l_v (v_move (t := .bool _) rfl) ?_
  refine l_gt rfl rfl (OpTo.of_v (v_move (t := .int _ _) rfl) ?_)
  refine l_gt rfl rfl (to_f1 (by kernel_rfl) (show _ = (Value.int _ _) from rfl) (CallsR.mono (num_c) ?_))
  rintro _ w13 ⟨rfl, e13⟩
  have zs_e13 := e13.size
  refine l_gt rfl rfl (OpTo.of_v (OpVat.as (b := false) (v_neq rfl rfl) (by first | rfl | (simp; done) | (simp; omega))) ?_)
  refine l_v (v_orT rfl rfl) ?_
  refine l_v (v_move (t := .bool _) rfl) ?_
  refine l_gt rfl rfl (OpTo.of_v (v_move (t := .int _ _) rfl) ?_)
  refine l_gt rfl rfl (to_f1 (by kernel_rfl) (show _ = (Value.int _ _) from rfl) (CallsR.mono (num_c) ?_))
  rintro _ w14 ⟨rfl, e14⟩
  have zs_e14 := e14.size
  refine l_gt rfl rfl (OpTo.of_v (OpVat.as (b := false) (v_neq rfl rfl) (by first | rfl | (simp; done) | (simp; omega))) ?_)
  refine l_v (v_orT rfl rfl) ?_
  refine l_v (v_move (t := .bool _) rfl) ?_
  refine l_gt rfl rfl (OpTo.of_v (v_move (t := .pointer _) rfl) ?_)
  refine l_gt rfl rfl (OpTo.of_v (OpVat.as (b := false) (v_peql (et := 71) (by kernel_rfl) rfl rfl) (by first | rfl | (simp; done) | (simp; omega))) ?_)
  have f14 := e10.trans (e11.trans (e12.trans (e13.trans e14)))
  refine l_v (v_orT rfl rfl) ?_
  refine l_v (v_move (t := .bool _) rfl) ?_
  refine l_gt rfl rfl (OpTo.of_v (v_move (t := .pointer _) rfl) ?_)
  refine l_gt rfl rfl (to_f1 (by kernel_rfl) (show _ = (Value.pointer _) from rfl) (CallsR.mono (End_c (r2.ext (e29.trans f14))) ?_))
  rintro _ w15 ⟨rfl, e15⟩
  have zs_e15 := e15.size
  refine l_gt rfl rfl (to_f1 (by kernel_rfl) (show _ = (Value.int _ _) from rfl) (CallsR.mono (num_c) ?_))
  rintro _ w16 ⟨rfl, e16⟩
  have zs_e16 := e16.size
  refine l_gt rfl rfl (OpTo.of_v (OpVat.as (b := false) (v_neq rfl rfl) (by first | rfl | (simp; done) | (simp; omega))) ?_)
  refine l_v (v_orT rfl rfl) ?_
  refine l_v (v_move (t := .bool _) rfl) ?_
  refine l_gt rfl rfl (OpTo.of_v (v_move (t := .pointer _) rfl) ?_)
  refine l_gt rfl rfl (to_f1 (by kernel_rfl) (show _ = (Value.pointer _) from rfl) (CallsR.mono (Left_c (r2.ext (e29.trans (f14.trans (e15.trans e16))))) ?_))
  rintro _ w17 ⟨rfl, e17⟩
  have zs_e17 := e17.size
  refine l_gt rfl rfl (OpTo.of_v (OpVat.as (b := false) (v_neq rfl rfl) (by first | rfl | (simp; done) | (simp; omega))) ?_)
  refine l_v (v_orT rfl rfl) ?_
  refine l_nil ?_
  refine n_then ?_
  refine c_cond rfl rfl (fun hc => ?_) (fun hc => ?_)
  · skip
    cases hc
  · skip
    have e117 : Ext w1 w17 := e18.trans (e9.trans (f14.trans (e15.trans (e16.trans e17))))
    refine wp_skip ?_
    refine n_then ?_
    refine c_seq ?_
    refine c_seq ?_
    refine wp_reg (by decide +kernel) ?_
    refine l_v (v_assign rfl) ?_
    refine l_nil ?_
    refine n_then ?_
    refine wp_block ?_
    refine c_loop (τ := Nat) [0, 14, 15, 16, 17, 18, 19, 20, 21, 22, 23, 99, 100, 101, 102, 103, 104, 105, 106, 107, 108, 109, 110, 111, 112, 113, 114, 115, 116, 117, 118, 119, 120, 121, 122, 123, 124, 125, 126, 127, 128, 129, 130, 131, 132, 133, 134, 135, 136, 137, 138, 139, 140, 141, 142, 143, 144, 145, 146, 147, 148, 149, 150, 151, 152, 153, 154, 155, 156, 157, 158, 159, 160] (fun k => [(14, .int .i64 k)]) (fun k w => Ext w1 w ∧ k ≤ 2) (fun k => 2 - k) 0 (by exact ⟨rfl, trivial⟩) (by exact ⟨e117, Nat.zero_le _⟩) ?_
    rintro k w18 j ⟨e18b, h18⟩
    refine c_seq ?_
    refine c_seq ?_
    refine wp_reg (by decide +kernel) ?_
    refine l_v (v_move (t := .int _ _) rfl) ?_
    refine l_v (v_lss rfl rfl) ?_
    refine l_nil ?_
    refine n_then ?_
    refine c_cond rfl rfl (fun hd => ?_) (fun hd => ?_)
    · skip
      have hd := dtrue hd
      refine wp_skip ?_
      refine n_then ?_
      refine c_seq ?_
      refine wp_block ?_
      refine c_seq ?_
      refine wp_reg (by decide +kernel) ?_
      refine l_v (v_move (t := .pointer _) rfl) ?_
      refine l_v (v_assign (t := .pointer _) rfl) ?_
      refine l_nil ?_
      refine n_then ?_
      refine c_seq ?_
      refine c_seq ?_
      refine wp_reg (by decide +kernel) ?_
      refine l_v (v_move (t := .int _ _) rfl) ?_
      refine l_v (v_eql rfl rfl) ?_
      refine l_nil ?_
      refine n_then ?_
      refine c_cond rfl rfl (fun hd2 => ?_) (fun hd2 => ?_)
      · skip
        refine wp_reg (by decide +kernel) ?_
        refine l_v (v_move (t := .pointer _) rfl) ?_
        refine l_v (v_assign (t := .pointer _) rfl) ?_
        refine l_nil ?_
        refine n_then ?_
        refine c_seq ?_
        refine wp_reg (by decide +kernel) ?_
        refine l_v (v_move (t := .pointer _) rfl) ?_
        refine l_to (to_f1 (by kernel_rfl) (show _ = (Value.pointer _) from rfl) (CallsR.mono (NumberN_c (p := some ⟨w.heap.size, 0, none⟩) (.inr ⟨_, rfl, hb1.ext e18b⟩)) ?_))
        rintro _ w19 ⟨rfl, e19⟩
        have zs_e19 := e19.size
        have hcl := e18b.trans e19
        refine l_v (v_move (t := .tuple _) rfl) ?_
        refine l_v (v_extract (t := .int _ _) rfl rfl) ?_
        refine l_v (v_extract (t := .int _ _) rfl rfl) ?_
        refine l_v (v_assign (t := .int _ _) rfl) ?_
        refine l_v (v_assign (t := .int _ _) rfl) ?_
        refine l_nil ?_
        refine n_then ?_
        refine c_seq ?_
        refine wp_reg (by decide +kernel) ?_
        refine l_v (v_move (t := .pointer _) rfl) ?_
        refine l_to (to_f1 (by kernel_rfl) (show _ = (Value.pointer _) from rfl) (CallsR.mono (SignedN_c (.inr ⟨_, rfl, hb1.ext hcl⟩)) ?_))
        rintro _ w20 ⟨rfl, e20⟩
        have zs_e20 := e20.size
        refine l_v (v_move (t := .tuple _) rfl) ?_
        refine l_v (v_extract (t := .int _ _) rfl rfl) ?_
        refine l_v (v_extract (t := .int _ _) rfl rfl) ?_
        refine l_v (v_assign (t := .int _ _) rfl) ?_
        refine l_v (v_assign (t := .int _ _) rfl) ?_
        refine l_nil ?_
        refine n_then ?_
        refine c_seq ?_
        refine wp_reg (by decide +kernel) ?_
        refine l_v (v_move (t := .pointer _) rfl) ?_
        refine l_to (to_f1 (by kernel_rfl) (show _ = (Value.pointer _) from rfl) (CallsR.mono (FlagN_c (.inr ⟨_, rfl, hb1.ext (hcl.trans e20)⟩)) ?_))
        rintro _ w21 ⟨rfl, e21⟩
        have zs_e21 := e21.size
        refine l_v (v_move (t := .tuple _) rfl) ?_
        refine l_v (v_extract (t := .bool _) rfl rfl) ?_
        refine l_v (v_extract (t := .int _ _) rfl rfl) ?_
        refine l_v (v_assign (t := .bool _) rfl) ?_
        refine l_v (v_assign (t := .int _ _) rfl) ?_
        refine l_nil ?_
        refine n_then ?_
        refine c_seq ?_
        refine wp_reg (by decide +kernel) ?_
        refine l_v (v_move (t := .pointer _) rfl) ?_
        refine l_to (to_f2 (by kernel_rfl) (show _ = (Value.pointer _) from rfl) (show _ = (Value.int _ _) from rfl) (CallsR.mono (BytesN_c (.inr ⟨_, rfl, hb1.ext (hcl.trans (e20.trans e21))⟩)) ?_))
        rintro _ w22 ⟨rfl, e22⟩
        have zs_e22 := e22.size
        have hcl22 := hcl.trans (e20.trans (e21.trans e22))
        refine l_v (v_move (t := .tuple _) rfl) ?_
        refine l_v (v_extract (t := .slice _ _ _) rfl rfl) ?_
        refine l_v (v_extract (t := .int _ _) rfl rfl) ?_
        refine l_v (v_assign (t := .slice _ _ _) rfl) ?_
        refine l_v (v_assign (t := .int _ _) rfl) ?_
        refine l_nil ?_
        refine n_then ?_
        refine c_seq ?_
        refine wp_reg (by decide +kernel) ?_
        refine l_v (v_move (t := .int _ _) rfl) ?_
        refine l_to (to_f1 (by kernel_rfl) (show _ = (Value.int _ _) from rfl) (CallsR.mono (num_c) ?_))
        rintro _ w23 ⟨rfl, e23⟩
        have zs_e23 := e23.size
        refine l_v (OpVat.as (b := false) (v_neq rfl rfl) (by first | rfl | (simp; done) | (simp; omega))) ?_
        refine l_v (v_move (t := .bool _) rfl) ?_
        refine l_gt rfl rfl (OpTo.of_v (v_move (t := .int _ _) rfl) ?_)
        refine l_gt rfl rfl (to_f1 (by kernel_rfl) (show _ = (Value.int _ _) from rfl) (CallsR.mono (num_c) ?_))
        rintro _ w24 ⟨rfl, e24⟩
        have zs_e24 := e24.size
        refine l_gt rfl rfl (OpTo.of_v (OpVat.as (b := false) (v_neq rfl rfl) (by first | rfl | (simp; done) | (simp; omega))) ?_)
        refine l_v (v_orT rfl rfl) ?_
        refine l_v (v_move (t := .bool _) rfl) ?_
        refine l_gt rfl rfl (OpTo.of_v (v_move (t := .int _ _) rfl) ?_)
        refine l_gt rfl rfl (to_f1 (by kernel_rfl) (show _ = (Value.int _ _) from rfl) (CallsR.mono (num_c) ?_))
        rintro _ w25 ⟨rfl, e25⟩
        have zs_e25 := e25.size
        refine l_gt rfl rfl (OpTo.of_v (OpVat.as (b := false) (v_neq rfl rfl) (by first | rfl | (simp; done) | (simp; omega))) ?_)
        refine l_v (v_orT rfl rfl) ?_
        refine l_v (v_move (t := .bool _) rfl) ?_
        refine l_gt rfl rfl (OpTo.of_v (v_move (t := .slice _ _ _) rfl) ?_)
        refine l_gt rfl rfl (OpTo.of_v (v_len (et := 5) (by kernel_rfl) rfl) ?_)
        refine l_gt rfl rfl (OpTo.of_v (OpVat.as (b := false) (v_neq rfl rfl) (by first | rfl | (simp; done) | (simp; omega))) ?_)
        refine l_v (v_orT rfl rfl) ?_
        refine l_v (v_move (t := .bool _) rfl) ?_
        refine l_gt rfl rfl (OpTo.of_v (v_move (t := .int _ _) rfl) ?_)
        refine l_gt rfl rfl (to_f1 (by kernel_rfl) (show _ = (Value.int _ _) from rfl) (CallsR.mono (num_c) ?_))
        rintro _ w26 ⟨rfl, e26⟩
        have zs_e26 := e26.size
        refine l_gt rfl rfl (OpTo.of_v (OpVat.as (b := false) (v_neq rfl rfl) (by first | rfl | (simp; done) | (simp; omega))) ?_)
        have hcl26 := hcl22.trans (e23.trans (e24.trans (e25.trans e26)))
        refine l_v (v_orT rfl rfl) ?_
        refine l_v (v_move (t := .bool _) rfl) ?_
        refine l_gt rfl rfl (OpTo.of_v (v_move (t := .pointer _) rfl) ?_)
        refine l_gt rfl rfl (to_f1 (by kernel_rfl) (show _ = (Value.pointer _) from rfl) (CallsR.mono (EndN_c (.inr ⟨_, rfl, hb1.ext hcl26⟩)) ?_))
        rintro _ w27 ⟨rfl, e27⟩
        have zs_e27 := e27.size
        refine l_gt rfl rfl (to_f1 (by kernel_rfl) (show _ = (Value.int _ _) from rfl) (CallsR.mono (num_c) ?_))
        rintro _ w28 ⟨rfl, e28⟩
        have zs_e28 := e28.size
        refine l_gt rfl rfl (OpTo.of_v (OpVat.as (b := false) (v_neq rfl rfl) (by first | rfl | (simp; done) | (simp; omega))) ?_)
        refine l_v (v_orT rfl rfl) ?_
        refine l_v (v_move (t := .bool _) rfl) ?_
        refine l_gt rfl rfl (OpTo.of_v (v_move (t := .pointer _) rfl) ?_)
        refine l_gt rfl rfl (to_f1 (by kernel_rfl) (show _ = (Value.pointer _) from rfl) (CallsR.mono (LeftN_c (.inr ⟨_, rfl, hb1.ext (hcl26.trans (e27.trans e28))⟩)) ?_))
        rintro _ w29 ⟨rfl, e29b⟩
        refine l_gt rfl rfl (OpTo.of_v (OpVat.as (b := false) (v_neq rfl rfl) (by first | rfl | (simp; done) | (simp; omega))) ?_)
        refine l_v (v_orT rfl rfl) ?_
        refine l_nil ?_
        refine n_then ?_
        refine c_cond rfl rfl (fun hf => ?_) (fun hf => ?_)
        · skip
          cases hf
        · skip
          refine wp_skip ?_
          refine n_blk ?_
          refine n_then ?_
          refine wp_reg (by decide +kernel) ?_
          refine l_v (v_move (t := .int _ _) rfl) ?_
          refine l_v (v_add rfl rfl (by first | exact wr_i64 (by omega) (by omega) | rfl)) ?_
          refine l_v (v_assign (t := .int _ _) rfl) ?_
          refine l_nil ?_
          refine n_then ?_
          refine ⟨k + 1, _, rfl, by (repeat (first | exact Off.of_over _ _ _ | refine Off.upd ?_ (by decide) _)), ⟨by first | rfl | exact congrArg (Value.int _) (by omega) | (simp; done), trivial⟩, ?_, ?_⟩
          · exact ⟨hcl26.trans (e27.trans (e28.trans e29b)), by omega⟩
          · dsimp only; omega
      · skip
        refine wp_skip ?_
        refine n_then ?_
        refine c_seq ?_
        refine wp_reg (by decide +kernel) ?_
        refine l_v (v_move (t := .pointer _) rfl) ?_
        refine l_to (to_f1 (by kernel_rfl) (show _ = (Value.pointer _) from rfl) (CallsR.mono (NumberN_c (p := none) (.inl rfl)) ?_))
        rintro _ w19 ⟨rfl, e19⟩
        have zs_e19 := e19.size
        have hcl := e18b.trans e19
        refine l_v (v_move (t := .tuple _) rfl) ?_
        refine l_v (v_extract (t := .int _ _) rfl rfl) ?_
        refine l_v (v_extract (t := .int _ _) rfl rfl) ?_
        refine l_v (v_assign (t := .int _ _) rfl) ?_
        refine l_v (v_assign (t := .int _ _) rfl) ?_
        refine l_nil ?_
        refine n_then ?_
        refine c_seq ?_
        refine wp_reg (by decide +kernel) ?_
        refine l_v (v_move (t := .pointer _) rfl) ?_
        refine l_to (to_f1 (by kernel_rfl) (show _ = (Value.pointer _) from rfl) (CallsR.mono (SignedN_c (p := none) (.inl rfl)) ?_))
        rintro _ w20 ⟨rfl, e20⟩
        have zs_e20 := e20.size
        refine l_v (v_move (t := .tuple _) rfl) ?_
        refine l_v (v_extract (t := .int _ _) rfl rfl) ?_
        refine l_v (v_extract (t := .int _ _) rfl rfl) ?_
        refine l_v (v_assign (t := .int _ _) rfl) ?_
        refine l_v (v_assign (t := .int _ _) rfl) ?_
        refine l_nil ?_
        refine n_then ?_
        refine c_seq ?_
        refine wp_reg (by decide +kernel) ?_
        refine l_v (v_move (t := .pointer _) rfl) ?_
        refine l_to (to_f1 (by kernel_rfl) (show _ = (Value.pointer _) from rfl) (CallsR.mono (FlagN_c (p := none) (.inl rfl)) ?_))
        rintro _ w21 ⟨rfl, e21⟩
        have zs_e21 := e21.size
        refine l_v (v_move (t := .tuple _) rfl) ?_
        refine l_v (v_extract (t := .bool _) rfl rfl) ?_
        refine l_v (v_extract (t := .int _ _) rfl rfl) ?_
        refine l_v (v_assign (t := .bool _) rfl) ?_
        refine l_v (v_assign (t := .int _ _) rfl) ?_
        refine l_nil ?_
        refine n_then ?_
        refine c_seq ?_
        refine wp_reg (by decide +kernel) ?_
        refine l_v (v_move (t := .pointer _) rfl) ?_
        refine l_to (to_f2 (by kernel_rfl) (show _ = (Value.pointer _) from rfl) (show _ = (Value.int _ _) from rfl) (CallsR.mono (BytesN_c (p := none) (.inl rfl)) ?_))
        rintro _ w22 ⟨rfl, e22⟩
        have zs_e22 := e22.size
        have hcl22 := hcl.trans (e20.trans (e21.trans e22))
        refine l_v (v_move (t := .tuple _) rfl) ?_
        refine l_v (v_extract (t := .slice _ _ _) rfl rfl) ?_
        refine l_v (v_extract (t := .int _ _) rfl rfl) ?_
        refine l_v (v_assign (t := .slice _ _ _) rfl) ?_
        refine l_v (v_assign (t := .int _ _) rfl) ?_
        refine l_nil ?_
        refine n_then ?_
        refine c_seq ?_
        refine wp_reg (by decide +kernel) ?_
        refine l_v (v_move (t := .int _ _) rfl) ?_
        refine l_to (to_f1 (by kernel_rfl) (show _ = (Value.int _ _) from rfl) (CallsR.mono (num_c) ?_))
        rintro _ w23 ⟨rfl, e23⟩
        have zs_e23 := e23.size
        refine l_v (OpVat.as (b := false) (v_neq rfl rfl) (by first | rfl | (simp; done) | (simp; omega))) ?_
        refine l_v (v_move (t := .bool _) rfl) ?_
        refine l_gt rfl rfl (OpTo.of_v (v_move (t := .int _ _) rfl) ?_)
        refine l_gt rfl rfl (to_f1 (by kernel_rfl) (show _ = (Value.int _ _) from rfl) (CallsR.mono (num_c) ?_))
        rintro _ w24 ⟨rfl, e24⟩
        have zs_e24 := e24.size
        refine l_gt rfl rfl (OpTo.of_v (OpVat.as (b := false) (v_neq rfl rfl) (by first | rfl | (simp; done) | (simp; omega))) ?_)
        refine l_v (v_orT rfl rfl) ?_
        refine l_v (v_move (t := .bool _) rfl) ?_
        refine l_gt rfl rfl (OpTo.of_v (v_move (t := .int _ _) rfl) ?_)
        refine l_gt rfl rfl (to_f1 (by kernel_rfl) (show _ = (Value.int _ _) from rfl) (CallsR.mono (num_c) ?_))
        rintro _ w25 ⟨rfl, e25⟩
        have zs_e25 := e25.size
        refine l_gt rfl rfl (OpTo.of_v (OpVat.as (b := false) (v_neq rfl rfl) (by first | rfl | (simp; done) | (simp; omega))) ?_)
        refine l_v (v_orT rfl rfl) ?_
        refine l_v (v_move (t := .bool _) rfl) ?_
        refine l_gt rfl rfl (OpTo.of_v (v_move (t := .slice _ _ _) rfl) ?_)
        refine l_gt rfl rfl (OpTo.of_v (v_len (et := 5) (by kernel_rfl) rfl) ?_)
        refine l_gt rfl rfl (OpTo.of_v (OpVat.as (b := false) (v_neq rfl rfl) (by first | rfl | (simp; done) | (simp; omega))) ?_)
        refine l_v (v_orT rfl rfl) ?_
        refine l_v (v_move (t := .bool _) rfl) ?_
        refine l_gt rfl rfl (OpTo.of_v (v_move (t := .int _ _) rfl) ?_)
        refine l_gt rfl rfl (to_f1 (by kernel_rfl) (show _ = (Value.int _ _) from rfl) (CallsR.mono (num_c) ?_))
        rintro _ w26 ⟨rfl, e26⟩
        have zs_e26 := e26.size
        refine l_gt rfl rfl (OpTo.of_v (OpVat.as (b := false) (v_neq rfl rfl) (by first | rfl | (simp; done) | (simp; omega))) ?_)
        have hcl26 := hcl22.trans (e23.trans (e24.trans (e25.trans e26)))
        refine l_v (v_orT rfl rfl) ?_
        refine l_v (v_move (t := .bool _) rfl) ?_
        refine l_gt rfl rfl (OpTo.of_v (v_move (t := .pointer _) rfl) ?_)
        refine l_gt rfl rfl (to_f1 (by kernel_rfl) (show _ = (Value.pointer _) from rfl) (CallsR.mono (EndN_c (p := none) (.inl rfl)) ?_))
        rintro _ w27 ⟨rfl, e27⟩
        have zs_e27 := e27.size
        refine l_gt rfl rfl (to_f1 (by kernel_rfl) (show _ = (Value.int _ _) from rfl) (CallsR.mono (num_c) ?_))
        rintro _ w28 ⟨rfl, e28⟩
        have zs_e28 := e28.size
        refine l_gt rfl rfl (OpTo.of_v (OpVat.as (b := false) (v_neq rfl rfl) (by first | rfl | (simp; done) | (simp; omega))) ?_)
        refine l_v (v_orT rfl rfl) ?_
        refine l_v (v_move (t := .bool _) rfl) ?_
        refine l_gt rfl rfl (OpTo.of_v (v_move (t := .pointer _) rfl) ?_)
        refine l_gt rfl rfl (to_f1 (by kernel_rfl) (show _ = (Value.pointer _) from rfl) (CallsR.mono (LeftN_c (p := none) (.inl rfl)) ?_))
        rintro _ w29 ⟨rfl, e29b⟩
        refine l_gt rfl rfl (OpTo.of_v (OpVat.as (b := false) (v_neq rfl rfl) (by first | rfl | (simp; done) | (simp; omega))) ?_)
        refine l_v (v_orT rfl rfl) ?_
        refine l_nil ?_
        refine n_then ?_
        refine c_cond rfl rfl (fun hf => ?_) (fun hf => ?_)
        · skip
          cases hf
        · skip
          refine wp_skip ?_
          refine n_blk ?_
          refine n_then ?_
          refine wp_reg (by decide +kernel) ?_
          refine l_v (v_move (t := .int _ _) rfl) ?_
          refine l_v (v_add rfl rfl (by first | exact wr_i64 (by omega) (by omega) | rfl)) ?_
          refine l_v (v_assign (t := .int _ _) rfl) ?_
          refine l_nil ?_
          refine n_then ?_
          refine ⟨k + 1, _, rfl, by (repeat (first | exact Off.of_over _ _ _ | refine Off.upd ?_ (by decide) _)), ⟨by first | rfl | exact congrArg (Value.int _) (by omega) | (simp; done), trivial⟩, ?_, ?_⟩
          · exact ⟨hcl26.trans (e27.trans (e28.trans e29b)), by omega⟩
          · dsimp only; omega
    · skip
      have hcl := e18b
      refine wp_exit ?_
      refine x_then ?_
      refine x_then ?_
      refine x_hit ?_
      refine n_then ?_
      refine c_seq ?_
      refine wp_reg (by decide +kernel) ?_
      refine l_to (to_f0 (by kernel_rfl) (CallsR.mono (known_c) ?_))
      rintro _ w30 ⟨rfl, e30⟩
      have zs_e30 := e30.size
      refine l_v (v_assign (t := .bool _) rfl) ?_
      refine l_nil ?_
      refine n_then ?_
      refine wp_ret ?_
      refine ret1 rfl (by decide) ?_
      exact ⟨rfl, e1.trans (e18b.trans e30)⟩
end Go.Proofs.Ythnpnniiejcnbaa
