/- A part of the proof: steps and lemmas for the walks through the given program. -/
import Derived.Test.YthnpnniiejcnbaaW10
namespace Go.Proofs.Ythnpnniiejcnbaa
open Go.Vc
set_option linter.unusedVariables false
set_option maxRecDepth 100000

abbrev nSl : Nat := 22
theorem OwV_sep {α β : Type} {t : Ty α} {t' : Ty β} {e : TypeId} {w0 w : World} {B : Nat} {F G : Nat → Prop} {v : Value} {ys : List α} (o : OwV t e w0 B F v ys) (hm : ∀ b, G b → w0.heap.size ≤ b) (hB : B ≤ w0.heap.size) :
    ∀ cs x, t'.rep w G cs x → t'.rep w (fun b => B ≤ b ∧ v.ownBlock ≠ some b) cs x := fun cs x h =>
  t'.mono h fun b _ hb => ⟨Nat.le_trans hB (hm b hb), fun he => by have := (o.own_lt he).2; have := hm b hb; omega⟩
/-- a list's form -/
def wList {α : Type} (sp : α → List UInt8) (xs : List α) : List UInt8 := wNum xs.length ++ (xs.map sp).flatten

theorem putU_c {w : World} {v : Value} {F : Nat → Prop} {xs : List (Int)} {fr : Nat} {cap : Array Value} (hv : SlV (tInt .u64) w F v xs) (hb : kBody Try.prog fr = true) (sp : Int → List UInt8)
    (hform : ∀ (w1 : World) (cs : List Value) (x : Int), Ext w w1 → (tInt .u64).rep w1 F cs x → x ∈ xs → CallsR Try.prog fr (#[.int .u64 x] ++ cap) w1 (fun r w2 => OwV tU8 nU8 w2 w1.heap.size NoK r (sp x) ∧ Ext w1 w2))
    (hl : (wList sp xs).length ≤ 140737488355300) (hn : xs.length ≤ 5000000000000) :
    CallsR Try.prog 35 #[v, .func (.func fr) #[] cap] w (fun r w' => ∃ q c, r = .tuple #[.slice (some q) (wList sp xs).length c, .int .i64 0] ∧ OwV tU8 nU8 w' w.heap.size NoK (.slice (some q) (wList sp xs).length c) (wList sp xs) ∧ Ext w w') := by
  obtain ⟨a, c, rfl⟩ := hv.shape
  obtain ⟨w0, rfl⟩ : ∃ x, x = w := ⟨w, rfl⟩
  refine enter 32 Try.func35 rfl rfl (by simp) ?_
  refine c_seq ?_
  refine wp_reg (by decide +kernel) ?_
  refine l_v (v_assign rfl) ?_
  refine l_v (v_assign rfl) ?_
  refine l_nil ?_
  refine n_then ?_
  refine c_seq ?_
  refine c_seq ?_
  refine wp_reg (by decide +kernel) ?_
  refine l_v (v_move (t := .func _ _ _) rfl) ?_
  refine l_v (v_feqlnil (ps := #[29]) (rs := #[22]) (v := false) (by kernel_rfl) rfl rfl) ?_
  refine l_nil ?_
  refine n_then ?_
  refine c_cond rfl rfl (fun hc => ?_) (fun hc => ?_)
  · skip
    cases hc
  · skip
    refine wp_skip ?_
    refine n_then ?_
    refine c_seq ?_
    refine wp_reg (by decide +kernel) ?_
    refine l_v (v_move (t := .slice _ _ _) rfl) ?_
    refine l_v (v_len (et := 29) (by kernel_rfl) rfl) ?_
    refine l_v (v_conv (ds := .int .i64) (by kernel_rfl) (by kernel_rfl) rfl (by first | exact wr_u64 (by omega) (by omega) | rfl)) ?_
    refine l_to (to_f1 (by kernel_rfl) (show _ = (Value.int _ _) from rfl) (CallsR.mono (Number_c (n := xs.length) (by omega)) ?_))
    rintro _ w1 ⟨o1, ⟨q1, c1, rfl⟩, e1⟩
    have zs_e1 := e1.size
    refine l_to (to_slice1 (t := tSl tU8) (et := 22) (bytes := 24) (by kernel_rfl) (by decide) (show _ = (Value.slice _ _ _) from rfl) ((show (tSl tU8).rep _ _ [_] _ from ⟨_, rfl, o1.view⟩)) ?_)
    rintro b2 w2 rfl o2 e2 z2
    have zs_e2 := e2.size
    refine l_v (v_assign (t := .slice _ _ _) rfl) ?_
    refine l_nil ?_
    refine n_then ?_
    refine c_seq ?_
    refine c_seq ?_
    refine wp_reg (by decide +kernel) ?_
    refine l_v (v_move (t := .slice _ _ _) rfl) ?_
    refine l_v (v_len (et := 29) (by kernel_rfl) rfl) ?_
    refine l_v (v_move rfl) ?_
    refine l_nil ?_
    refine n_then ?_
    refine wp_block ?_
    refine c_loop (τ := Option Addr × Nat × Nat) [6, 7, 17, 18, 19, 20, 21, 22, 23, 24, 25, 26, 27, 28, 29] (fun (a1, c1, k) => [(6, .slice a1 (k + 1) c1), (17, .int .i64 k)]) (fun (a1, c1, k) w => OwV (tSl tU8) nSl w w0.heap.size (fun b => w0.heap.size ≤ b) (.slice a1 (k + 1) c1) (wNum xs.length :: (xs.take k).map sp) ∧ Ext w0 w ∧ k ≤ xs.length) (fun (a1, c1, k) => xs.length - k) (some ⟨w1.heap.size, 0, none⟩, 1, 0) (by exact ⟨rfl, rfl, trivial⟩) (by exact ⟨(o2.base (by omega)).mono (fun b _ h => by rcases h.1 with h | h; exact h; exact h.elim), e1.trans e2, Nat.zero_le _⟩) ?_
    rintro ⟨a1, c1, k⟩ w3 j ⟨o3, e3, h3⟩
    refine c_seq ?_
    refine wp_reg (by decide +kernel) ?_
    refine l_v (v_lss rfl rfl) ?_
    refine l_nil ?_
    refine n_then ?_
    refine c_seq ?_
    refine c_cond rfl rfl (fun hc2 => ?_) (fun hc2 => ?_)
    · skip
      have hc2 := dtrue hc2
      have zs_e3 := e3.size
      obtain ⟨x, hx⟩ : ∃ x, xs[k]? = some x := ⟨xs[k]'(by omega), by simp [show k < xs.length by omega]⟩
      have hlk : (wNum xs.length :: (xs.take k).map sp).length = k + 1 := by simp; omega
      refine wp_skip ?_
      refine n_then ?_
      refine c_seq ?_
      refine wp_block ?_
      refine c_seq ?_
      refine wp_reg (by decide +kernel) ?_
      refine l_v (v_move (t := .int _ _) rfl) ?_
      refine l_v (v_assign (t := .int _ _) rfl) ?_
      refine l_nil ?_
      refine n_then ?_
      refine wp_reg (by decide +kernel) ?_
      refine l_v (v_move (t := .slice _ _ _) rfl) ?_
      refine l_v (v_move (t := .func _ _ _) rfl) ?_
      refine l_v (v_move (t := .slice _ _ _) rfl) ?_
      refine l_v (v_move (t := .int _ _) rfl) ?_
      refine l_to (to_index (et := 29) (by kernel_rfl) (by kernel_rfl) (show _ = (Value.slice _ _ _) from rfl) (hv.ext e3) (show _ = (Value.int _ _) from rfl) rfl hx ?_)
      rintro q cs hF hp hr
      have hr' := hr; obtain ⟨rfl, hwf⟩ := hr'
      refine l_v (v_load (by kernel_rfl) rfl (pv_1 hp)) ?_
      refine l_to (to_call1 hb rfl (show _ = (Value.int _ _) from rfl) (CallsR.mono ((hform w3 _ x e3 hr (List.mem_of_getElem? hx))) ?_))
      rintro _ w4 ⟨o4, e4⟩
      have zs_e4 := e4.size
      obtain ⟨a4, c4, rfl⟩ := o4.shape
      refine l_to (to_slice1 (t := tSl tU8) (et := 22) (bytes := 24) (by kernel_rfl) (by decide) (show _ = (Value.slice _ _ _) from rfl) ((show (tSl tU8).rep _ _ [_] _ from ⟨_, rfl, o4.view⟩)) ?_)
      rintro b5 w5 rfl o5 e5 z5
      have zs_e5 := e5.size
      refine l_to (to_append (et := 22) (bytes := 24) (by kernel_rfl) (show _ = (Value.slice _ _ _) from rfl) (o3.ext (e4.trans e5)) (show _ = (Value.slice _ _ _) from rfl) o5.view ((OwV_sep o3 (by intro b hb; simp only [NoK, or_false] at hb; omega) (by omega))) (by first | omega | (simp; done) | (simp; omega)) (by simp only [maxLen]; first | omega | (simp; done) | (simp; omega)) (by omega) ?_)
      rintro a6 n6 c6 w6 o6 hn6 k6 b6 i6
      have zs_k6 := k6.size
      have hlk2 : ((wNum xs.length :: (xs.take k).map sp) ++ [sp x]).length = k + 1 + 1 := by simp; omega
      rw [hlk2] at hn6
      subst hn6
      have e6 : Ext w0 w6 := ((e3.trans e4).trans e5).step k6 fun b hb h => by have := (o3.own_lt h).1; omega
      have htk : (xs.take (k + 1)).map sp = (xs.take k).map sp ++ [sp x] := by rw [List.take_add_one, hx]; simp
      refine l_v (v_assign (t := .slice _ _ _) rfl) ?_
      refine l_nil ?_
      refine n_blk ?_
      refine n_then ?_
      refine wp_reg (by decide +kernel) ?_
      refine l_v (v_add rfl rfl (by first | exact wr_i64 (by omega) (by omega) | rfl)) ?_
      refine l_v (v_move (t := .int _ _) rfl) ?_
      refine l_nil ?_
      refine n_then ?_
      refine ⟨(a6, c6, k + 1), _, rfl, by (repeat (first | exact Off.of_over _ _ _ | refine Off.upd ?_ (by decide) _)), ⟨by first | rfl | exact congrArg (Value.int _) (by omega) | (simp; done), by first | rfl | exact congrArg (Value.int _) (by omega) | (simp; done), trivial⟩, ?_, ?_⟩
      · exact ⟨by rw [htk]; exact o6, e6, by omega⟩
      · dsimp only; omega
    · skip
      have hc2 := dfalse hc2
      obtain rfl : k = xs.length := by omega
      rw [List.take_length] at o3
      have zs_e3 := e3.size
      refine wp_exit ?_
      refine x_then ?_
      refine x_then ?_
      refine x_hit ?_
      refine n_then ?_
      refine c_seq ?_
      refine wp_reg (by decide +kernel) ?_
      refine l_v (v_move (t := .slice _ _ _) rfl) ?_
      refine l_to (to_f1 (by kernel_rfl) (show _ = (Value.slice _ _ _) from rfl) (CallsR.mono (Join_c o3.view (by simpa [wList] using hl)) ?_))
      rintro _ w4 ⟨o4, ⟨q4, c4, rfl⟩, e4⟩
      have zs_e4 := e4.size
      refine l_v (v_assign (t := .slice _ _ _) rfl) ?_
      refine l_v (v_assign rfl) ?_
      refine l_nil ?_
      refine n_then ?_
      refine wp_ret ?_
      refine ret2 rfl (by decide) (by decide) ?_
      have hfl : (wNum xs.length :: xs.map sp).flatten = wList sp xs := by simp [wList]
      rw [hfl] at o4 ⊢
      exact ⟨q4, c4, rfl, o4.base (by omega), e3.trans e4⟩


abbrev tP2 : Ty (Int × Int) := tPair (tInt .u64) (tInt .u64)
theorem putP_c {w : World} {v : Value} {F : Nat → Prop} {xs : List ((Int × Int))} {fr : Nat} {cap : Array Value} (hv : SlV (tP2) w F v xs) (hb : kBody Try.prog fr = true) (sp : (Int × Int) → List UInt8)
    (hform : ∀ (w1 : World) (cs : List Value) (x : (Int × Int)), Ext w w1 → (tP2).rep w1 F cs x → x ∈ xs → CallsR Try.prog fr (#[.agg cs.toArray] ++ cap) w1 (fun r w2 => OwV tU8 nU8 w2 w1.heap.size NoK r (sp x) ∧ Ext w1 w2))
    (hl : (wList sp xs).length ≤ 140737488355300) (hn : xs.length ≤ 5000000000000) :
    CallsR Try.prog 29 #[v, .func (.func fr) #[] cap] w (fun r w' => ∃ q c, r = .tuple #[.slice (some q) (wList sp xs).length c, .int .i64 0] ∧ OwV tU8 nU8 w' w.heap.size NoK (.slice (some q) (wList sp xs).length c) (wList sp xs) ∧ Ext w w') := by
  obtain ⟨a, c, rfl⟩ := hv.shape
  obtain ⟨w0, rfl⟩ : ∃ x, x = w := ⟨w, rfl⟩
  refine enter 32 Try.func29 rfl rfl (by simp) ?_
  refine c_seq ?_
  refine wp_reg (by decide +kernel) ?_
  refine l_v (v_assign rfl) ?_
  refine l_v (v_assign rfl) ?_
  refine l_nil ?_
  refine n_then ?_
  refine c_seq ?_
  refine c_seq ?_
  refine wp_reg (by decide +kernel) ?_
  refine l_v (v_move (t := .func _ _ _) rfl) ?_
  refine l_v (v_feqlnil (ps := #[56]) (rs := #[22]) (v := false) (by kernel_rfl) rfl rfl) ?_
  refine l_nil ?_
  refine n_then ?_
  refine c_cond rfl rfl (fun hc => ?_) (fun hc => ?_)
  · skip
    cases hc
  · skip
    refine wp_skip ?_
    refine n_then ?_
    refine c_seq ?_
    refine wp_reg (by decide +kernel) ?_
    refine l_v (v_move (t := .slice _ _ _) rfl) ?_
    refine l_v (v_len (et := 56) (by kernel_rfl) rfl) ?_
    refine l_v (v_conv (ds := .int .i64) (by kernel_rfl) (by kernel_rfl) rfl (by first | exact wr_u64 (by omega) (by omega) | rfl)) ?_
    refine l_to (to_f1 (by kernel_rfl) (show _ = (Value.int _ _) from rfl) (CallsR.mono (Number_c (n := xs.length) (by omega)) ?_))
    rintro _ w1 ⟨o1, ⟨q1, c1, rfl⟩, e1⟩
    have zs_e1 := e1.size
    refine l_to (to_slice1 (t := tSl tU8) (et := 22) (bytes := 24) (by kernel_rfl) (by decide) (show _ = (Value.slice _ _ _) from rfl) ((show (tSl tU8).rep _ _ [_] _ from ⟨_, rfl, o1.view⟩)) ?_)
    rintro b2 w2 rfl o2 e2 z2
    have zs_e2 := e2.size
    refine l_v (v_assign (t := .slice _ _ _) rfl) ?_
    refine l_nil ?_
    refine n_then ?_
    refine c_seq ?_
    refine c_seq ?_
    refine wp_reg (by decide +kernel) ?_
    refine l_v (v_move (t := .slice _ _ _) rfl) ?_
    refine l_v (v_len (et := 56) (by kernel_rfl) rfl) ?_
    refine l_v (v_move rfl) ?_
    refine l_nil ?_
    refine n_then ?_
    refine wp_block ?_
    refine c_loop (τ := Option Addr × Nat × Nat) [6, 7, 17, 18, 19, 20, 21, 22, 23, 24, 25, 26, 27, 28, 29] (fun (a1, c1, k) => [(6, .slice a1 (k + 1) c1), (17, .int .i64 k)]) (fun (a1, c1, k) w => OwV (tSl tU8) nSl w w0.heap.size (fun b => w0.heap.size ≤ b) (.slice a1 (k + 1) c1) (wNum xs.length :: (xs.take k).map sp) ∧ Ext w0 w ∧ k ≤ xs.length) (fun (a1, c1, k) => xs.length - k) (some ⟨w1.heap.size, 0, none⟩, 1, 0) (by exact ⟨rfl, rfl, trivial⟩) (by exact ⟨(o2.base (by omega)).mono (fun b _ h => by rcases h.1 with h | h; exact h; exact h.elim), e1.trans e2, Nat.zero_le _⟩) ?_
    rintro ⟨a1, c1, k⟩ w3 j ⟨o3, e3, h3⟩
    refine c_seq ?_
    refine wp_reg (by decide +kernel) ?_
    refine l_v (v_lss rfl rfl) ?_
    refine l_nil ?_
    refine n_then ?_
    refine c_seq ?_
    refine c_cond rfl rfl (fun hc2 => ?_) (fun hc2 => ?_)
    · skip
      have hc2 := dtrue hc2
      have zs_e3 := e3.size
      obtain ⟨x, hx⟩ : ∃ x, xs[k]? = some x := ⟨xs[k]'(by omega), by simp [show k < xs.length by omega]⟩
      have hlk : (wNum xs.length :: (xs.take k).map sp).length = k + 1 := by simp; omega
      refine wp_skip ?_
      refine n_then ?_
      refine c_seq ?_
      refine wp_block ?_
      refine c_seq ?_
      refine wp_reg (by decide +kernel) ?_
      refine l_v (v_move (t := .int _ _) rfl) ?_
      refine l_v (v_assign (t := .int _ _) rfl) ?_
      refine l_nil ?_
      refine n_then ?_
      refine wp_reg (by decide +kernel) ?_
      refine l_v (v_move (t := .slice _ _ _) rfl) ?_
      refine l_v (v_move (t := .func _ _ _) rfl) ?_
      refine l_v (v_move (t := .slice _ _ _) rfl) ?_
      refine l_v (v_move (t := .int _ _) rfl) ?_
      refine l_to (to_index (et := 56) (by kernel_rfl) (by kernel_rfl) (show _ = (Value.slice _ _ _) from rfl) (hv.ext e3) (show _ = (Value.int _ _) from rfl) rfl hx ?_)
      rintro q cs hF hp hr
      skip
      refine l_v (v_loadA (n := 2) (by kernel_rfl) rfl hp (tP2.len hr)) ?_
      refine l_to (to_call1 hb rfl (show _ = (Value.agg _) from rfl) (CallsR.mono ((hform w3 _ x e3 hr (List.mem_of_getElem? hx))) ?_))
      rintro _ w4 ⟨o4, e4⟩
      have zs_e4 := e4.size
      obtain ⟨a4, c4, rfl⟩ := o4.shape
      refine l_to (to_slice1 (t := tSl tU8) (et := 22) (bytes := 24) (by kernel_rfl) (by decide) (show _ = (Value.slice _ _ _) from rfl) ((show (tSl tU8).rep _ _ [_] _ from ⟨_, rfl, o4.view⟩)) ?_)
      rintro b5 w5 rfl o5 e5 z5
      have zs_e5 := e5.size
      refine l_to (to_append (et := 22) (bytes := 24) (by kernel_rfl) (show _ = (Value.slice _ _ _) from rfl) (o3.ext (e4.trans e5)) (show _ = (Value.slice _ _ _) from rfl) o5.view ((OwV_sep o3 (by intro b hb; simp only [NoK, or_false] at hb; omega) (by omega))) (by first | omega | (simp; done) | (simp; omega)) (by simp only [maxLen]; first | omega | (simp; done) | (simp; omega)) (by omega) ?_)
      rintro a6 n6 c6 w6 o6 hn6 k6 b6 i6
      have zs_k6 := k6.size
      have hlk2 : ((wNum xs.length :: (xs.take k).map sp) ++ [sp x]).length = k + 1 + 1 := by simp; omega
      rw [hlk2] at hn6
      subst hn6
      have e6 : Ext w0 w6 := ((e3.trans e4).trans e5).step k6 fun b hb h => by have := (o3.own_lt h).1; omega
      have htk : (xs.take (k + 1)).map sp = (xs.take k).map sp ++ [sp x] := by rw [List.take_add_one, hx]; simp
      refine l_v (v_assign (t := .slice _ _ _) rfl) ?_
      refine l_nil ?_
      refine n_blk ?_
      refine n_then ?_
      refine wp_reg (by decide +kernel) ?_
      refine l_v (v_add rfl rfl (by first | exact wr_i64 (by omega) (by omega) | rfl)) ?_
      refine l_v (v_move (t := .int _ _) rfl) ?_
      refine l_nil ?_
      refine n_then ?_
      refine ⟨(a6, c6, k + 1), _, rfl, by (repeat (first | exact Off.of_over _ _ _ | refine Off.upd ?_ (by decide) _)), ⟨by first | rfl | exact congrArg (Value.int _) (by omega) | (simp; done), by first | rfl | exact congrArg (Value.int _) (by omega) | (simp; done), trivial⟩, ?_, ?_⟩
      · exact ⟨by rw [htk]; exact o6, e6, by omega⟩
      · dsimp only; omega
    · skip
      have hc2 := dfalse hc2
      obtain rfl : k = xs.length := by omega
      rw [List.take_length] at o3
      have zs_e3 := e3.size
      refine wp_exit ?_
      refine x_then ?_
      refine x_then ?_
      refine x_hit ?_
      refine n_then ?_
      refine c_seq ?_
      refine wp_reg (by decide +kernel) ?_
      refine l_v (v_move (t := .slice _ _ _) rfl) ?_
      refine l_to (to_f1 (by kernel_rfl) (show _ = (Value.slice _ _ _) from rfl) (CallsR.mono (Join_c o3.view (by simpa [wList] using hl)) ?_))
      rintro _ w4 ⟨o4, ⟨q4, c4, rfl⟩, e4⟩
      have zs_e4 := e4.size
      refine l_v (v_assign (t := .slice _ _ _) rfl) ?_
      refine l_v (v_assign rfl) ?_
      refine l_nil ?_
      refine n_then ?_
      refine wp_ret ?_
      refine ret2 rfl (by decide) (by decide) ?_
      have hfl : (wNum xs.length :: xs.map sp).flatten = wList sp xs := by simp [wList]
      rw [hfl] at o4 ⊢
      exact ⟨q4, c4, rfl, o4.base (by omega), e3.trans e4⟩

end Go.Proofs.Ythnpnniiejcnbaa
