/- A part of the proof: steps and lemmas for the walks through the given program. -/
import Derived.Test.YtaidpdjlchnonaaNc
import Derived.Test.YtaidpdjlchnonaaGn
namespace Go.Proofs.Ytaidpdjlchnonaa
open Go.Vc
set_option linter.unusedVariables false
set_option linter.unusedSimpArgs false
set_option maxRecDepth 100000

/-- a message's bytes -/
def msW (m : Ms) : List UInt8 := hdW m ++ optW (kNm m.kind 0) (wNum m.idx.toNat) ++ optW (kNm m.kind 1) (wNum m.lt.toNat) ++ optW (kNm m.kind 2) (wNum m.com.toNat) ++ optW (kNm m.kind 3) (wList spE m.ents) ++ optW (kNm m.kind 4) (wFlag m.ok) ++ optW (kNm m.kind 5) (wBytes m.snap)
theorem putK_c {w : World} {n : Int} (h0 : 0 ≤ n) (hn : n ≤ 9223372036854775807) : CallsR Try.prog 43 #[.int .i64 n] w (fun r w' => OwV tU8 nU8 w' w.heap.size NoK r (wNum n.toNat) ∧ (∃ q c, r = .slice (some q) (wNum n.toNat).length c) ∧ Ext w w') := by
  obtain ⟨n, rfl⟩ := Int.eq_ofNat_of_zero_le h0
  refine enter 6 Try.func43 rfl rfl (by simp) ?_
  refine c_seq ?_
  have E := Keep.refl (K := NoK) w
  refine wp_reg (by decide +kernel) ?_
  refine l_v (v_assign rfl) ?_
  refine l_nil ?_
  refine n_then ?_
  refine c_seq ?_
  refine wp_reg (by decide +kernel) ?_
  refine l_v (v_move (t := .int _ _) rfl) ?_
  refine l_v (v_conv (ds := .int .i64) (by kernel_rfl) (by kernel_rfl) rfl (by first | exact wr_u64 (by omega) (by omega) | rfl)) ?_
  refine l_to (to_f1 (by kernel_rfl) (show _ = (Value.int _ _) from rfl) (CallsR.mono (Number_c (n := n) (by omega)) ?_))
  rintro _ w1 ⟨HO1, ⟨q1, c1, rfl⟩, e1⟩
  have zs_e1 := e1.size
  replace E := E.trans (Ext.keep e1)
  have zo_HO1 := fun (b : Nat) h => HO1.own_lt (b := b) h
  refine l_v (v_assign (t := .slice _ _ _) rfl) ?_
  refine l_nil ?_
  refine n_then ?_
  refine c_ret ?_
  refine ret1v rfl (by decide) (show _ = (Value.slice _ _ _) from rfl) ?_
  exact ⟨HO1, ⟨q1, c1, rfl⟩, E⟩
theorem putI_c {w : World} {n : Int} (h0 : 0 ≤ n) (hn : n ≤ 9223372036854775807) : CallsR Try.prog 44 #[.int .i64 n] w (fun r w' => OwV tU8 nU8 w' w.heap.size NoK r (wNum n.toNat) ∧ (∃ q c, r = .slice (some q) (wNum n.toNat).length c) ∧ Ext w w') := by
  obtain ⟨n, rfl⟩ := Int.eq_ofNat_of_zero_le h0
  refine enter 6 Try.func44 rfl rfl (by simp) ?_
  refine c_seq ?_
  have E := Keep.refl (K := NoK) w
  refine wp_reg (by decide +kernel) ?_
  refine l_v (v_assign rfl) ?_
  refine l_nil ?_
  refine n_then ?_
  refine c_seq ?_
  refine wp_reg (by decide +kernel) ?_
  refine l_v (v_move (t := .int _ _) rfl) ?_
  refine l_v (v_conv (ds := .int .i64) (by kernel_rfl) (by kernel_rfl) rfl (by first | exact wr_u64 (by omega) (by omega) | rfl)) ?_
  refine l_to (to_f1 (by kernel_rfl) (show _ = (Value.int _ _) from rfl) (CallsR.mono (Number_c (n := n) (by omega)) ?_))
  rintro _ w1 ⟨HO1, ⟨q1, c1, rfl⟩, e1⟩
  have zs_e1 := e1.size
  replace E := E.trans (Ext.keep e1)
  have zo_HO1 := fun (b : Nat) h => HO1.own_lt (b := b) h
  refine l_v (v_assign (t := .slice _ _ _) rfl) ?_
  refine l_nil ?_
  refine n_then ?_
  refine c_ret ?_
  refine ret1v rfl (by decide) (show _ = (Value.slice _ _ _) from rfl) ?_
  exact ⟨HO1, ⟨q1, c1, rfl⟩, E⟩
theorem putL_c {w : World} {n : Int} (h0 : 0 ≤ n) (hn : n ≤ 9223372036854775807) : CallsR Try.prog 45 #[.int .i64 n] w (fun r w' => OwV tU8 nU8 w' w.heap.size NoK r (wNum n.toNat) ∧ (∃ q c, r = .slice (some q) (wNum n.toNat).length c) ∧ Ext w w') := by
  obtain ⟨n, rfl⟩ := Int.eq_ofNat_of_zero_le h0
  refine enter 6 Try.func45 rfl rfl (by simp) ?_
  refine c_seq ?_
  have E := Keep.refl (K := NoK) w
  refine wp_reg (by decide +kernel) ?_
  refine l_v (v_assign rfl) ?_
  refine l_nil ?_
  refine n_then ?_
  refine c_seq ?_
  refine wp_reg (by decide +kernel) ?_
  refine l_v (v_move (t := .int _ _) rfl) ?_
  refine l_v (v_conv (ds := .int .i64) (by kernel_rfl) (by kernel_rfl) rfl (by first | exact wr_u64 (by omega) (by omega) | rfl)) ?_
  refine l_to (to_f1 (by kernel_rfl) (show _ = (Value.int _ _) from rfl) (CallsR.mono (Number_c (n := n) (by omega)) ?_))
  rintro _ w1 ⟨HO1, ⟨q1, c1, rfl⟩, e1⟩
  have zs_e1 := e1.size
  replace E := E.trans (Ext.keep e1)
  have zo_HO1 := fun (b : Nat) h => HO1.own_lt (b := b) h
  refine l_v (v_assign (t := .slice _ _ _) rfl) ?_
  refine l_nil ?_
  refine n_then ?_
  refine c_ret ?_
  refine ret1v rfl (by decide) (show _ = (Value.slice _ _ _) from rfl) ?_
  exact ⟨HO1, ⟨q1, c1, rfl⟩, E⟩
theorem putE_c {w : World} {v : Value} {F : Nat → Prop} {xs : List (EnV)} {fr : Nat} {cap : Array Value} (hv : SlV (tEn) w F v xs) (hb : kBody Try.prog fr = true) (sp : EnV → List UInt8)
    (hform : ∀ (w1 : World) (cs : List Value) (x : EnV), Ext w w1 → (tEn).rep w1 F cs x → x ∈ xs → CallsR Try.prog fr (#[.agg cs.toArray] ++ cap) w1 (fun r w2 => OwV tU8 nU8 w2 w1.heap.size NoK r (sp x) ∧ Ext w1 w2))
    (hl : (wList sp xs).length ≤ 140737488355300) (hn : xs.length ≤ 5000000000000) :
    CallsR Try.prog 47 #[v, .func (.func fr) #[] cap] w (fun r w' => ∃ q c, r = .tuple #[.slice (some q) (wList sp xs).length c, .int .i64 0] ∧ OwV tU8 nU8 w' w.heap.size NoK (.slice (some q) (wList sp xs).length c) (wList sp xs) ∧ Ext w w') := by
  obtain ⟨a, c, rfl⟩ := hv.shape
  obtain ⟨w0, rfl⟩ : ∃ x, x = w := ⟨w, rfl⟩
  refine enter 32 Try.func47 rfl rfl (by simp) ?_
  refine c_seq ?_
  refine wp_reg (by decide +kernel) ?_
  refine l_v (v_assign rfl) ?_
  refine l_v (v_assign rfl) ?_
  refine l_nil ?_
  refine n_then ?_
  refine c_seq ?_
  refine c_seq ?_
  refine wp_reg (by decide +kernel) ?_
  refine l_v (v_move (t := .func _ _ _) rfl) ?_
  refine l_v (v_feqlnil (ps := #[73]) (rs := #[24]) (v := false) (by kernel_rfl) rfl rfl) ?_
  refine l_nil ?_
  refine n_then ?_
  refine c_cond rfl rfl (fun hc => ?_) (fun hc => ?_)
  · skip
    cases hc
  · skip
    refine c_skip ?_
    refine n_then ?_
    refine c_seq ?_
    refine wp_reg (by decide +kernel) ?_
    refine l_v (v_move (t := .slice _ _ _) rfl) ?_
    refine l_v (v_len (et := 73) (by kernel_rfl) rfl) ?_
    refine l_v (v_conv (ds := .int .i64) (by kernel_rfl) (by kernel_rfl) rfl (by first | exact wr_u64 (by omega) (by omega) | rfl)) ?_
    refine l_to (to_f1 (by kernel_rfl) (show _ = (Value.int _ _) from rfl) (CallsR.mono (Number_c (n := xs.length) (by omega)) ?_))
    rintro _ w1 ⟨o1, ⟨q1, c1, rfl⟩, e1⟩
    have zs_e1 := e1.size
    refine l_to (to_slice1 (t := tSl tU8) (et := 24) (bytes := 24) (by kernel_rfl) (by decide) (show _ = (Value.slice _ _ _) from rfl) ((show (tSl tU8).rep _ _ [_] _ from ⟨_, rfl, o1.view⟩)) ?_)
    rintro b2 w2 rfl o2 e2 z2
    have zs_e2 := e2.size
    refine l_v (v_assign (t := .slice _ _ _) rfl) ?_
    refine l_nil ?_
    refine n_then ?_
    refine c_seq ?_
    refine c_seq ?_
    refine wp_reg (by decide +kernel) ?_
    refine l_v (v_move (t := .slice _ _ _) rfl) ?_
    refine l_v (v_len (et := 73) (by kernel_rfl) rfl) ?_
    refine l_v (v_move rfl) ?_
    refine l_nil ?_
    refine n_then ?_
    refine c_block ?_
    refine c_loop (τ := Option Addr × Nat × Nat) [6, 7, 17, 18, 19, 20, 21, 22, 23, 24, 25, 26, 27, 28, 29] (fun (a1, c1, k) => [(6, .slice a1 (k + 1) c1), (17, .int .i64 k)]) (fun (a1, c1, k) w => OwV (tSl tU8) nSl w w0.heap.size (fun b => w0.heap.size ≤ b) (.slice a1 (k + 1) c1) (wNum xs.length :: (xs.take k).map sp) ∧ Ext w0 w ∧ k ≤ xs.length) (fun (a1, c1, k) => xs.length - k) (some ⟨w1.heap.size, 0, none⟩, 1, 0) (by exact ⟨rfl, rfl, trivial⟩) (by exact ⟨(o2.base (by omega)).mono (fun b _ h => by rcases h.1 with h | h; exact h; exact h.elim), e1.trans e2, Nat.zero_le _⟩) ?_
    rintro ⟨a1, c1, k⟩ w3 j ⟨o3, e3, h3⟩
    refine c_seq ?_
    refine wp_reg (by decide +kernel) ?_
    refine l_v (v_lss rfl rfl) ?_
    refine l_nil ?_
    refine n_then ?_
    refine c_seq ?_
    refine c_cond rfl rfl (fun hc2 => ?_) (fun hc2 => ?_)
    · skip
      have hc2 := dtrue hc2
      have zs_e3 := e3.size
      obtain ⟨x, hx⟩ : ∃ x, xs[k]? = some x := ⟨xs[k]'(by omega), by simp [show k < xs.length by omega]⟩
      have hlk : (wNum xs.length :: (xs.take k).map sp).length = k + 1 := by simp; omega
      refine c_skip ?_
      refine n_then ?_
      refine c_seq ?_
      refine c_block ?_
      refine c_seq ?_
      refine wp_reg (by decide +kernel) ?_
      refine l_v (v_move (t := .int _ _) rfl) ?_
      refine l_v (v_assign (t := .int _ _) rfl) ?_
      refine l_nil ?_
      refine n_then ?_
      refine wp_reg (by decide +kernel) ?_
      refine l_v (v_move (t := .slice _ _ _) rfl) ?_
      refine l_v (v_move (t := .func _ _ _) rfl) ?_
      refine l_v (v_move (t := .slice _ _ _) rfl) ?_
      refine l_v (v_move (t := .int _ _) rfl) ?_
      refine l_to (to_index (et := 73) (by kernel_rfl) (by kernel_rfl) (show _ = (Value.slice _ _ _) from rfl) (hv.ext e3) (show _ = (Value.int _ _) from rfl) rfl hx ?_)
      rintro q cs hF hp hr
      skip
      refine l_v (v_loadA (n := 2) (by kernel_rfl) rfl hp (tEn.len hr)) ?_
      refine l_to (to_call1 hb rfl (show _ = (Value.agg _) from rfl) (CallsR.mono ((hform w3 _ x e3 hr (List.mem_of_getElem? hx))) ?_))
      rintro _ w4 ⟨o4, e4⟩
      have zs_e4 := e4.size
      obtain ⟨a4, c4, rfl⟩ := o4.shape
      refine l_to (to_slice1 (t := tSl tU8) (et := 24) (bytes := 24) (by kernel_rfl) (by decide) (show _ = (Value.slice _ _ _) from rfl) ((show (tSl tU8).rep _ _ [_] _ from ⟨_, rfl, o4.view⟩)) ?_)
      rintro b5 w5 rfl o5 e5 z5
      have zs_e5 := e5.size
      refine l_to (to_append (et := 24) (bytes := 24) (by kernel_rfl) (show _ = (Value.slice _ _ _) from rfl) (o3.ext (e4.trans e5)) (show _ = (Value.slice _ _ _) from rfl) o5.view ((OwV_sep o3 (by intro b hb; simp only [NoK, or_false] at hb; omega) (by omega))) (by first | omega | (simp; done) | (simp; omega)) (by simp only [maxLen]; first | omega | (simp; done) | (simp; omega)) (by omega) ?_)
      rintro a6 n6 c6 w6 o6 hn6 k6 b6 i6
      have zs_k6 := k6.size
      have hlk2 : ((wNum xs.length :: (xs.take k).map sp) ++ [sp x]).length = k + 1 + 1 := by simp; omega
      rw [hlk2] at hn6
      subst hn6
      have e6 : Ext w0 w6 := ((e3.trans e4).trans e5).step k6 fun b hb h => by have := (o3.own_lt h).1; omega
      have htk : (xs.take (k + 1)).map sp = (xs.take k).map sp ++ [sp x] := by rw [List.take_add_one, hx]; simp
      refine l_v (v_assign (t := .slice _ _ _) rfl) ?_
      refine l_nil ?_
      refine n_blk ?_
      refine n_then ?_
      refine wp_reg (by decide +kernel) ?_
      refine l_v (v_add rfl rfl (by first | exact wr_i64 (by omega) (by omega) | rfl)) ?_
      refine l_v (v_move (t := .int _ _) rfl) ?_
      refine l_nil ?_
      refine n_then ?_
      refine ⟨(a6, c6, k + 1), _, rfl, by (repeat (first | exact Off.of_over _ _ _ | refine Off.upd ?_ (by decide) _ | refine Off.overs ?_ (by decide) _)), ⟨by first | rfl | exact congrArg (Value.int _) (by omega) | (simp; done), by first | rfl | exact congrArg (Value.int _) (by omega) | (simp; done), trivial⟩, ?_, ?_⟩
      · exact ⟨by rw [htk]; exact o6, e6, by omega⟩
      · dsimp only; omega
    · skip
      have hc2 := dfalse hc2
      obtain rfl : k = xs.length := by omega
      rw [List.take_length] at o3
      have zs_e3 := e3.size
      refine c_exit ?_
      refine x_then ?_
      refine x_then ?_
      refine x_hit ?_
      refine n_then ?_
      refine c_seq ?_
      refine wp_reg (by decide +kernel) ?_
      refine l_v (v_move (t := .slice _ _ _) rfl) ?_
      refine l_to (to_f1 (by kernel_rfl) (show _ = (Value.slice _ _ _) from rfl) (CallsR.mono (Join_c o3.view (by simpa [wList] using hl)) ?_))
      rintro _ w4 ⟨o4, ⟨q4, c4, rfl⟩, e4⟩
      have zs_e4 := e4.size
      refine l_v (v_assign (t := .slice _ _ _) rfl) ?_
      refine l_v (v_assign rfl) ?_
      refine l_nil ?_
      refine n_then ?_
      refine c_ret ?_
      refine ret2 rfl (by decide) (by decide) ?_
      have hfl : (wNum xs.length :: xs.map sp).flatten = wList sp xs := by simp [wList]
      rw [hfl] at o4 ⊢
      exact ⟨q4, c4, rfl, o4.base (by omega), e3.trans e4⟩


theorem eBytes_c {w : World} {F : Nat → Prop} {cs : List Value} {x : EnV} (hr : tEn.rep w F cs x) (hl : x.2.length ≤ 2000000) (h0 : 0 ≤ x.1) : CallsR Try.prog 48 (#[.agg cs.toArray] ++ #[]) w (fun r w2 => OwV tU8 nU8 w2 w.heap.size NoK r (spE x) ∧ Ext w w2) := by
  obtain ⟨a1, c1, rfl, HS1, hg⟩ := tEn_cells hr
  obtain ⟨t, dd⟩ := x
  simp only at hl h0 hg HS1
  have hg2 := hg.2
  have hwl := wNum_len10 (n := t.toNat) (by omega)
  have hwb : (wBytes dd).length ≤ dd.length + 10 := by have := wNum_len10 (n := dd.length) (by omega); rw [wBytes, List.length_append]; omega
  show CallsR _ _ #[_] _ _
  refine enter 11 Try.func48 rfl rfl (by simp) ?_
  refine c_seq ?_
  have E := Keep.refl (K := NoK) w
  replace HS1 := HS1.all
  refine wp_reg (by decide +kernel) ?_
  refine l_to (to_box (show _ = (Value.agg _) from rfl) ?_)
  rintro b1 w1 zb1 HB1 e1 z1
  have zs_e1 := e1.size
  replace E := E.trans (Ext.keep e1)
  replace HS1 := HS1.ext e1
  try simp only [Value.cells] at HB1
  refine l_v (v_assign rfl) ?_
  refine l_nil ?_
  refine n_then ?_
  refine c_seq ?_
  refine wp_any (by kernel_rfl) ?_
  have e101 : Ext w1 { w1 with drawn := w1.drawn + 1 } := Keep.drawn _ _
  generalize hw101 : ({ w1 with drawn := w1.drawn + 1 } : World) = w101 at e101 ⊢
  clear hw101
  have zs_e101 := e101.size
  replace E := E.trans (Ext.keep e101)
  replace HS1 := HS1.ext e101
  replace HB1 := HB1.ext e101
  refine r_cut 5 rfl (by decide +kernel) (by decide +kernel) (by decide +kernel) ?_
  refine wp_regdW (NoK) (by decide +kernel) (by decide +kernel) ?_
  refine rt_v (fun vals w hR hd => v_fieldAddr (off := 0) (ft := 2) (by kernel_rfl) rfl) ?_
  refine rt_v (fun vals w hR hd => v_load (by kernel_rfl) (hd 0 rfl) (by first | exact (HB1.ext hR).pv 0 _ rfl | assumption)) ?_
  refine rt_to (fun v W => Bv W AllB v (wNum t.toNat)) (fun v w w' h k => h.ext k) (fun vals w hR hd => to_f1 (by kernel_rfl) (hd 1 rfl) (CallsR.mono (putL_c h0 hg2) fun v w1 ⟨h, _, e⟩ => ⟨e, h.view.allB⟩)) ?_
  refine rt_v (fun vals w hR hd => v_fieldAddr (off := 1) (ft := 24) (by kernel_rfl) rfl) ?_
  refine rt_v (fun vals w hR hd => v_load (by kernel_rfl) (hd 3 rfl) (by first | exact (HB1.ext hR).pv 1 _ rfl | assumption)) ?_
  refine rt_nil (fun w102 e102 => ?_)
  rintro _ rfl _ rfl v5 HS5 _ rfl _ rfl
  have zs_e102 := e102.size
  obtain ⟨a5, d5, rfl⟩ := HS5.shape
  replace E := E.trans (Ext.keep e102)
  replace HS1 := HS1.ext e102
  replace HB1 := HB1.ext e102
  refine fin_nil ?_
  refine n_then ?_
  refine r_cut 1 rfl (by decide +kernel) (by decide +kernel) (by decide +kernel) ?_
  refine r_one (by decide +kernel) rfl ?_
  refine l_to (to_f1 (by kernel_rfl) (show _ = (Value.slice _ _ _) from rfl) (CallsR.mono (Bytes_c HS1 (by omega)) ?_))
  rintro _ w9 ⟨HO9, ⟨q9, c9, rfl⟩, e9⟩
  have zs_e9 := e9.size
  replace E := E.trans (Ext.keep e9)
  replace HS1 := HS1.ext e9
  replace HB1 := HB1.ext e9
  replace HS5 := HS5.ext e9
  have zo_HO9 := fun (b : Nat) h => HO9.own_lt (b := b) h
  refine l_nil ?_
  refine n_then ?_
  refine r_cut 1 rfl (by decide +kernel) (by decide +kernel) (by decide +kernel) ?_
  refine r_one (by decide +kernel) rfl ?_
  refine l_to (to_sliceN (t := tSl tU8) (xs := [wNum t.toNat, wBytes dd]) (et := 24) (bytes := 24) (zl := [.slice none 0 0, .slice none 0 0]) (by kernel_rfl) (by decide) (by decide) (by unfold kZeros; kernel_rfl) rfl (cells := [_, _]) rfl rfl rfl ((reps2 (t := tSl tU8) (c1 := [_]) (c2 := [_]) ⟨_, rfl, HS5⟩ ⟨_, rfl, HO9.view.allB⟩)) ?_)
  rintro b10 w10 zb10 HO10 e10 z10
  have zs_e10 := e10.size
  replace E := E.trans (Ext.keep e10)
  replace HS1 := HS1.ext e10
  replace HB1 := HB1.ext e10
  replace HS5 := HS5.ext e10
  replace HO9 := HO9.ext e10
  have zo_HO10 := fun (b : Nat) h => HO10.own_lt (b := b) h
  refine l_nil ?_
  refine n_then ?_
  refine r_cut 1 rfl (by decide +kernel) (by decide +kernel) (by decide +kernel) ?_
  refine r_one (by decide +kernel) rfl ?_
  refine l_to (to_f1 (by kernel_rfl) (show _ = (Value.slice _ _ _) from rfl) (CallsR.mono (Join_c HO10.view (by simp; omega)) ?_))
  rintro _ w11 ⟨HO11, ⟨q11, c11, rfl⟩, e11⟩
  have zs_e11 := e11.size
  replace E := E.trans (Ext.keep e11)
  replace HS1 := HS1.ext e11
  replace HB1 := HB1.ext e11
  replace HS5 := HS5.ext e11
  replace HO9 := HO9.ext e11
  replace HO10 := HO10.ext e11
  have zo_HO11 := fun (b : Nat) h => HO11.own_lt (b := b) h
  refine l_nil ?_
  refine n_then ?_
  refine r_one (by decide +kernel) rfl ?_
  refine l_v (v_assign (t := .slice _ _ _) rfl) ?_
  refine l_nil ?_
  refine n_then ?_
  refine c_ret ?_
  refine ret1v rfl (by decide) (show _ = (Value.slice _ _ _) from rfl) ?_
  refine ⟨?_, E⟩
  have h : [wNum t.toNat, wBytes dd].flatten = spE (t, dd) := by simp [spE]
  rw [h] at HO11 ⊢
  exact HO11.base (by omega)
theorem more_c {w : World} {F : Nat → Prop} {b n c n0 : Nat} {a : Option Addr} {x : List UInt8} {v : Value} {is : Bool} {ls : List (List UInt8)} (HB1 : Blk w b [.slice a n c] 24) (HS1 : Bv w (fun i => i ≠ b ∧ n0 ≤ i) (.slice a n c) x) (HS2 : SlV (tSl tU8) w F v ls) (hn0 : n0 ≤ w.heap.size) (hl : x.length + ls.flatten.length ≤ 140737488355300) :
    CallsR Try.prog 46 (#[.bool is, v] ++ #[.pointer (some ⟨b, 0, none⟩)]) w (fun o w' => (∃ a' c', Blk w' b [.slice a' (x ++ optW is ls.flatten).length c'] 24 ∧ Bv w' (fun i => i ≠ b ∧ n0 ≤ i) (.slice a' (x ++ optW is ls.flatten).length c') (x ++ optW is ls.flatten)) ∧ Keep (fun i => i = b) w w') := by
  obtain ⟨a2, c2, rfl⟩ := HS2.shape
  obtain ⟨a1, c1, hv⟩ := HS1.shape
  cases hv
  have zl1 := HB1.lt
  show CallsR _ _ #[_, _, _] _ _
  refine enter 11 Try.func46 rfl rfl (by simp) ?_
  refine c_seq ?_
  have E := Keep.refl (K := fun i => i = b) w
  refine wp_reg (by decide +kernel) ?_
  refine l_v (v_move (t := .bool _) rfl) ?_
  refine l_nil ?_
  refine n_then ?_
  refine c_cond rfl rfl (fun hc => ?_) (fun hc => ?_)
  · skip
    refine wp_any (by kernel_rfl) ?_
    have e101 : Ext w { w with drawn := w.drawn + 1 } := Keep.drawn _ _
    generalize hw101 : ({ w with drawn := w.drawn + 1 } : World) = w101 at e101 ⊢
    clear hw101
    have zs_e101 := e101.size
    replace E := E.trans (Ext.keep e101)
    replace HB1 := HB1.ext e101
    replace HS1 := HS1.ext e101
    replace HS2 := HS2.ext e101
    refine r_cut 3 rfl (by decide +kernel) (by decide +kernel) (by decide +kernel) ?_
    refine wp_regdW (NoK) (by decide +kernel) (by decide +kernel) ?_
    refine rt_v (fun vals w hR hd => v_load (by kernel_rfl) rfl (by first | exact (HB1.ext hR).cell rfl | assumption)) ?_
    refine rt_v (fun vals w hR hd => v_move (t := .slice _ _ _) rfl) ?_
    refine rt_to (fun v W => Bv W AllB v ls.flatten) (fun v w w' h k => h.ext k) (fun vals w hR hd => to_f1 (by kernel_rfl) (hd 1 rfl) (CallsR.mono (Join_c (HS2.ext hR) (by omega)) fun v w1 ⟨h, _, e⟩ => ⟨e, h.view.allB⟩)) ?_
    refine rt_nil (fun w102 e102 => ?_)
    rintro _ rfl _ rfl v9 HS9
    have zs_e102 := e102.size
    have HS9 : Bv _ AllB v9 ls.flatten := HS9
    obtain ⟨a9, c9, rfl⟩ := HS9.shape
    replace E := E.trans (Ext.keep e102)
    replace HB1 := HB1.ext e102
    replace HS1 := HS1.ext e102
    replace HS2 := HS2.ext e102
    refine fin_nil ?_
    refine n_then ?_
    refine r_cut 1 rfl (by decide +kernel) (by decide +kernel) (by decide +kernel) ?_
    refine r_one (by decide +kernel) rfl ?_
    refine l_to (to_sliceN (t := tSl tU8) (xs := [x, ls.flatten]) (et := 24) (bytes := 24) (zl := [.slice none 0 0, .slice none 0 0]) (by kernel_rfl) (by decide) (by decide) (by unfold kZeros; kernel_rfl) rfl (cells := [_, _]) rfl rfl rfl ((reps2 (t := tSl tU8) (c1 := [_]) (c2 := [_]) ⟨_, rfl, HS1.allB⟩ ⟨_, rfl, HS9⟩)) ?_)
    rintro b10 w10 zb10 HO10 e10 z10
    have zs_e10 := e10.size
    replace E := E.trans (Ext.keep e10)
    replace HB1 := HB1.ext e10
    replace HS1 := HS1.ext e10
    replace HS2 := HS2.ext e10
    replace HS9 := HS9.ext e10
    have zo_HO10 := fun (b : Nat) h => HO10.own_lt (b := b) h
    refine l_nil ?_
    refine n_then ?_
    refine r_cut 1 rfl (by decide +kernel) (by decide +kernel) (by decide +kernel) ?_
    refine r_one (by decide +kernel) rfl ?_
    refine l_to (to_f1 (by kernel_rfl) (show _ = (Value.slice _ _ _) from rfl) (CallsR.mono (Join_c HO10.view (by simp only [List.flatten_cons, List.flatten_nil, List.append_nil, List.length_append]; omega)) ?_))
    rintro _ w11 ⟨HO11, ⟨q11, c11, rfl⟩, e11⟩
    have zs_e11 := e11.size
    have HS11 := HO11.view.mono (F' := fun i => b < i ∧ n0 ≤ i) (fun i _ h => Or.elim h (fun h => by omega) (fun h => h.elim))
    replace E := E.trans (Ext.keep e11)
    replace HB1 := HB1.ext e11
    replace HS1 := HS1.ext e11
    replace HS2 := HS2.ext e11
    replace HS9 := HS9.ext e11
    replace HO10 := HO10.ext e11
    have zo_HO11 := fun (b : Nat) h => HO11.own_lt (b := b) h
    refine l_nil ?_
    refine n_then ?_
    refine r_one (by decide +kernel) rfl ?_
    refine l_to (to_store rfl rfl (show _ = (Value.slice _ _ _) from rfl) rfl (by kernel_rfl) HB1 (by simp) ?_)
    rintro w31 HB1 k31 z31
    have zs_k31 := k31.size
    try simp only [List.set_cons_zero, List.set_cons_succ] at HB1
    replace E := E.step k31 (by intro i hi he; (try dsimp only [NoK] at hi he ⊢); first | exact he.elim | omega | exact he)
    replace HS11 := HS11.keep k31 (by intro i _ hi he; (try dsimp only [NoK, AllB] at hi he); first | exact hi.elim | exact he.elim | omega | (rcases hi with hi | hi <;> omega) | (rcases he with he | he <;> omega))
    refine l_nil ?_
    refine end0 rfl ?_
    have h : [x, ls.flatten].flatten = x ++ optW true ls.flatten := by simp [optW]
    rw [h] at HB1 HS11
    rw [hc]
    exact ⟨⟨_, _, HB1, HS11.mono fun i _ h => by omega⟩, E⟩
  · skip
    refine c_skip ?_
    refine end0 rfl ?_
    rw [hc]
    have h : x = x ++ optW false ls.flatten := by simp [optW]
    rw [← h]
    exact ⟨⟨_, _, HB1, HS1⟩, E⟩
end Go.Proofs.Ytaidpdjlchnonaa
