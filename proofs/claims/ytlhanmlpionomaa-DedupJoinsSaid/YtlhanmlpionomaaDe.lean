/- A part of the proof: steps and lemmas for the walks through the given program. -/
import Derived.Test.YtlhanmlpionomaaDd
import Derived.Test.YtlhanmlpionomaaGu
import Derived.Test.YtlhanmlpionomaaGz
namespace Go.Proofs.Ytlhanmlpionomaa
open Go.Vc
set_option linter.unusedVariables false
set_option linter.unusedSimpArgs false
set_option maxRecDepth 100000

abbrev LnV := Int × AdV
def spLn (x : LnV) : List UInt8 := wNum x.1.toNat ++ wNum x.2.1.toNat ++ wNum x.2.2.1.toNat ++ wList spPr x.2.2.2.1 ++ wBytes x.2.2.2.2
def lnK (S : TbS) (c : Int) : LnV := (c, numS S c, ansS S c)
def tbW (S : TbS) : List UInt8 := wList spLn ((ksS S).map (lnK S))
theorem wl_pr {ps : List PrV} (h : ps.length ≤ 32) (h2 : ∀ p ∈ ps, p.1.length ≤ 24 ∧ p.2.length ≤ 40) : (wList spPr ps).length ≤ 3000 := by
  have h3 := flat_len (sp := spPr) (m := 84) (xs := ps) (fun p hp => by have := h2 p hp; have := spPr_len (p := p) (by omega) (by omega); omega)
  have h4 := wNum_len10 (n := ps.length) (by omega)
  have h5 : ps.length * 84 ≤ 32 * 84 := Nat.mul_le_mul_right _ h
  rw [wList, List.length_append]; omega
theorem ansS_may {S : TbS} (hok : TbOk S) (c : Int) : mayAn (ansS S c) = true := by
  unfold ansS
  cases hS : S c with
  | none => rfl
  | some x => exact (hok c x hS).2.2
theorem spLn_len {S : TbS} (hok : TbOk S) {c : Int} (h1 : 0 ≤ c) (h2 : c ≤ 4) : (spLn (lnK S c)).length ≤ 4000 := by
  obtain ⟨⟨g1, g2⟩, g3, g4, g5⟩ := mayAn_iff.1 (ansS_may hok c)
  obtain ⟨g6, g7⟩ := numS_rng hok c
  have k1 := wNum_len10 (n := c.toNat) (by omega)
  have k2 := wNum_len10 (n := (numS S c).toNat) (by omega)
  have k3 := wNum_len10 (n := (ansS S c).1.toNat) (by omega)
  have k4 := wl_pr g3 (fun p hp => by have := g5 p hp; omega)
  have k5 := wBytes_len10 (l := (ansS S c).2.2) (by omega)
  simp only [spLn, lnK, List.length_append]; omega
theorem prBytes_c {w : World} {F : Nat → Prop} {cs : List Value} {p : PrV} (hr : tPr.rep w F cs p) (hl : p.1.length ≤ 24) (hl2 : p.2.length ≤ 40) : CallsR Try.prog 48 (#[.agg cs.toArray] ++ #[]) w (fun r w2 => OwV tU8 nU8 w2 w.heap.size NoK r (spPr p) ∧ Ext w w2) := by
  obtain ⟨a1, c1, a2, c2, rfl, HS1, HS2⟩ := tPr_cells hr
  have hsp := spPr_len (p := p) (by omega) (by omega)
  show CallsR _ _ #[_] _ _
  refine enter 11 Try.func48 rfl rfl (by simp) ?_
  refine c_seq ?_
  have E := Keep.refl (K := NoK) w
  replace HS1 := HS1.all
  replace HS2 := HS2.all
  refine wp_reg (by decide +kernel) ?_
  refine l_to (to_box (show _ = (Value.agg _) from rfl) ?_)
  rintro b1 w1 zb1 HB1 e1 z1
  have zs_e1 := e1.size
  replace E := E.trans (Ext.keep e1)
  replace HS1 := HS1.ext e1
  replace HS2 := HS2.ext e1
  try simp only [Value.cells] at HB1
  refine l_v (v_assign rfl) ?_
  refine l_nil ?_
  refine n_then ?_
  refine c_seq ?_
  refine wp_any (by kernel_rfl) ?_
  have e101 : Ext w1 { w1 with drawn := w1.drawn + 1 } := Keep.drawn _ _
  generalize hw101 : ({ w1 with drawn := w1.drawn + 1 } : World) = w101 at e101 ⊢
  clear hw101
  have zs_e101 := e101.size
  replace E := E.trans (Ext.keep e101)
  replace HS1 := HS1.ext e101
  replace HS2 := HS2.ext e101
  replace HB1 := HB1.ext e101
  refine r_cut 5 rfl (by decide +kernel) (by decide +kernel) (by decide +kernel) ?_
  refine wp_regdW (NoK) (by decide +kernel) (by decide +kernel) ?_
  refine rt_v (fun vals w hR hd => v_fieldAddr (off := 0) (ft := 31) (by kernel_rfl) rfl) ?_
  refine rt_v (fun vals w hR hd => v_load (by kernel_rfl) (hd 0 rfl) (by first | exact (HB1.ext hR).pv 0 _ rfl | assumption)) ?_
  refine rt_to (fun v W => Bv W AllB v (wBytes p.1)) (fun v w w' h k => h.ext k) (fun vals w hR hd => to_f1 (by kernel_rfl) (hd 1 rfl) (CallsR.mono (Bytes_c (HS1.ext hR) (by omega)) fun v w1 ⟨h, _, e⟩ => ⟨e, h.view.allB⟩)) ?_
  refine rt_v (fun vals w hR hd => v_fieldAddr (off := 1) (ft := 31) (by kernel_rfl) rfl) ?_
  refine rt_v (fun vals w hR hd => v_load (by kernel_rfl) (hd 3 rfl) (by first | exact (HB1.ext hR).pv 1 _ rfl | assumption)) ?_
  refine rt_nil (fun w102 e102 => ?_)
  rintro _ rfl _ rfl v5 HS5 _ rfl _ rfl
  have zs_e102 := e102.size
  obtain ⟨a5, d5, rfl⟩ := HS5.shape
  replace E := E.trans (Ext.keep e102)
  replace HS1 := HS1.ext e102
  replace HS2 := HS2.ext e102
  replace HB1 := HB1.ext e102
  refine fin_nil ?_
  refine n_then ?_
  refine r_cut 1 rfl (by decide +kernel) (by decide +kernel) (by decide +kernel) ?_
  refine r_one (by decide +kernel) rfl ?_
  refine l_to (to_f1 (by kernel_rfl) (show _ = (Value.slice _ _ _) from rfl) (CallsR.mono (Bytes_c HS2 (by omega)) ?_))
  rintro _ w9 ⟨HO9, ⟨q9, c9, rfl⟩, e9⟩
  have zs_e9 := e9.size
  replace E := E.trans (Ext.keep e9)
  replace HS1 := HS1.ext e9
  replace HS2 := HS2.ext e9
  replace HB1 := HB1.ext e9
  replace HS5 := HS5.ext e9
  have zo_HO9 := fun (b : Nat) h => HO9.own_lt (b := b) h
  refine l_nil ?_
  refine n_then ?_
  refine r_cut 1 rfl (by decide +kernel) (by decide +kernel) (by decide +kernel) ?_
  refine r_one (by decide +kernel) rfl ?_
  refine l_to (to_sliceN (t := tSl tU8) (xs := [wBytes p.1, wBytes p.2]) (et := 31) (bytes := 24) (zl := [.slice none 0 0, .slice none 0 0]) (by kernel_rfl) (by decide) (by decide) (by unfold kZeros; kernel_rfl) rfl (cells := [_, _]) rfl rfl rfl ((reps2 (t := tSl tU8) (c1 := [_]) (c2 := [_]) ⟨_, rfl, HS5⟩ ⟨_, rfl, HO9.view.allB⟩)) ?_)
  rintro b10 w10 zb10 HO10 e10 z10
  have zs_e10 := e10.size
  replace E := E.trans (Ext.keep e10)
  replace HS1 := HS1.ext e10
  replace HS2 := HS2.ext e10
  replace HB1 := HB1.ext e10
  replace HS5 := HS5.ext e10
  replace HO9 := HO9.ext e10
  have zo_HO10 := fun (b : Nat) h => HO10.own_lt (b := b) h
  refine l_nil ?_
  refine n_then ?_
  refine r_cut 1 rfl (by decide +kernel) (by decide +kernel) (by decide +kernel) ?_
  refine r_one (by decide +kernel) rfl ?_
  refine l_to (to_f1 (by kernel_rfl) (show _ = (Value.slice _ _ _) from rfl) (CallsR.mono (Join_c HO10.view (by rw [spPr, List.length_append] at hsp; simp; omega)) ?_))
  rintro _ w11 ⟨HO11, ⟨q11, c11, rfl⟩, e11⟩
  have zs_e11 := e11.size
  replace E := E.trans (Ext.keep e11)
  replace HS1 := HS1.ext e11
  replace HS2 := HS2.ext e11
  replace HB1 := HB1.ext e11
  replace HS5 := HS5.ext e11
  replace HO9 := HO9.ext e11
  replace HO10 := HO10.ext e11
  have zo_HO11 := fun (b : Nat) h => HO11.own_lt (b := b) h
  refine l_nil ?_
  refine n_then ?_
  refine r_one (by decide +kernel) rfl ?_
  refine l_v (v_assign (t := .slice _ _ _) rfl) ?_
  refine l_nil ?_
  refine n_then ?_
  refine c_ret ?_
  refine ret1v rfl (by decide) (show _ = (Value.slice _ _ _) from rfl) ?_
  refine ⟨?_, E⟩
  have h : [wBytes p.1, wBytes p.2].flatten = spPr p := by simp [spPr]
  rw [h] at HO11 ⊢
  exact HO11.base (by omega)
theorem putPr_c {w : World} {v : Value} {F : Nat → Prop} {xs : List (PrV)} {fr : Nat} {cap : Array Value} (hv : SlV (tPr) w F v xs) (hb : kBody Try.prog fr = true) (sp : PrV → List UInt8)
    (hform : ∀ (w1 : World) (cs : List Value) (x : PrV), Ext w w1 → (tPr).rep w1 F cs x → x ∈ xs → CallsR Try.prog fr (#[.agg cs.toArray] ++ cap) w1 (fun r w2 => OwV tU8 nU8 w2 w1.heap.size NoK r (sp x) ∧ Ext w1 w2))
    (hl : (wList sp xs).length ≤ 140737488355300) (hn : xs.length ≤ 5000000000000) :
    CallsR Try.prog 47 #[v, .func (.func fr) #[] cap] w (fun r w' => ∃ q c, r = .tuple #[.slice (some q) (wList sp xs).length c, .int .i64 0] ∧ OwV tU8 nU8 w' w.heap.size NoK (.slice (some q) (wList sp xs).length c) (wList sp xs) ∧ Ext w w') := by
  obtain ⟨a, c, rfl⟩ := hv.shape
  obtain ⟨w0, rfl⟩ : ∃ x, x = w := ⟨w, rfl⟩
  refine enter 32 Try.func47 rfl rfl (by simp) ?_
  refine c_seq ?_
  refine wp_reg (by decide +kernel) ?_
  refine l_v (v_assign rfl) ?_
  refine l_v (v_assign rfl) ?_
  refine l_nil ?_
  refine n_then ?_
  refine c_seq ?_
  refine c_seq ?_
  refine wp_reg (by decide +kernel) ?_
  refine l_v (v_move (t := .func _ _ _) rfl) ?_
  refine l_v (v_feqlnil (ps := #[61]) (rs := #[31]) (v := false) (by kernel_rfl) rfl rfl) ?_
  refine l_nil ?_
  refine n_then ?_
  refine c_cond rfl rfl (fun hc => ?_) (fun hc => ?_)
  · skip
    cases hc
  · skip
    refine c_skip ?_
    refine n_then ?_
    refine c_seq ?_
    refine wp_reg (by decide +kernel) ?_
    refine l_v (v_move (t := .slice _ _ _) rfl) ?_
    refine l_v (v_len (et := 61) (by kernel_rfl) rfl) ?_
    refine l_v (v_conv (ds := .int .i64) (by kernel_rfl) (by kernel_rfl) rfl (by first | exact wr_u64 (by omega) (by omega) | rfl)) ?_
    refine l_to (to_f1 (by kernel_rfl) (show _ = (Value.int _ _) from rfl) (CallsR.mono (Number_c (n := xs.length) (by omega)) ?_))
    rintro _ w1 ⟨o1, ⟨q1, c1, rfl⟩, e1⟩
    have zs_e1 := e1.size
    refine l_to (to_slice1 (t := tSl tU8) (et := 31) (bytes := 24) (by kernel_rfl) (by decide) (show _ = (Value.slice _ _ _) from rfl) ((show (tSl tU8).rep _ _ [_] _ from ⟨_, rfl, o1.view⟩)) ?_)
    rintro b2 w2 rfl o2 e2 z2
    have zs_e2 := e2.size
    refine l_v (v_assign (t := .slice _ _ _) rfl) ?_
    refine l_nil ?_
    refine n_then ?_
    refine c_seq ?_
    refine c_seq ?_
    refine wp_reg (by decide +kernel) ?_
    refine l_v (v_move (t := .slice _ _ _) rfl) ?_
    refine l_v (v_len (et := 61) (by kernel_rfl) rfl) ?_
    refine l_v (v_move rfl) ?_
    refine l_nil ?_
    refine n_then ?_
    refine c_block ?_
    refine c_loop (τ := Option Addr × Nat × Nat) [6, 7, 17, 18, 19, 20, 21, 22, 23, 24, 25, 26, 27, 28, 29] (fun (a1, c1, k) => [(6, .slice a1 (k + 1) c1), (17, .int .i64 k)]) (fun (a1, c1, k) w => OwV (tSl tU8) nSl w w0.heap.size (fun b => w0.heap.size ≤ b) (.slice a1 (k + 1) c1) (wNum xs.length :: (xs.take k).map sp) ∧ Ext w0 w ∧ k ≤ xs.length) (fun (a1, c1, k) => xs.length - k) (some ⟨w1.heap.size, 0, none⟩, 1, 0) (by exact ⟨rfl, rfl, trivial⟩) (by exact ⟨(o2.base (by omega)).mono (fun b _ h => by rcases h.1 with h | h; exact h; exact h.elim), e1.trans e2, Nat.zero_le _⟩) ?_
    rintro ⟨a1, c1, k⟩ w3 j ⟨o3, e3, h3⟩
    refine c_seq ?_
    refine wp_reg (by decide +kernel) ?_
    refine l_v (v_lss rfl rfl) ?_
    refine l_nil ?_
    refine n_then ?_
    refine c_seq ?_
    refine c_cond rfl rfl (fun hc2 => ?_) (fun hc2 => ?_)
    · skip
      have hc2 := dtrue hc2
      have zs_e3 := e3.size
      obtain ⟨x, hx⟩ : ∃ x, xs[k]? = some x := ⟨xs[k]'(by omega), by simp [show k < xs.length by omega]⟩
      have hlk : (wNum xs.length :: (xs.take k).map sp).length = k + 1 := by simp; omega
      refine c_skip ?_
      refine n_then ?_
      refine c_seq ?_
      refine c_block ?_
      refine c_seq ?_
      refine wp_reg (by decide +kernel) ?_
      refine l_v (v_move (t := .int _ _) rfl) ?_
      refine l_v (v_assign (t := .int _ _) rfl) ?_
      refine l_nil ?_
      refine n_then ?_
      refine wp_reg (by decide +kernel) ?_
      refine l_v (v_move (t := .slice _ _ _) rfl) ?_
      refine l_v (v_move (t := .func _ _ _) rfl) ?_
      refine l_v (v_move (t := .slice _ _ _) rfl) ?_
      refine l_v (v_move (t := .int _ _) rfl) ?_
      refine l_to (to_index (et := 61) (by kernel_rfl) (by kernel_rfl) (show _ = (Value.slice _ _ _) from rfl) (hv.ext e3) (show _ = (Value.int _ _) from rfl) rfl hx ?_)
      rintro q cs hF hp hr
      skip
      refine l_v (v_loadA (n := 2) (by kernel_rfl) rfl hp (tPr.len hr)) ?_
      refine l_to (to_call1 hb rfl (show _ = (Value.agg _) from rfl) (CallsR.mono ((hform w3 _ x e3 hr (List.mem_of_getElem? hx))) ?_))
      rintro _ w4 ⟨o4, e4⟩
      have zs_e4 := e4.size
      obtain ⟨a4, c4, rfl⟩ := o4.shape
      refine l_to (to_slice1 (t := tSl tU8) (et := 31) (bytes := 24) (by kernel_rfl) (by decide) (show _ = (Value.slice _ _ _) from rfl) ((show (tSl tU8).rep _ _ [_] _ from ⟨_, rfl, o4.view⟩)) ?_)
      rintro b5 w5 rfl o5 e5 z5
      have zs_e5 := e5.size
      refine l_to (to_append (et := 31) (bytes := 24) (by kernel_rfl) (show _ = (Value.slice _ _ _) from rfl) (o3.ext (e4.trans e5)) (show _ = (Value.slice _ _ _) from rfl) o5.view ((OwV_sep o3 (by intro b hb; simp only [NoK, or_false] at hb; omega) (by omega))) (by first | omega | (simp; done) | (simp; omega)) (by simp only [maxLen]; first | omega | (simp; done) | (simp; omega)) (by omega) ?_)
      rintro a6 n6 c6 w6 o6 hn6 k6 b6 i6
      have zs_k6 := k6.size
      have hlk2 : ((wNum xs.length :: (xs.take k).map sp) ++ [sp x]).length = k + 1 + 1 := by simp; omega
      rw [hlk2] at hn6
      subst hn6
      have e6 : Ext w0 w6 := ((e3.trans e4).trans e5).step k6 fun b hb h => by have := (o3.own_lt h).1; omega
      have htk : (xs.take (k + 1)).map sp = (xs.take k).map sp ++ [sp x] := by rw [List.take_add_one, hx]; simp
      refine l_v (v_assign (t := .slice _ _ _) rfl) ?_
      refine l_nil ?_
      refine n_blk ?_
      refine n_then ?_
      refine wp_reg (by decide +kernel) ?_
      refine l_v (v_add rfl rfl (by first | exact wr_i64 (by omega) (by omega) | rfl)) ?_
      refine l_v (v_move (t := .int _ _) rfl) ?_
      refine l_nil ?_
      refine n_then ?_
      refine ⟨(a6, c6, k + 1), _, rfl, by (repeat (first | exact Off.of_over _ _ _ | refine Off.upd ?_ (by decide) _ | refine Off.overs ?_ (by decide) _)), ⟨by first | rfl | exact congrArg (Value.int _) (by omega) | (simp; done), by first | rfl | exact congrArg (Value.int _) (by omega) | (simp; done), trivial⟩, ?_, ?_⟩
      · exact ⟨by rw [htk]; exact o6, e6, by omega⟩
      · dsimp only; omega
    · skip
      have hc2 := dfalse hc2
      obtain rfl : k = xs.length := by omega
      rw [List.take_length] at o3
      have zs_e3 := e3.size
      refine c_exit ?_
      refine x_then ?_
      refine x_then ?_
      refine x_hit ?_
      refine n_then ?_
      refine c_seq ?_
      refine wp_reg (by decide +kernel) ?_
      refine l_v (v_move (t := .slice _ _ _) rfl) ?_
      refine l_to (to_f1 (by kernel_rfl) (show _ = (Value.slice _ _ _) from rfl) (CallsR.mono (Join_c o3.view (by simpa [wList] using hl)) ?_))
      rintro _ w4 ⟨o4, ⟨q4, c4, rfl⟩, e4⟩
      have zs_e4 := e4.size
      refine l_v (v_assign (t := .slice _ _ _) rfl) ?_
      refine l_v (v_assign rfl) ?_
      refine l_nil ?_
      refine n_then ?_
      refine c_ret ?_
      refine ret2 rfl (by decide) (by decide) ?_
      have hfl : (wNum xs.length :: xs.map sp).flatten = wList sp xs := by simp [wList]
      rw [hfl] at o4 ⊢
      exact ⟨q4, c4, rfl, o4.base (by omega), e3.trans e4⟩


end Go.Proofs.Ytlhanmlpionomaa

namespace Go.Proofs.Ytlhanmlpionomaa
open Go.Vc
set_option linter.unusedVariables false
set_option linter.unusedSimpArgs false
set_option maxRecDepth 100000

theorem tbW_pre {S : TbS} (hok : TbOk S) {xs : List Int} (h : ∀ c ∈ xs, 0 ≤ c ∧ c ≤ 4) (hl : xs.length ≤ 4) : (wNum (cntS S) ++ (xs.map fun c => spLn (lnK S c)).flatten).length ≤ 16010 := by
  have h3 := flat_len (sp := fun c => spLn (lnK S c)) (m := 4000) (xs := xs) (fun c hc => spLn_len hok (h c hc).1 (h c hc).2)
  have h6 : cntS S ≤ 4 := by rw [← ks_cnt]; exact ksP_len _
  have h4 := wNum_len10 (n := cntS S) (by omega)
  have h5 : xs.length * 4000 ≤ 4 * 4000 := Nat.mul_le_mul_right _ hl
  rw [List.length_append]; omega
theorem tbW_eq (S : TbS) : tbW S = wNum (cntS S) ++ ((ksS S).map fun c => spLn (lnK S c)).flatten := by
  rw [tbW, wList, List.length_map, ks_cnt, List.map_map]; rfl
theorem ks_rng (S : TbS) : ∀ c ∈ ksS S, 1 ≤ c ∧ c ≤ 4 := by
  intro c hc
  have := (List.mem_filter.1 hc).1
  simp only [List.mem_cons, List.not_mem_nil, or_false] at this
  omega
def preW (S : TbS) (pre : List (Fin (ksS S).length)) : List UInt8 := wNum (cntS S) ++ (pre.map fun x => spLn (lnK S (ksS S)[x])).flatten
theorem preW_snoc (S : TbS) (pre : List (Fin (ksS S).length)) (x : Fin (ksS S).length) : preW S (pre ++ [x]) = preW S pre ++ spLn (lnK S (ksS S)[x]) := by simp [preW]
theorem preW_len {S : TbS} (hok : TbOk S) (pre : List (Fin (ksS S).length)) (hl : pre.length < (ksS S).length) : (preW S pre).length ≤ 16010 := by
  have h4 : (ksS S).length ≤ 4 := ksP_len _
  have := tbW_pre hok (xs := pre.map fun x => (ksS S)[x]) (by
    intro c hc
    obtain ⟨x, _, rfl⟩ := List.mem_map.1 hc
    have := ks_rng S (ksS S)[x] (List.getElem_mem x.2)
    omega) (by rw [List.length_map]; omega)
  rw [List.map_map] at this
  exact this
theorem preW_nil (S : TbS) : preW S [] = wNum (cntS S) := by simp [preW]
theorem preW_all (S : TbS) : preW S (List.finRange _) = tbW S := by
  rw [preW, tbW_eq]
  have := congrArg (List.map fun c => spLn (lnK S c)) (map_fin (ksS S))
  rw [List.map_map] at this
  rw [← this]; rfl
set_option maxHeartbeats 8000000 in
theorem TBytes_c {w : World} {F : Nat → Prop} {b bm : Nat} {S : TbS} (HB1 : Blk w b [.map (some bm)] 65) (HT1 : TbI w F bm S) (okS : TbOk S) :
    CallsR Try.prog 22 #[.pointer (some ⟨b, 0, none⟩)] w (fun o w' => (∃ a c, o = .slice a (tbW S).length c ∧ Bv w' (fun i => w.heap.size ≤ i) o (tbW S)) ∧ Ext w w') := by
  obtain ⟨n0, hn0⟩ : ∃ n, n = w.heap.size := ⟨_, rfl⟩
  have hcn : cntS S ≤ 4 := by rw [← ks_cnt]; exact ksP_len _
  have zl1 := HB1.lt
  have zlm := HT1.lt
  replace HT1 := HT1.mono (F' := fun i => F i ∧ i < n0) fun i hi h => ⟨h, by omega⟩
  refine enterM 51 Try.func22 rfl rfl (by simp) ?_
  refine c_seq ?_
  have E := Keep.refl (K := NoK) w
  refine wp_reg (by decide +kernel) ?_
  refine l_to (to_box (show _ = (Value.pointer _) from rfl) ?_)
  rintro b2 w2 zb2 HB2 e2 z2
  have zs_e2 := e2.size
  replace E := E.trans (Ext.keep e2)
  replace HB1 := HB1.ext e2
  replace HT1 := HT1.ext e2
  try simp only [Value.cells] at HB2
  refine l_v (v_assign rfl) ?_
  refine l_nil ?_
  refine n_then ?_
  refine c_seq ?_
  refine c_seq ?_
  refine wp_reg (by decide +kernel) ?_
  refine l_v (v_load (by kernel_rfl) rfl (by first | exact HB2.cell rfl | exact HB1.cell rfl | assumption)) ?_
  refine l_to (to_f1 (by kernel_rfl) (show _ = (Value.pointer _) from rfl) (CallsR.mono (there_c HB1) ?_))
  rintro _ w101 ⟨rfl, e101⟩
  have zs_e101 := e101.size
  replace E := E.trans (Ext.keep e101)
  replace HB1 := HB1.ext e101
  replace HT1 := HT1.ext e101
  replace HB2 := HB2.ext e101
  refine l_v (v_not rfl) ?_
  refine l_nil ?_
  refine n_then ?_
  refine c_cond rfl rfl (fun h0 => ?_) (fun h0 => ?_)
  · skip
    cases h0
  · skip
    refine c_skip ?_
    refine n_then ?_
    refine c_seq ?_
    refine wp_reg (by decide +kernel) ?_
    refine l_v (v_load (by kernel_rfl) rfl (by first | exact HB2.cell rfl | exact HB1.cell rfl | assumption)) ?_
    refine l_to (to_f1 (by kernel_rfl) (show _ = (Value.pointer _) from rfl) (CallsR.mono (Len_c HB1 HT1 okS) ?_))
    rintro _ w102 ⟨rfl, e102⟩
    have zs_e102 := e102.size
    replace E := E.trans (Ext.keep e102)
    replace HB1 := HB1.ext e102
    replace HT1 := HT1.ext e102
    replace HB2 := HB2.ext e102
    refine l_v (v_conv (ds := .int .i64) (by kernel_rfl) (by kernel_rfl) rfl (by first | exact wr_u64 (by omega) (by omega) | rfl)) ?_
    refine l_to (to_f1 (by kernel_rfl) (show _ = (Value.int _ _) from rfl) (CallsR.mono (Number_c (n := cntS S) (by omega)) ?_))
    rintro _ w5 ⟨HO5, ⟨q5, c5, rfl⟩, e5⟩
    have zs_e5 := e5.size
    have zq5 := HO5.own_lt (b := q5.block) rfl
    have HS5 := HO5.view.mono (F' := fun i => i < w5.heap.size ∧ n0 ≤ i) (fun i hi h => ⟨hi, Or.elim h (fun h => by omega) (fun h => h.elim)⟩)
    replace E := E.trans (Ext.keep e5)
    replace HB1 := HB1.ext e5
    replace HT1 := HT1.ext e5
    replace HB2 := HB2.ext e5
    have zo_HO5 := fun (b : Nat) h => HO5.own_lt (b := b) h
    refine l_to (to_alloc (z := (.slice none 0 0)) (by unfold kZero; kernel_rfl) ?_)
    rintro b6 w6 zb6 HB6 e6 z6
    have zs_e6 := e6.size
    replace E := E.trans (Ext.keep e6)
    replace HB1 := HB1.ext e6
    replace HT1 := HT1.ext e6
    replace HB2 := HB2.ext e6
    replace HS5 := HS5.ext e6
    try simp only [Value.cells] at HB6
    refine l_to (to_store rfl rfl (show _ = (Value.slice _ _ _) from rfl) rfl (by kernel_rfl) HB6 (by first | exact of_decide_eq_true rfl | (simp; done) | decide | (simp only [List.length_set, hlen]; exact of_decide_eq_true rfl)) ?_)
    rintro w103 HX103 k103 z103
    have zs_k103 := k103.size
    replace E := E.step k103 (by intro i hi he; (try dsimp only [NoK] at hi he ⊢); first | exact he.elim | omega | exact he)
    replace HB1 := HB1.keep k103 (by intro h; (try dsimp only at h); first | omega)
    replace HT1 := HT1.keep k103 (by intro i _ hi he; (try dsimp only [NoK, AllB] at hi he); first | exact hi.elim | exact he.elim | omega | (rcases hi with hi | hi <;> omega) | (rcases he with he | he <;> omega))
    replace HB2 := HB2.keep k103 (by intro h; (try dsimp only at h); first | omega)
    replace HS5 := HS5.keep k103 (by intro i _ hi he; (try dsimp only [NoK, AllB] at hi he); first | exact hi.elim | exact he.elim | omega | (rcases hi with hi | hi <;> omega) | (rcases he with he | he <;> omega))
    replace HB6 := HX103
    clear HX103
    try simp only [List.set_cons_zero, List.set_cons_succ, setAt, List.take_zero, List.take_succ_cons, List.drop_zero, List.drop_succ_cons, List.nil_append, List.cons_append, List.append_nil, List.length_cons, List.length_nil, Nat.zero_add, Nat.reduceAdd, List.drop_nil] at HB6
    refine l_nil ?_
    refine n_then ?_
    refine c_seq ?_
    refine c_seq ?_
    refine wp_reg (by decide +kernel) ?_
    refine l_v (v_load (by kernel_rfl) rfl (by first | exact HB6.cell rfl | exact HB2.cell rfl | exact HB1.cell rfl | assumption)) ?_
    refine l_to (to_f1 (by kernel_rfl) (show _ = (Value.pointer _) from rfl) (CallsR.mono (All_c) ?_))
    rintro _ w7 ⟨b7, hb7, rfl, HB7, z7, e7⟩
    have zs_e7 := e7.size
    replace E := E.trans (Ext.keep e7)
    replace HB1 := HB1.ext e7
    replace HT1 := HT1.ext e7
    replace HB2 := HB2.ext e7
    replace HS5 := HS5.ext e7
    replace HB6 := HB6.ext e7
    refine l_nil ?_
    refine n_then ?_
    refine c_block ?_
    refine c_rangeK (N := 51) rfl (show _ = (Value.func _ _ _) from rfl) (by kernel_rfl) (by decide) E (fun x : Fin (ksS S).length => [.int .i64 (ksS S)[x], .int .i64 (numS S (ksS S)[x])]) (fun _ => rfl) (fun i => i = b6) (fun i h => by have h := h; (try dsimp only at h); omega) (tabAll_stops (K := fun i => i = b6 ∨ w7.heap.size ≤ i) okS HB7 HB1 HT1 (fun h => by have h := h; (try dsimp only at h); omega) (fun h => by have h := h; (try dsimp only at h); omega) (fun h => by have h := h; (try dsimp only at h); omega) (fun i h hk => by have := h.2; have hk := hk; (try dsimp only at hk); omega)) (fun pre W => ∃ a c, Blk W b6 [.slice a (preW S pre).length c] 31 ∧ Bv W (fun i => i ≠ b6 ∧ n0 ≤ i) (.slice a (preW S pre).length c) (preW S pre)) (fun c pre W => False) (fun s W W' t h => by obtain ⟨a, c, h1, h2⟩ := h; exact ⟨a, c, h1.turn t, bv_turnC h2 t⟩) (fun c s W W' t h => h) ((by rw [preW_nil]; exact ⟨_, _, HB6, HS5.mono fun i _ h => ⟨by have := h.1; omega, h.2⟩⟩)) (fun x e1 W => Holds [(1, .pointer (some ⟨b2, 0, none⟩)), (3, .pointer (some ⟨b6, 0, none⟩)), (4, .int .i64 (ksS S)[x]), (5, .int .i64 (numS S (ksS S)[x]))] e1) (fun x e1 W W' t h => h) ?_ ?_ ?_ ?_
    · skip
      rintro l pre x w104 E EK ⟨a6, c6, HB6, HS6⟩
      have zs_EK104 := EK.size
      have zs_E104 := E.size
      replace HB1 := HB1.keep EK (by intro h; (try dsimp only at h); first | omega)
      replace HT1 := HT1.keep EK (by intro i _ hi he; (try dsimp only [NoK, AllB] at hi he); first | exact hi.elim | exact he.elim | omega | (rcases hi with hi | hi <;> omega) | (rcases he with he | he <;> omega))
      replace HB2 := HB2.keep EK (by intro h; (try dsimp only at h); first | omega)
      have EL1 := Keep.refl (K := NoK) w104
      refine c_seq ?_
      refine wp_reg (by decide +kernel) ?_
      refine l_v (v_assign (t := .int _ _) rfl) ?_
      refine l_nil ?_
      refine n_then ?_
      refine wp_reg (by decide +kernel) ?_
      refine l_v (v_assign (t := .int _ _) rfl) ?_
      refine l_nil ?_
      refine n_then ?_
      exact ⟨_, rfl, EL1, ⟨a6, c6, HB6, HS6⟩, ⟨rfl, rfl, rfl, rfl, trivial⟩⟩
    · skip
      rintro l pre x e1 w105 E EK ⟨a6, c6, HB6, HS6⟩ hh hlen
      have zs_EK105 := EK.size
      have zs_E105 := E.size
      replace HB1 := HB1.keep EK (by intro h; (try dsimp only at h); first | omega)
      replace HT1 := HT1.keep EK (by intro i _ hi he; (try dsimp only [NoK, AllB] at hi he); first | exact hi.elim | exact he.elim | omega | (rcases hi with hi | hi <;> omega) | (rcases he with he | he <;> omega))
      replace HB2 := HB2.keep EK (by intro h; (try dsimp only at h); first | omega)
      obtain ⟨jj, rfl⟩ : ∃ j, e1 = updL _ j := ⟨_, hh.upd⟩
      have EL1 := Keep.refl (K := fun i => i = b6) w105
      refine c_block ?_
      refine c_seq ?_
      replace HS6 := HS6.all
      obtain ⟨l7, vs7, HT8⟩ := HT1.parts
      obtain ⟨r1, r2⟩ : 1 ≤ (ksS S)[x] ∧ (ksS S)[x] ≤ 4 := ks_rng S _ (List.getElem_mem x.2)
      obtain ⟨kc, hkc⟩ : ∃ k : Nat, (ksS S)[x] = (k : Int) := ⟨(ksS S)[x].toNat, by omega⟩
      obtain ⟨r3, r4⟩ := numS_rng okS kc
      obtain ⟨kn, hkn⟩ : ∃ k : Nat, numS S kc = (k : Int) := Int.eq_ofNat_of_zero_le r3
      obtain ⟨⟨r5, r6⟩, r7, r8, r9⟩ := mayAn_iff.1 (ansS_may okS kc)
      obtain ⟨ke, hke⟩ : ∃ k : Nat, (ansS S kc).1 = (k : Int) := Int.eq_ofNat_of_zero_le r5
      obtain ⟨a7, c7, a8, c8, hl7, HS7, HS8, _, _, _⟩ := HT8.look kc
      rw [hke] at hl7
      have hpl := preW_len okS pre hlen
      rw [hkc, hkn]
      have hln := spLn_len okS (c := (kc : Int)) (by omega) (by omega)
      have hsw := wl_pr r7 (fun p hp => by have := r9 p hp; omega)
      refine wp_reg (by decide +kernel) ?_
      refine l_v (v_load (by kernel_rfl) rfl (by first | exact HB6.cell rfl | exact HB2.cell rfl | exact HB1.cell rfl | assumption)) ?_
      refine l_v (v_nilCheck rfl) ?_
      refine l_v (v_fieldAddr (off := 0) (ft := 63) (by kernel_rfl) rfl) ?_
      refine l_v (v_load (by kernel_rfl) rfl (by first | exact HB6.pv 0 _ rfl | exact HB2.pv 0 _ rfl | exact HB1.pv 0 _ rfl | assumption)) ?_
      refine l_v (v_move (t := .int _ _) rfl) ?_
      refine l_v (v_lookupE (el := 79) (k := (kc : Int)) (z := .agg #[.int .i64 0, .int .i64 0, .slice none 0 0, .slice none 0 0]) kInt ⟨3, by kernel_rfl, by kernel_rfl⟩ (by unfold kZero; kernel_rfl) rfl (show _ = (Value.int _ _) from rfl) rfl HT8.1 hl7) ?_
      refine l_v (v_fieldA (off := 1) (ft := 33) (n := 3) (by kernel_rfl) (by kernel_rfl) rfl (show _ = #[_, _, _] from rfl)) ?_
      refine l_to (to_alloc (z := (.agg #[.int .i64 0, .slice none 0 0, .slice none 0 0])) (by unfold kZero; kernel_rfl) ?_)
      rintro b26 w26 zb26 HB26 e26 z26
      have zs_e26 := e26.size
      replace HB1 := HB1.ext e26
      replace HT1 := HT1.ext e26
      replace HB2 := HB2.ext e26
      replace E := E.trans (Ext.keep e26)
      replace HB6 := HB6.ext e26
      replace EL1 := EL1.trans (Ext.keep e26)
      replace HS6 := HS6.ext e26
      replace HT8 := HT8.ext e26
      replace HS7 := HS7.ext e26
      replace HS8 := HS8.ext e26
      try simp only [Value.cells] at HB26
      refine l_to (to_storeA (n := 3) rfl rfl (show _ = (Value.agg _) from rfl) (by kernel_rfl) rfl (by first | (simp [slice_one]; done) | (simp only [List.forall_mem_cons, List.cons_append, List.nil_append]; repeat' (first | exact rfl | apply And.intro | (intro u hu; cases hu; done)))) HB26 (by first | exact of_decide_eq_true rfl | (simp; done) | decide | (simp only [List.length_set, hlen]; exact of_decide_eq_true rfl)) ?_)
      rintro w106 HX106 k106 z106
      have zs_k106 := k106.size
      replace HB1 := HB1.keep k106 (by intro h; (try dsimp only at h); first | omega)
      replace HT1 := HT1.keep k106 (by intro i _ hi he; (try dsimp only [NoK, AllB] at hi he); first | exact hi.elim | exact he.elim | omega | (rcases hi with hi | hi <;> omega) | (rcases he with he | he <;> omega))
      replace HB2 := HB2.keep k106 (by intro h; (try dsimp only at h); first | omega)
      replace E := E.step k106 (by intro i hi he; (try dsimp only [NoK] at hi he ⊢); first | exact he.elim | omega | exact he)
      replace HB6 := HB6.keep k106 (by intro h; (try dsimp only at h); first | omega)
      replace EL1 := EL1.step k106 (by intro i hi he; (try dsimp only [NoK] at hi he ⊢); first | exact he.elim | omega | exact he)
      replace HS6 := HS6.keep k106 (by intro i _ hi he; (try dsimp only [NoK, AllB] at hi he); first | exact hi.elim | exact he.elim | omega | (rcases hi with hi | hi <;> omega) | (rcases he with he | he <;> omega))
      replace HT8 := HT8.keep k106 (by intro i _ hi he; (try dsimp only [NoK, AllB] at hi he); first | exact hi.elim | exact he.elim | omega | (rcases hi with hi | hi <;> omega) | (rcases he with he | he <;> omega))
      replace HS7 := HS7.keep k106 (by intro i _ hi he; (try dsimp only [NoK, AllB] at hi he); first | exact hi.elim | exact he.elim | omega | (rcases hi with hi | hi <;> omega) | (rcases he with he | he <;> omega))
      replace HS8 := HS8.keep k106 (by intro i _ hi he; (try dsimp only [NoK, AllB] at hi he); first | exact hi.elim | exact he.elim | omega | (rcases hi with hi | hi <;> omega) | (rcases he with he | he <;> omega))
      replace HB26 := HX106
      clear HX106
      try simp only [List.set_cons_zero, List.set_cons_succ, setAt, List.take_zero, List.take_succ_cons, List.drop_zero, List.drop_succ_cons, List.nil_append, List.cons_append, List.append_nil, List.length_cons, List.length_nil, Nat.zero_add, Nat.reduceAdd, List.drop_nil] at HB26
      refine l_nil ?_
      refine n_then ?_
      refine c_seq ?_
      refine wp_reg (by decide +kernel) ?_
      refine l_v (v_fieldAddr (off := 1) (ft := 30) (by kernel_rfl) rfl) ?_
      refine l_v (v_load (by kernel_rfl) rfl (by first | exact HB26.pv 1 _ rfl | exact HB6.pv 1 _ rfl | exact HB2.pv 1 _ rfl | exact HB1.pv 1 _ rfl | assumption)) ?_
      refine l_to (to_f2 (by kernel_rfl) (show _ = (Value.slice _ _ _) from rfl) rfl (CallsR.mono (putPr_c (cap := #[]) HS7 (by kernel_rfl) spPr (fun w1 cs p e1 hr hp => prBytes_c hr (by have := r9 p hp; omega) (by have := r9 p hp; omega)) (by omega) (by omega)) ?_))
      rintro _ w27 ⟨q27, c27, rfl, HO27, e27⟩
      have zs_e27 := e27.size
      replace HB1 := HB1.ext e27
      replace HT1 := HT1.ext e27
      replace HB2 := HB2.ext e27
      replace E := E.trans (Ext.keep e27)
      replace HB6 := HB6.ext e27
      replace EL1 := EL1.trans (Ext.keep e27)
      replace HS6 := HS6.ext e27
      replace HT8 := HT8.ext e27
      replace HS7 := HS7.ext e27
      replace HS8 := HS8.ext e27
      replace HB26 := HB26.ext e27
      have zo_HO27 := fun (b : Nat) h => HO27.own_lt (b := b) h
      have HS27 := HO27.view.allB
      refine l_v (v_move (t := .tuple _) rfl) ?_
      refine l_v (v_extract (t := .slice _ _ _) rfl rfl) ?_
      refine l_v (v_extract (t := .int _ _) rfl rfl) ?_
      refine l_v (v_assign (t := .slice _ _ _) rfl) ?_
      refine l_v (v_assign (t := .int _ _) rfl) ?_
      refine l_nil ?_
      refine n_then ?_
      refine wp_any (by kernel_rfl) ?_
      have e107 : Ext w27 { w27 with drawn := w27.drawn + 1 } := Keep.drawn _ _
      generalize hw107 : ({ w27 with drawn := w27.drawn + 1 } : World) = w107 at e107 ⊢
      clear hw107
      have zs_e107 := e107.size
      replace HB1 := HB1.ext e107
      replace HT1 := HT1.ext e107
      replace HB2 := HB2.ext e107
      replace E := E.trans (Ext.keep e107)
      replace HB6 := HB6.ext e107
      replace EL1 := EL1.trans (Ext.keep e107)
      replace HS6 := HS6.ext e107
      replace HT8 := HT8.ext e107
      replace HS7 := HS7.ext e107
      replace HS8 := HS8.ext e107
      replace HB26 := HB26.ext e107
      replace HS27 := HS27.ext e107
      refine r_cut 15 rfl (by decide +kernel) (by decide +kernel) (by decide +kernel) ?_
      refine wp_regdW (NoK) (by decide +kernel) (by decide +kernel) ?_
      refine rt_v (fun vals w hR hd => v_load (by kernel_rfl) rfl (by first | exact (HB26.ext hR).cell rfl | exact (HB6.ext hR).cell rfl | exact (HB2.ext hR).cell rfl | exact (HB1.ext hR).cell rfl | assumption)) ?_
      refine rt_v (fun vals w hR hd => v_move (t := .int _ _) rfl) ?_
      refine rt_v (fun vals w hR hd => v_conv (ds := .int .i64) (by kernel_rfl) (by kernel_rfl) (hd 1 rfl) (by first | exact wr_u64 (by omega) (by omega) | rfl)) ?_
      refine rt_to (fun v W => Bv W AllB v (wNum kc)) (fun v w w' h k => h.ext k) (fun vals w hR hd => to_f1 (by kernel_rfl) (hd 2 rfl) (CallsR.mono (Number_c (by omega)) fun v w1 ⟨h, _, e⟩ => ⟨e, h.view.allB⟩)) ?_
      refine rt_v (fun vals w hR hd => v_move (t := .int _ _) rfl) ?_
      refine rt_v (fun vals w hR hd => v_conv (ds := .int .i64) (by kernel_rfl) (by kernel_rfl) (hd 4 rfl) (by first | exact wr_u64 (by omega) (by omega) | rfl)) ?_
      refine rt_to (fun v W => Bv W AllB v (wNum kn)) (fun v w w' h k => h.ext k) (fun vals w hR hd => to_f1 (by kernel_rfl) (hd 5 rfl) (CallsR.mono (Number_c (by omega)) fun v w1 ⟨h, _, e⟩ => ⟨e, h.view.allB⟩)) ?_
      refine rt_v (fun vals w hR hd => v_fieldAddr (off := 0) (ft := 29) (by kernel_rfl) rfl) ?_
      refine rt_v (fun vals w hR hd => v_load (by kernel_rfl) (hd 7 rfl) (by first | exact (HB26.ext hR).pv 0 _ rfl | exact (HB6.ext hR).pv 0 _ rfl | exact (HB2.ext hR).pv 0 _ rfl | exact (HB1.ext hR).pv 0 _ rfl | assumption)) ?_
      refine rt_v (fun vals w hR hd => v_conv (ds := .int .i64) (by kernel_rfl) (by kernel_rfl) (hd 8 rfl) (by first | exact wr_u64 (by omega) (by omega) | rfl)) ?_
      refine rt_to (fun v W => Bv W AllB v (wNum ke)) (fun v w w' h k => h.ext k) (fun vals w hR hd => to_f1 (by kernel_rfl) (hd 9 rfl) (CallsR.mono (Number_c (by omega)) fun v w1 ⟨h, _, e⟩ => ⟨e, h.view.allB⟩)) ?_
      refine rt_v (fun vals w hR hd => v_move (t := .slice _ _ _) rfl) ?_
      refine rt_v (fun vals w hR hd => v_fieldAddr (off := 2) (ft := 31) (by kernel_rfl) rfl) ?_
      refine rt_v (fun vals w hR hd => v_load (by kernel_rfl) (hd 12 rfl) (by first | exact (HB26.ext hR).pv 2 _ rfl | exact (HB6.ext hR).pv 2 _ rfl | exact (HB2.ext hR).pv 2 _ rfl | exact (HB1.ext hR).pv 2 _ rfl | assumption)) ?_
      refine rt_to (fun v W => Bv W AllB v (wBytes (ansS S kc).2.2)) (fun v w w' h k => h.ext k) (fun vals w hR hd => to_f1 (by kernel_rfl) (hd 13 rfl) (CallsR.mono (Bytes_c (HS8.ext hR) (by omega)) fun v w1 ⟨h, _, e⟩ => ⟨e, h.view.allB⟩)) ?_
      refine rt_nil (fun w108 e108 => ?_)
      rintro _ rfl _ rfl _ rfl v36 HS36 _ rfl _ rfl v39 HS39 _ rfl _ rfl _ rfl v43 HS43 _ rfl _ rfl _ rfl v47 HS47
      have zs_e108 := e108.size
      obtain ⟨a36, d36, rfl⟩ := HS36.shape
      obtain ⟨a39, d39, rfl⟩ := HS39.shape
      obtain ⟨a43, d43, rfl⟩ := HS43.shape
      obtain ⟨a47, d47, rfl⟩ := HS47.shape
      replace HB1 := HB1.ext e108
      replace HT1 := HT1.ext e108
      replace HB2 := HB2.ext e108
      replace E := E.trans (Ext.keep e108)
      replace HB6 := HB6.ext e108
      replace EL1 := EL1.trans (Ext.keep e108)
      replace HS6 := HS6.ext e108
      replace HT8 := HT8.ext e108
      replace HS7 := HS7.ext e108
      replace HS8 := HS8.ext e108
      replace HB26 := HB26.ext e108
      replace HS27 := HS27.ext e108
      refine fin_nil ?_
      refine n_then ?_
      refine r_cut 1 rfl (by decide +kernel) (by decide +kernel) (by decide +kernel) ?_
      refine r_one (by decide +kernel) rfl ?_
      refine l_to (to_sliceN (t := tSl tU8) (xs := [preW S pre, wNum kc, wNum kn, wNum ke, wList spPr (ansS S kc).2.1, wBytes (ansS S kc).2.2]) (et := 31) (bytes := 24) (zl := [.slice none 0 0, .slice none 0 0, .slice none 0 0, .slice none 0 0, .slice none 0 0, .slice none 0 0]) (by kernel_rfl) (by decide) (by decide) (by unfold kZeros; kernel_rfl) rfl (cells := [_, _, _, _, _, _]) rfl rfl rfl ((reps6b HS6.allB HS36 HS39 HS43 HS27 HS47)) ?_)
      rintro b48 w48 zb48 HO48 e48 z48
      have zs_e48 := e48.size
      replace HB1 := HB1.ext e48
      replace HT1 := HT1.ext e48
      replace HB2 := HB2.ext e48
      replace E := E.trans (Ext.keep e48)
      replace HB6 := HB6.ext e48
      replace EL1 := EL1.trans (Ext.keep e48)
      replace HS6 := HS6.ext e48
      replace HT8 := HT8.ext e48
      replace HS7 := HS7.ext e48
      replace HS8 := HS8.ext e48
      replace HB26 := HB26.ext e48
      replace HS27 := HS27.ext e48
      replace HS36 := HS36.ext e48
      replace HS39 := HS39.ext e48
      replace HS43 := HS43.ext e48
      replace HS47 := HS47.ext e48
      have zo_HO48 := fun (b : Nat) h => HO48.own_lt (b := b) h
      refine l_nil ?_
      refine n_then ?_
      refine r_cut 1 rfl (by decide +kernel) (by decide +kernel) (by decide +kernel) ?_
      refine r_one (by decide +kernel) rfl ?_
      have hfl : [preW S pre, wNum kc, wNum kn, wNum ke, wList spPr (ansS S kc).2.1, wBytes (ansS S kc).2.2].flatten = preW S (pre ++ [x]) := by rw [preW_snoc, hkc]; simp [spLn, lnK, hkn, hke]
      have hfn : (preW S (pre ++ [x])).length ≤ 30000 := by rw [preW_snoc, hkc, List.length_append]; omega
      refine l_to (to_f1 (by kernel_rfl) (show _ = (Value.slice _ _ _) from rfl) (CallsR.mono (Join_c HO48.view (by rw [hfl]; omega)) ?_))
      rintro _ w49 ⟨HO49, ⟨q49, c49, rfl⟩, e49⟩
      have zs_e49 := e49.size
      rw [hfl] at HO49
      rw [hfl]
      have zq49 := HO49.own_lt (b := q49.block) rfl
      have HS49 := HO49.view.mono (F' := fun i => b6 < i ∧ n0 ≤ i) (fun i hi h => Or.elim h (fun h => by omega) (fun h => h.elim))
      replace HB1 := HB1.ext e49
      replace HT1 := HT1.ext e49
      replace HB2 := HB2.ext e49
      replace E := E.trans (Ext.keep e49)
      replace HB6 := HB6.ext e49
      replace EL1 := EL1.trans (Ext.keep e49)
      replace HS6 := HS6.ext e49
      replace HT8 := HT8.ext e49
      replace HS7 := HS7.ext e49
      replace HS8 := HS8.ext e49
      replace HB26 := HB26.ext e49
      replace HS27 := HS27.ext e49
      replace HS36 := HS36.ext e49
      replace HS39 := HS39.ext e49
      replace HS43 := HS43.ext e49
      replace HS47 := HS47.ext e49
      replace HO48 := HO48.ext e49
      have zo_HO49 := fun (b : Nat) h => HO49.own_lt (b := b) h
      refine l_nil ?_
      refine n_then ?_
      refine r_one (by decide +kernel) rfl ?_
      refine l_to (to_store rfl rfl (show _ = (Value.slice _ _ _) from rfl) rfl (by kernel_rfl) HB6 (by simp) ?_)
      rintro w50 HB6 k50 z50
      have zs_k50 := k50.size
      replace HB1 := HB1.keep k50 (by intro h; (try dsimp only at h); first | omega)
      replace HT1 := HT1.keep k50 (by intro i _ hi he; (try dsimp only [NoK, AllB] at hi he); first | exact hi.elim | exact he.elim | omega | (rcases hi with hi | hi <;> omega) | (rcases he with he | he <;> omega))
      replace HB2 := HB2.keep k50 (by intro h; (try dsimp only at h); first | omega)
      replace E := E.step k50 (by intro i hi he; (try dsimp only [NoK] at hi he ⊢); first | exact he.elim | omega | exact he)
      replace EL1 := EL1.step k50 (by intro i hi he; (try dsimp only [NoK] at hi he ⊢); first | exact he.elim | omega | exact he)
      replace HT8 := HT8.keep k50 (by intro i _ hi he; (try dsimp only [NoK, AllB] at hi he); first | exact hi.elim | exact he.elim | omega | (rcases hi with hi | hi <;> omega) | (rcases he with he | he <;> omega))
      replace HS7 := HS7.keep k50 (by intro i _ hi he; (try dsimp only [NoK, AllB] at hi he); first | exact hi.elim | exact he.elim | omega | (rcases hi with hi | hi <;> omega) | (rcases he with he | he <;> omega))
      replace HS8 := HS8.keep k50 (by intro i _ hi he; (try dsimp only [NoK, AllB] at hi he); first | exact hi.elim | exact he.elim | omega | (rcases hi with hi | hi <;> omega) | (rcases he with he | he <;> omega))
      replace HB26 := HB26.keep k50 (by intro h; (try dsimp only at h); first | omega)
      replace HS49 := HS49.keep k50 (by intro i _ hi he; (try dsimp only [NoK, AllB] at hi he); first | exact hi.elim | exact he.elim | omega | (rcases hi with hi | hi <;> omega) | (rcases he with he | he <;> omega))
      refine l_nil ?_
      refine n_blk ?_
      refine ⟨EL1, ?_⟩
      exact ⟨_, _, HB6, HS49.mono fun i _ h => ⟨by omega, h.2⟩⟩
    · skip
      rintro D w109 hD E EK ⟨a6, c6, HB6, HS6⟩ HD
      have zs_EK109 := EK.size
      have zs_E109 := E.size
      replace HB1 := HB1.keep EK (by intro h; (try dsimp only at h); first | omega)
      replace HT1 := HT1.keep EK (by intro i _ hi he; (try dsimp only [NoK, AllB] at hi he); first | exact hi.elim | exact he.elim | omega | (rcases hi with hi | hi <;> omega) | (rcases he with he | he <;> omega))
      replace HB2 := HB2.keep EK (by intro h; (try dsimp only at h); first | omega)
      refine n_blk ?_
      refine n_then ?_
      refine c_seq ?_
      refine wp_reg (by decide +kernel) ?_
      refine l_v (v_load (by kernel_rfl) rfl (by first | exact HB6.cell rfl | exact HB2.cell rfl | exact HB1.cell rfl | assumption)) ?_
      refine l_v (v_assign (t := .slice _ _ _) rfl) ?_
      refine l_nil ?_
      refine n_then ?_
      refine c_ret ?_
      refine retM1v HD rfl (by decide) (show _ = (Value.slice _ _ _) from rfl) ?_
      have E := keep_put E (by omega : w.heap.size ≤ D) (.deferred none)
      rw [preW_all] at HB6 HS6 ⊢
      exact ⟨⟨_, _, rfl, (bv_turnC HS6 (turn_put HD hD (.deferred none))).mono fun i _ h => by have := h.2; omega⟩, E⟩
    · skip
      rintro D _ pre W hD E EK hpre h HD; exact h.elim
end Go.Proofs.Ytlhanmlpionomaa

namespace Go.Proofs.Ytlhanmlpionomaa
open Go.Vc
set_option linter.unusedVariables false
set_option linter.unusedSimpArgs false
set_option maxRecDepth 100000

def accK (S : TbS) (i : Nat) : List UInt8 := wNum (cntS S) ++ (((([1, 2, 3, 4] : List Int).take i).filter fun c => (S c).isSome).map fun c => spLn (lnK S c)).flatten
theorem accK_end (S : TbS) : accK S 4 = tbW S := by rw [tbW_eq]; rfl
theorem accK_len {S : TbS} (hok : TbOk S) (i : Nat) : (accK S i).length ≤ 16010 := by
  have h := tbW_pre hok (xs := (([1, 2, 3, 4] : List Int).take i).filter fun c => (S c).isSome) (by
    intro c hc
    have := List.mem_of_mem_take (List.mem_filter.1 hc).1
    simp only [List.mem_cons, List.not_mem_nil, or_false] at this
    omega) (Nat.le_trans (List.length_filter_le _ _) (by simp; omega))
  exact h
end Go.Proofs.Ytlhanmlpionomaa
