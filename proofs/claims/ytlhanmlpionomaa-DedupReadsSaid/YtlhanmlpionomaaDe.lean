/- A part of the proof: steps and lemmas for the walks through the given program. -/
import Derived.Test.YtlhanmlpionomaaDd
import Derived.Test.YtlhanmlpionomaaGu
import Derived.Test.YtlhanmlpionomaaGz
namespace Go.Proofs.Ytlhanmlpionomaa
open Go.Vc
set_option linter.unusedVariables false
set_option linter.unusedSimpArgs false
set_option maxRecDepth 100000

abbrev LnV := Int × AdV
def spLn (x : LnV) : List UInt8 := wNum x.1.toNat ++ wNum x.2.1.toNat ++ wNum x.2.2.1.toNat ++ wList spPr x.2.2.2.1 ++ wBytes x.2.2.2.2
def lnK (S : TbS) (c : Int) : LnV := (c, numS S c, ansS S c)
def tbW (S : TbS) : List UInt8 := wList spLn ((ksS S).map (lnK S))
theorem wl_pr {ps : List PrV} (h : ps.length ≤ 32) (h2 : ∀ p ∈ ps, p.1.length ≤ 24 ∧ p.2.length ≤ 40) : (wList spPr ps).length ≤ 3000 := by
  have h3 := flat_len (sp := spPr) (m := 84) (xs := ps) (fun p hp => by have := h2 p hp; have := spPr_len (p := p) (by omega) (by omega); omega)
  have h4 := wNum_len10 (n := ps.length) (by omega)
  have h5 : ps.length * 84 ≤ 32 * 84 := Nat.mul_le_mul_right _ h
  rw [wList, List.length_append]; omega
theorem ansS_may {S : TbS} (hok : TbOk S) (c : Int) : mayAn (ansS S c) = true := by
  unfold ansS
  cases hS : S c with
  | none => rfl
  | some x => exact (hok c x hS).2.2
theorem spLn_len {S : TbS} (hok : TbOk S) {c : Int} (h1 : 0 ≤ c) (h2 : c ≤ 4) : (spLn (lnK S c)).length ≤ 4000 := by
  obtain ⟨⟨g1, g2⟩, g3, g4, g5⟩ := mayAn_iff.1 (ansS_may hok c)
  obtain ⟨g6, g7⟩ := numS_rng hok c
  have k1 := wNum_len10 (n := c.toNat) (by omega)
  have k2 := wNum_len10 (n := (numS S c).toNat) (by omega)
  have k3 := wNum_len10 (n := (ansS S c).1.toNat) (by omega)
  have k4 := wl_pr g3 (fun p hp => by have := g5 p hp; omega)
  have k5 := wBytes_len10 (l := (ansS S c).2.2) (by omega)
  simp only [spLn, lnK, List.length_append]; omega
theorem prBytes_c {w : World} {F : Nat → Prop} {cs : List Value} {p : PrV} (hr : tPr.rep w F cs p) (hl : p.1.length ≤ 24) (hl2 : p.2.length ≤ 40) : CallsR Try.prog 48 (#[.agg cs.toArray] ++ #[]) w (fun r w2 => OwV tU8 nU8 w2 w.heap.size NoK r (spPr p) ∧ Ext w w2) := by
  obtain ⟨a1, c1, a2, c2, rfl, HS1, HS2⟩ := tPr_cells hr
  have hsp := spPr_len (p := p) (by omega) (by omega)
  show CallsR _ _ #[_] _ _
  refine enter 11 Try.func48 rfl rfl (by simp) ?_
  refine c_seq ?_
  have E := Keep.refl (K := NoK) w
  replace HS1 := HS1.all
  replace HS2 := HS2.all
  refine wp_reg (by decide +kernel) ?_
  refine l_to (to_box (show _ = (Value.agg _) from rfl) ?_)
  rintro b1 w1 zb1 HB1 e1 z1
  have zs_e1 := e1.size
  replace E := E.trans (Ext.keep e1)
  replace HS1 := HS1.ext e1
  replace HS2 := HS2.ext e1
  try simp only [Value.cells] at HB1
  refine l_v (v_assign rfl) ?_
  refine l_nil ?_
  refine n_then ?_
  refine c_seq ?_
  refine wp_any (by kernel_rfl) ?_
  have e101 : Ext w1 { w1 with drawn := w1.drawn + 1 } := Keep.drawn _ _
  generalize hw101 : ({ w1 with drawn := w1.drawn + 1 } : World) = w101 at e101 ⊢
  clear hw101
  have zs_e101 := e101.size
  replace E := E.trans (Ext.keep e101)
  replace HS1 := HS1.ext e101
  replace HS2 := HS2.ext e101
  replace HB1 := HB1.ext e101
  refine r_cut 5 rfl (by decide +kernel) (by decide +kernel) (by decide +kernel) ?_
  refine wp_regdW (NoK) (by decide +kernel) (by decide +kernel) ?_
  refine rt_v (fun vals w hR hd => v_fieldAddr (off := 0) (ft := 31) (by kernel_rfl) rfl) ?_
  refine rt_v (fun vals w hR hd => v_load (by kernel_rfl) (hd 0 rfl) (by first | exact (HB1.ext hR).pv 0 _ rfl | assumption)) ?_
  refine rt_to (fun v W => Bv W AllB v (wBytes p.1)) (fun v w w' h k => h.ext k) (fun vals w hR hd => to_f1 (by kernel_rfl) (hd 1 rfl) (CallsR.mono (Bytes_c (HS1.ext hR) (by omega)) fun v w1 ⟨h, _, e⟩ => ⟨e, h.view.allB⟩)) ?_
  refine rt_v (fun vals w hR hd => v_fieldAddr (off := 1) (ft := 31) (by kernel_rfl) rfl) ?_
  refine rt_v (fun vals w hR hd => v_load (by kernel_rfl) (hd 3 rfl) (by first | exact (HB1.ext hR).pv 1 _ rfl | assumption)) ?_
  refine rt_nil (fun w102 e102 => ?_)
  rintro _ rfl _ rfl v5 HS5 _ rfl _ rfl
  have zs_e102 := e102.size
  obtain ⟨a5, d5, rfl⟩ := HS5.shape
  replace E := E.trans (Ext.keep e102)
  replace HS1 := HS1.ext e102
  replace HS2 := HS2.ext e102
  replace HB1 := HB1.ext e102
  refine fin_nil ?_
  refine n_then ?_
  refine r_cut 1 rfl (by decide +kernel) (by decide +kernel) (by decide +kernel) ?_
  refine r_one (by decide +kernel) rfl ?_
  refine l_to (to_f1 (by kernel_rfl) (show _ = (Value.slice _ _ _) from rfl) (CallsR.mono (Bytes_c HS2 (by omega)) ?_))
  rintro _ w9 ⟨HO9, ⟨q9, c9, rfl⟩, e9⟩
  have zs_e9 := e9.size
  replace E := E.trans (Ext.keep e9)
  replace HS1 := HS1.ext e9
  replace HS2 := HS2.ext e9
  replace HB1 := HB1.ext e9
  replace HS5 := HS5.ext e9
  have zo_HO9 := fun (b : Nat) h => HO9.own_lt (b := b) h
  refine l_nil ?_
  refine n_then ?_
  refine r_cut 1 rfl (by decide +kernel) (by decide +kernel) (by decide +kernel) ?_
  refine r_one (by decide +kernel) rfl ?_
  refine l_to (to_sliceN (t := tSl tU8) (xs := [wBytes p.1, wBytes p.2]) (et := 31) (bytes := 24) (zl := [.slice none 0 0, .slice none 0 0]) (by kernel_rfl) (by decide) (by decide) (by unfold kZeros; kernel_rfl) rfl (cells := [_, _]) rfl rfl rfl ((reps2 (t := tSl tU8) (c1 := [_]) (c2 := [_]) ⟨_, rfl, HS5⟩ ⟨_, rfl, HO9.view.allB⟩)) ?_)
  rintro b10 w10 zb10 HO10 e10 z10
  have zs_e10 := e10.size
  replace E := E.trans (Ext.keep e10)
  replace HS1 := HS1.ext e10
  replace HS2 := HS2.ext e10
  replace HB1 := HB1.ext e10
  replace HS5 := HS5.ext e10
  replace HO9 := HO9.ext e10
  have zo_HO10 := fun (b : Nat) h => HO10.own_lt (b := b) h
  refine l_nil ?_
  refine n_then ?_
  refine r_cut 1 rfl (by decide +kernel) (by decide +kernel) (by decide +kernel) ?_
  refine r_one (by decide +kernel) rfl ?_
  refine l_to (to_f1 (by kernel_rfl) (show _ = (Value.slice _ _ _) from rfl) (CallsR.mono (Join_c HO10.view (by rw [spPr, List.length_append] at hsp; simp; omega)) ?_))
  rintro _ w11 ⟨HO11, ⟨q11, c11, rfl⟩, e11⟩
  have zs_e11 := e11.size
  replace E := E.trans (Ext.keep e11)
  replace HS1 := HS1.ext e11
  replace HS2 := HS2.ext e11
  replace HB1 := HB1.ext e11
  replace HS5 := HS5.ext e11
  replace HO9 := HO9.ext e11
  replace HO10 := HO10.ext e11
  have zo_HO11 := fun (b : Nat) h => HO11.own_lt (b := b) h
  refine l_nil ?_
  refine n_then ?_
  refine r_one (by decide +kernel) rfl ?_
  refine l_v (v_assign (t := .slice _ _ _) rfl) ?_
  refine l_nil ?_
  refine n_then ?_
  refine c_ret ?_
  refine ret1v rfl (by decide) (show _ = (Value.slice _ _ _) from rfl) ?_
  refine ⟨?_, E⟩
  have h : [wBytes p.1, wBytes p.2].flatten = spPr p := by simp [spPr]
  rw [h] at HO11 ⊢
  exact HO11.base (by omega)
theorem putPr_c {w : World} {v : Value} {F : Nat → Prop} {xs : List (PrV)} {fr : Nat} {cap : Array Value} (hv : SlV (tPr) w F v xs) (hb : kBody Try.prog fr = true) (sp : PrV → List UInt8)
    (hform : ∀ (w1 : World) (cs : List Value) (x : PrV), Ext w w1 → (tPr).rep w1 F cs x → x ∈ xs → CallsR Try.prog fr (#[.agg cs.toArray] ++ cap) w1 (fun r w2 => OwV tU8 nU8 w2 w1.heap.size NoK r (sp x) ∧ Ext w1 w2))
    (hl : (wList sp xs).length ≤ 140737488355300) (hn : xs.length ≤ 5000000000000) :
    CallsR Try.prog 47 #[v, .func (.func fr) #[] cap] w (fun r w' => ∃ q c, r = .tuple #[.slice (some q) (wList sp xs).length c, .int .i64 0] ∧ OwV tU8 nU8 w' w.heap.size NoK (.slice (some q) (wList sp xs).length c) (wList sp xs) ∧ Ext w w') := by
  obtain ⟨a, c, rfl⟩ := hv.shape
  obtain ⟨w0, rfl⟩ : ∃ x, x = w := ⟨w, rfl⟩
  refine enter 32 Try.func47 rfl rfl (by simp) ?_
  refine c_seq ?_
  refine wp_reg (by decide +kernel) ?_
  refine l_v (v_assign rfl) ?_
  refine l_v (v_assign rfl) ?_
  refine l_nil ?_
  refine n_then ?_
  refine c_seq ?_
  refine c_seq ?_
  refine wp_reg (by decide +kernel) ?_
  refine l_v (v_move (t := .func _ _ _) rfl) ?_
  refine l_v (v_feqlnil (ps := #[61]) (rs := #[31]) (v := false) (by kernel_rfl) rfl rfl) ?_
  refine l_nil ?_
  refine n_then ?_
  refine c_cond rfl rfl (fun hc => ?_) (fun hc => ?_)
  · skip
    cases hc
  · skip
    refine c_skip ?_
    refine n_then ?_
    refine c_seq ?_
    refine wp_reg (by decide +kernel) ?_
    refine l_v (v_move (t := .slice _ _ _) rfl) ?_
    refine l_v (v_len (et := 61) (by kernel_rfl) rfl) ?_
    refine l_v (v_conv (ds := .int .i64) (by kernel_rfl) (by kernel_rfl) rfl (by first | exact wr_u64 (by omega) (by omega) | rfl)) ?_
    refine l_to (to_f1 (by kernel_rfl) (show _ = (Value.int _ _) from rfl) (CallsR.mono (Number_c (n := xs.length) (by omega)) ?_))
    rintro _ w1 ⟨o1, ⟨q1, c1, rfl⟩, e1⟩
    have zs_e1 := e1.size
    refine l_to (to_slice1 (t := tSl tU8) (et := 31) (bytes := 24) (by kernel_rfl) (by decide) (show _ = (Value.slice _ _ _) from rfl) ((show (tSl tU8).rep _ _ [_] _ from ⟨_, rfl, o1.view⟩)) ?_)
    rintro b2 w2 rfl o2 e2 z2
    have zs_e2 := e2.size
    refine l_v (v_assign (t := .slice _ _ _) rfl) ?_
    refine l_nil ?_
    refine n_then ?_
    refine c_seq ?_
    refine c_seq ?_
    refine wp_reg (by decide +kernel) ?_
    refine l_v (v_move (t := .slice _ _ _) rfl) ?_
    refine l_v (v_len (et := 61) (by kernel_rfl) rfl) ?_
    refine l_v (v_move rfl) ?_
    refine l_nil ?_
    refine n_then ?_
    refine c_block ?_
    refine c_loop (τ := Option Addr × Nat × Nat) [6, 7, 17, 18, 19, 20, 21, 22, 23, 24, 25, 26, 27, 28, 29] (fun (a1, c1, k) => [(6, .slice a1 (k + 1) c1), (17, .int .i64 k)]) (fun (a1, c1, k) w => OwV (tSl tU8) nSl w w0.heap.size (fun b => w0.heap.size ≤ b) (.slice a1 (k + 1) c1) (wNum xs.length :: (xs.take k).map sp) ∧ Ext w0 w ∧ k ≤ xs.length) (fun (a1, c1, k) => xs.length - k) (some ⟨w1.heap.size, 0, none⟩, 1, 0) (by exact ⟨rfl, rfl, trivial⟩) (by exact ⟨(o2.base (by omega)).mono (fun b _ h => by rcases h.1 with h | h; exact h; exact h.elim), e1.trans e2, Nat.zero_le _⟩) ?_
    rintro ⟨a1, c1, k⟩ w3 j ⟨o3, e3, h3⟩
    refine c_seq ?_
    refine wp_reg (by decide +kernel) ?_
    refine l_v (v_lss rfl rfl) ?_
    refine l_nil ?_
    refine n_then ?_
    refine c_seq ?_
    refine c_cond rfl rfl (fun hc2 => ?_) (fun hc2 => ?_)
    · skip
      have hc2 := dtrue hc2
      have zs_e3 := e3.size
      obtain ⟨x, hx⟩ : ∃ x, xs[k]? = some x := ⟨xs[k]'(by omega), by simp [show k < xs.length by omega]⟩
      have hlk : (wNum xs.length :: (xs.take k).map sp).length = k + 1 := by simp; omega
      refine c_skip ?_
      refine n_then ?_
      refine c_seq ?_
      refine c_block ?_
      refine c_seq ?_
      refine wp_reg (by decide +kernel) ?_
      refine l_v (v_move (t := .int _ _) rfl) ?_
      refine l_v (v_assign (t := .int _ _) rfl) ?_
      refine l_nil ?_
      refine n_then ?_
      refine wp_reg (by decide +kernel) ?_
      refine l_v (v_move (t := .slice _ _ _) rfl) ?_
      refine l_v (v_move (t := .func _ _ _) rfl) ?_
      refine l_v (v_move (t := .slice _ _ _) rfl) ?_
      refine l_v (v_move (t := .int _ _) rfl) ?_
      refine l_to (to_index (et := 61) (by kernel_rfl) (by kernel_rfl) (show _ = (Value.slice _ _ _) from rfl) (hv.ext e3) (show _ = (Value.int _ _) from rfl) rfl hx ?_)
      rintro q cs hF hp hr
      skip
      refine l_v (v_loadA (n := 2) (by kernel_rfl) rfl hp (tPr.len hr)) ?_
      refine l_to (to_call1 hb rfl (show _ = (Value.agg _) from rfl) (CallsR.mono ((hform w3 _ x e3 hr (List.mem_of_getElem? hx))) ?_))
      rintro _ w4 ⟨o4, e4⟩
      have zs_e4 := e4.size
      obtain ⟨a4, c4, rfl⟩ := o4.shape
      refine l_to (to_slice1 (t := tSl tU8) (et := 31) (bytes := 24) (by kernel_rfl) (by decide) (show _ = (Value.slice _ _ _) from rfl) ((show (tSl tU8).rep _ _ [_] _ from ⟨_, rfl, o4.view⟩)) ?_)
      rintro b5 w5 rfl o5 e5 z5
      have zs_e5 := e5.size
      refine l_to (to_append (et := 31) (bytes := 24) (by kernel_rfl) (show _ = (Value.slice _ _ _) from rfl) (o3.ext (e4.trans e5)) (show _ = (Value.slice _ _ _) from rfl) o5.view ((OwV_sep o3 (by intro b hb; simp only [NoK, or_false] at hb; omega) (by omega))) (by first | omega | (simp; done) | (simp; omega)) (by simp only [maxLen]; first | omega | (simp; done) | (simp; omega)) (by omega) ?_)
      rintro a6 n6 c6 w6 o6 hn6 k6 b6 i6
      have zs_k6 := k6.size
      have hlk2 : ((wNum xs.length :: (xs.take k).map sp) ++ [sp x]).length = k + 1 + 1 := by simp; omega
      rw [hlk2] at hn6
      subst hn6
      have e6 : Ext w0 w6 := ((e3.trans e4).trans e5).step k6 fun b hb h => by have := (o3.own_lt h).1; omega
      have htk : (xs.take (k + 1)).map sp = (xs.take k).map sp ++ [sp x] := by rw [List.take_add_one, hx]; simp
      refine l_v (v_assign (t := .slice _ _ _) rfl) ?_
      refine l_nil ?_
      refine n_blk ?_
      refine n_then ?_
      refine wp_reg (by decide +kernel) ?_
      refine l_v (v_add rfl rfl (by first | exact wr_i64 (by omega) (by omega) | rfl)) ?_
      refine l_v (v_move (t := .int _ _) rfl) ?_
      refine l_nil ?_
      refine n_then ?_
      refine ⟨(a6, c6, k + 1), _, rfl, by (repeat (first | exact Off.of_over _ _ _ | refine Off.upd ?_ (by decide) _ | refine Off.overs ?_ (by decide) _)), ⟨by first | rfl | exact congrArg (Value.int _) (by omega) | (simp; done), by first | rfl | exact congrArg (Value.int _) (by omega) | (simp; done), trivial⟩, ?_, ?_⟩
      · exact ⟨by rw [htk]; exact o6, e6, by omega⟩
      · dsimp only; omega
    · skip
      have hc2 := dfalse hc2
      obtain rfl : k = xs.length := by omega
      rw [List.take_length] at o3
      have zs_e3 := e3.size
      refine c_exit ?_
      refine x_then ?_
      refine x_then ?_
      refine x_hit ?_
      refine n_then ?_
      refine c_seq ?_
      refine wp_reg (by decide +kernel) ?_
      refine l_v (v_move (t := .slice _ _ _) rfl) ?_
      refine l_to (to_f1 (by kernel_rfl) (show _ = (Value.slice _ _ _) from rfl) (CallsR.mono (Join_c o3.view (by simpa [wList] using hl)) ?_))
      rintro _ w4 ⟨o4, ⟨q4, c4, rfl⟩, e4⟩
      have zs_e4 := e4.size
      refine l_v (v_assign (t := .slice _ _ _) rfl) ?_
      refine l_v (v_assign rfl) ?_
      refine l_nil ?_
      refine n_then ?_
      refine c_ret ?_
      refine ret2 rfl (by decide) (by decide) ?_
      have hfl : (wNum xs.length :: xs.map sp).flatten = wList sp xs := by simp [wList]
      rw [hfl] at o4 ⊢
      exact ⟨q4, c4, rfl, o4.base (by omega), e3.trans e4⟩


end Go.Proofs.Ytlhanmlpionomaa

namespace Go.Proofs.Ytlhanmlpionomaa
open Go.Vc
set_option linter.unusedVariables false
set_option linter.unusedSimpArgs false
set_option maxRecDepth 100000

theorem tbW_pre {S : TbS} (hok : TbOk S) {xs : List Int} (h : ∀ c ∈ xs, 0 ≤ c ∧ c ≤ 4) (hl : xs.length ≤ 4) : (wNum (cntS S) ++ (xs.map fun c => spLn (lnK S c)).flatten).length ≤ 16010 := by
  have h3 := flat_len (sp := fun c => spLn (lnK S c)) (m := 4000) (xs := xs) (fun c hc => spLn_len hok (h c hc).1 (h c hc).2)
  have h6 : cntS S ≤ 4 := by rw [← ks_cnt]; exact ksP_len _
  have h4 := wNum_len10 (n := cntS S) (by omega)
  have h5 : xs.length * 4000 ≤ 4 * 4000 := Nat.mul_le_mul_right _ hl
  rw [List.length_append]; omega
theorem tbW_eq (S : TbS) : tbW S = wNum (cntS S) ++ ((ksS S).map fun c => spLn (lnK S c)).flatten := by
  rw [tbW, wList, List.length_map, ks_cnt, List.map_map]; rfl
theorem ks_rng (S : TbS) : ∀ c ∈ ksS S, 1 ≤ c ∧ c ≤ 4 := by
  intro c hc
  have := (List.mem_filter.1 hc).1
  simp only [List.mem_cons, List.not_mem_nil, or_false] at this
  omega
def preW (S : TbS) (pre : List (Fin (ksS S).length)) : List UInt8 := wNum (cntS S) ++ (pre.map fun x => spLn (lnK S (ksS S)[x])).flatten
theorem preW_snoc (S : TbS) (pre : List (Fin (ksS S).length)) (x : Fin (ksS S).length) : preW S (pre ++ [x]) = preW S pre ++ spLn (lnK S (ksS S)[x]) := by simp [preW]
theorem preW_len {S : TbS} (hok : TbOk S) (pre : List (Fin (ksS S).length)) (hl : pre.length < (ksS S).length) : (preW S pre).length ≤ 16010 := by
  have h4 : (ksS S).length ≤ 4 := ksP_len _
  have := tbW_pre hok (xs := pre.map fun x => (ksS S)[x]) (by
    intro c hc
    obtain ⟨x, _, rfl⟩ := List.mem_map.1 hc
    have := ks_rng S (ksS S)[x] (List.getElem_mem x.2)
    omega) (by rw [List.length_map]; omega)
  rw [List.map_map] at this
  exact this
theorem preW_nil (S : TbS) : preW S [] = wNum (cntS S) := by simp [preW]
theorem preW_all (S : TbS) : preW S (List.finRange _) = tbW S := by
  rw [preW, tbW_eq]
  have := congrArg (List.map fun c => spLn (lnK S c)) (map_fin (ksS S))
  rw [List.map_map] at this
  rw [← this]; rfl
set_option maxHeartbeats 8000000 in
theorem TBytes_c {w : World} {F : Nat → Prop} {b bm : Nat} {S : TbS} (HB1 : Blk w b [.map (some bm)] 65) (HT1 : TbI w F bm S) (okS : TbOk S) :
    CallsR Try.prog 22 #[.pointer (some ⟨b, 0, none⟩)] w (fun o w' => (∃ a c, o = .slice a (tbW S).length c ∧ Bv w' (fun i => w.heap.size ≤ i) o (tbW S)) ∧ Ext w w') := by
  obtain ⟨n0, hn0⟩ : ∃ n, n = w.heap.size := ⟨_, rfl⟩
  have hcn : cntS S ≤ 4 := by rw [← ks_cnt]; exact ksP_len _
  have zl1 := HB1.lt
  have zlm := HT1.lt
  replace HT1 := HT1.mono (F' := fun i => F i ∧ i < n0) fun i hi h => ⟨h, by omega⟩
  refine enterM 51 Try.func22 rfl rfl (by simp) ?_
  refine c_seq ?_
  have E := Keep.refl (K := NoK) w
  refine wp_reg (by decide +kernel) ?_
  refine l_to (to_box (show _ = (Value.pointer _) from rfl) ?_)
  rintro b2 w2 zb2 HB2 e2 z2
  have zs_e2 := e2.size
  replace E := E.trans (Ext.keep e2)
  replace HB1 := HB1.ext e2
  replace HT1 := HT1.ext e2
  try simp only [Value.cells] at HB2
  refine l_v (v_assign rfl) ?_
  refine l_nil ?_
  refine n_then ?_
  refine c_seq ?_
  refine c_seq ?_
  refine wp_reg (by decide +kernel) ?_
  refine l_v (v_load (by kernel_rfl) rfl (by first | exact HB2.cell rfl | exact HB1.cell rfl | assumption)) ?_
  refine l_to (to_f1 (by kernel_rfl) (show _ = (Value.pointer _) from rfl) (CallsR.mono (there_c HB1) ?_))
  rintro _ w101 ⟨rfl, e101⟩
  have zs_e101 := e101.size
  replace E := E.trans (Ext.keep e101)
  replace HB1 := HB1.ext e101
  replace HT1 := HT1.ext e101
  replace HB2 := HB2.ext e101
  refine l_v (v_not rfl) ?_
  refine l_nil ?_
  refine n_then ?_
  refine c_cond rfl rfl (fun h0 => ?_) (fun h0 => ?_)
  · skip
    cases h0
  · skip
    refine c_skip ?_
    refine n_then ?_
    refine c_seq ?_
    refine wp_reg (by decide +kernel) ?_
    refine l_v (v_load (by kernel_rfl) rfl (by first | exact HB2.cell rfl | exact HB1.cell rfl | assumption)) ?_
    refine l_to (to_f1 (by kernel_rfl) (show _ = (Value.pointer _) from rfl) (CallsR.mono (Len_c HB1 HT1 okS) ?_))
    rintro _ w102 ⟨rfl, e102⟩
    have zs_e102 := e102.size
    replace E := E.trans (Ext.keep e102)
    replace HB1 := HB1.ext e102
    replace HT1 := HT1.ext e102
    replace HB2 := HB2.ext e102
    refine l_v (v_conv (ds := .int .i64) (by kernel_rfl) (by kernel_rfl) rfl (by first | exact wr_u64 (by omega) (by omega) | rfl)) ?_
    refine l_to (to_f1 (by kernel_rfl) (show _ = (Value.int _ _) from rfl) (CallsR.mono (Number_c (n := cntS S) (by omega)) ?_))
    rintro _ w5 ⟨HO5, ⟨q5, c5, rfl⟩, e5⟩
    have zs_e5 := e5.size
    have zq5 := HO5.own_lt (b := q5.block) rfl
    have HS5 := HO5.view.mono (F' := fun i => i < w5.heap.size ∧ n0 ≤ i) (fun i hi h => ⟨hi, Or.elim h (fun h => by omega) (fun h => h.elim)⟩)
    replace E := E.trans (Ext.keep e5)
    replace HB1 := HB1.ext e5
    replace HT1 := HT1.ext e5
    replace HB2 := HB2.ext e5
    have zo_HO5 := fun (b : Nat) h => HO5.own_lt (b := b) h
    refine l_to (to_alloc (z := (.slice none 0 0)) (by unfold kZero; kernel_rfl) ?_)
    rintro b6 w6 zb6 HB6 e6 z6
    have zs_e6 := e6.size
    replace E := E.trans (Ext.keep e6)
    replace HB1 := HB1.ext e6
    replace HT1 := HT1.ext e6
    replace HB2 := HB2.ext e6
    replace HS5 := HS5.ext e6
    try simp only [Value.cells] at HB6
    refine l_to (to_store rfl rfl (show _ = (Value.slice _ _ _) from rfl) rfl (by kernel_rfl) HB6 (by first | exact of_decide_eq_true rfl | (simp; done) | decide | (simp only [List.length_set, hlen]; exact of_decide_eq_true rfl)) ?_)
    rintro w103 HX103 k103 z103
    have zs_k103 := k103.size
    replace E := E.step k103 (by intro i hi he; (try dsimp only [NoK] at hi he ⊢); first | exact he.elim | omega | exact he)
    replace HB1 := HB1.keep k103 (by intro h; (try dsimp only at h); first | omega)
    replace HT1 := HT1.keep k103 (by intro i _ hi he; (try dsimp only [NoK, AllB] at hi he); first | exact hi.elim | exact he.elim | omega | (rcases hi with hi | hi <;> omega) | (rcases he with he | he <;> omega))
    replace HB2 := HB2.keep k103 (by intro h; (try dsimp only at h); first | omega)
    replace HS5 := HS5.keep k103 (by intro i _ hi he; (try dsimp only [NoK, AllB] at hi he); first | exact hi.elim | exact he.elim | omega | (rcases hi with hi | hi <;> omega) | (rcases he with he | he <;> omega))
    replace HB6 := HX103
    clear HX103
    try simp only [List.set_cons_zero, List.set_cons_succ, setAt, List.take_zero, List.take_succ_cons, List.drop_zero, List.drop_succ_cons, List.nil_append, List.cons_append, List.append_nil, List.length_cons, List.length_nil, Nat.zero_add, Nat.reduceAdd, List.drop_nil] at HB6
    refine l_nil ?_
    refine n_then ?_
    refine c_seq ?_
    refine c_seq ?_
    refine wp_reg (by decide +kernel) ?_
    refine l_v (v_load (by kernel_rfl) rfl (by first | exact HB6.cell rfl | exact HB2.cell rfl | exact HB1.cell rfl | assumption)) ?_
    refine l_to (to_f1 (by kernel_rfl) (show _ = (Value.pointer _) from rfl) (CallsR.mono (All_c) ?_))
    rintro _ w7 ⟨b7, hb7, rfl, HB7, z7, e7⟩
    have zs_e7 := e7.size
    replace E := E.trans (Ext.keep e7)
    replace HB1 := HB1.ext e7
    replace HT1 := HT1.ext e7
    replace HB2 := HB2.ext e7
    replace HS5 := HS5.ext e7
    replace HB6 := HB6.ext e7
    refine l_nil ?_
    refine n_then ?_
    refine c_block ?_
    refine c_rangeK (N := 51) rfl (show _ = (Value.func _ _ _) from rfl) (by kernel_rfl) (by decide) E (fun x : Fin (ksS S).length => [.int .i64 (ksS S)[x], .int .i64 (numS S (ksS S)[x])]) (fun _ => rfl) (fun i => i = b6) (fun i h => by have h := h; (try dsimp only at h); omega) (tabAll_stops (K := fun i => i = b6 ∨ w7.heap.size ≤ i) okS HB7 HB1 HT1 (fun h => by have h := h; (try dsimp only at h); omega) (fun h => by have h := h; (try dsimp only at h); omega) (fun h => by have h := h; (try dsimp only at h); omega) (fun i h hk => by have := h.2; have hk := hk; (try dsimp only at hk); omega)) (fun pre W => ∃ a c, Blk W b6 [.slice a (preW S pre).length c] 31 ∧ Bv W (fun i => i ≠ b6 ∧ n0 ≤ i) (.slice a (preW S pre).length c) (preW S pre)) (fun c pre W => False) (fun s W W' t h => by obtain ⟨a, c, h1, h2⟩ := h; exact ⟨a, c, h1.turn t, bv_turnC h2 t⟩) (fun c s W W' t h => h) ((by rw [preW_nil]; exact ⟨_, _, HB6, HS5.mono fun i _ h => ⟨by have := h.1; omega, h.2⟩⟩)) (fun x e1 W => Holds [(1, .pointer (some ⟨b2, 0, none⟩)), (3, .pointer (some ⟨b6, 0, none⟩)), (4, .int .i64 (ksS S)[x]), (5, .int .i64 (numS S (ksS S)[x]))] e1) (fun x e1 W W' t h => h) ?_ ?_ ?_ ?_
    · skip
      rintro l pre x w104 E EK ⟨a6, c6, HB6, HS6⟩
      have zs_EK104 := EK.size
      have zs_E104 := E.size
      replace HB1 := HB1.keep EK (by intro h; (try dsimp only at h); first | omega)
      replace HT1 := HT1.keep EK (by intro i _ hi he; (try dsimp only [NoK, AllB] at hi he); first | exact hi.elim | exact he.elim | omega | (rcases hi with hi | hi <;> omega) | (rcases he with he | he <;> omega))
      replace HB2 := HB2.keep EK (by intro h; (try dsimp only at h); first | omega)
      have EL1 := Keep.refl (K := NoK) w104
      refine c_seq ?_
      refine wp_reg (by decide +kernel) ?_
      refine l_v (v_assign (t := .int _ _) rfl) ?_
      refine l_nil ?_
      refine n_then ?_
      refine wp_reg (by decide +kernel) ?_
      refine l_v (v_assign (t := .int _ _) rfl) ?_
      refine l_nil ?_
      refine n_then ?_
      exact ⟨_, rfl, EL1, ⟨a6, c6, HB6, HS6⟩, ⟨rfl, rfl, rfl, rfl, trivial⟩⟩
    · skip
      rintro l pre x e1 w105 E EK ⟨a6, c6, HB6, HS6⟩ hh hlen
      have zs_EK105 := EK.size
      have zs_E105 := E.size
      replace HB1 := HB1.keep EK (by intro h; (try dsimp only at h); first | omega)
      replace HT1 := HT1.keep EK (by intro i _ hi he; (try dsimp only [NoK, AllB] at hi he); first | exact hi.elim | exact he.elim | omega | (rcases hi with hi | hi <;> omega) | (rcases he with he | he <;> omega))
      replace HB2 := HB2.keep EK (by intro h; (try dsimp only at h); first | omega)
      obtain ⟨jj, rfl⟩ : ∃ j, e1 = updL _ j := ⟨_, hh.upd⟩
      have EL1 := Keep.refl (K := fun i => i = b6) w105
      refine c_block ?_
      refine c_seq ?_
      replace HS6 := HS6.all
      obtain ⟨l7, vs7, HT8⟩ := HT1.parts
      obtain ⟨r1, r2⟩ : 1 ≤ (ksS S)[x] ∧ (ksS S)[x] ≤ 4 := ks_rng S _ (List.getElem_mem x.2)
      obtain ⟨kc, hkc⟩ : ∃ k : Nat, (ksS S)[x] = (k : Int) := ⟨(ksS S)[x].toNat, by omega⟩
      obtain ⟨r3, r4⟩ := numS_rng okS kc
      obtain ⟨kn, hkn⟩ : ∃ k : Nat, numS S kc = (k : Int) := Int.eq_ofNat_of_zero_le r3
      obtain ⟨⟨r5, r6⟩, r7, r8, r9⟩ := mayAn_iff.1 (ansS_may okS kc)
      obtain ⟨ke, hke⟩ : ∃ k : Nat, (ansS S kc).1 = (k : Int) := Int.eq_ofNat_of_zero_le r5
      obtain ⟨a7, c7, a8, c8, hl7, HS7, HS8, _, _, _⟩ := HT8.look kc
      rw [hke] at hl7
      have hpl := preW_len okS pre hlen
      rw [hkc, hkn]
      have hln := spLn_len okS (c := (kc : Int)) (by omega) (by omega)
      have hsw := wl_pr r7 (fun p hp => by have := r9 p hp; omega)
      refine wp_reg (by decide +kernel) ?_
      refine l_v (v_load (by kernel_rfl) rfl (by first | exact HB6.cell rfl | exact HB2.cell rfl | exact HB1.cell rfl | assumption)) ?_
      refine l_v (v_nilCheck rfl) ?_
      refine l_v (v_fieldAddr (off := 0) (ft := 63) (by kernel_rfl) rfl) ?_
      refine l_v (v_load (by kernel_rfl) rfl (by first | exact HB6.pv 0 _ rfl | exact HB2.pv 0 _ rfl | exact HB1.pv 0 _ rfl | assumption)) ?_
      refine l_v (v_move (t := .int _ _) rfl) ?_
      refine l_v (v_lookupE (el := 79) (k := (kc : Int)) (z := .agg #[.int .i64 0, .int .i64 0, .slice none 0 0, .slice none 0 0]) kInt ⟨3, by kernel_rfl, by kernel_rfl⟩ (by unfold kZero; kernel_rfl) rfl (show _ = (Value.int _ _) from rfl) rfl HT8.1 hl7) ?_
      refine l_v (v_fieldA (off := 1) (ft := 33) (n := 3) (by kernel_rfl) (by kernel_rfl) rfl (show _ = #[_, _, _] from rfl)) ?_
      refine l_to (to_alloc (z := (.agg #[.int .i64 0, .slice none 0 0, .slice none 0 0])) (by unfold kZero; kernel_rfl) ?_)
      rintro b26 w26 zb26 HB26 e26 z26
      have zs_e26 := e26.size
      replace HB1 := HB1.ext e26
      replace HT1 := HT1.ext e26
      replace HB2 := HB2.ext e26
      replace E := E.trans (Ext.keep e26)
      replace HB6 := HB6.ext e26
      replace EL1 := EL1.trans (Ext.keep e26)
      replace HS6 := HS6.ext e26
      replace HT8 := HT8.ext e26
      replace HS7 := HS7.ext e26
      replace HS8 := HS8.ext e26
      try simp only [Value.cells] at HB26
      refine l_to (to_storeA (n := 3) rfl rfl (show _ = (Value.agg _) from rfl) (by kernel_rfl) rfl (by first | (simp [slice_one]; done) | (simp only [List.forall_mem_cons, List.cons_append, List.nil_append]; repeat' (first | exact rfl | apply And.intro | (intro u hu; cases hu; done)))) HB26 (by first | exact of_decide_eq_true rfl | (simp; done) | decide | (simp only [List.length_set, hlen]; exact of_decide_eq_true rfl)) ?_)
      rintro w106 HX106 k106 z106
      have zs_k106 := k106.size
      replace HB1 := HB1.keep k106 (by intro h; (try dsimp only at h); first | omega)
      replace HT1 := HT1.keep k106 (by intro i _ hi he; (try dsimp only [NoK, AllB] at hi he); first | exact hi.elim | exact he.elim | omega | (rcases hi with hi | hi <;> omega) | (rcases he with he | he <;> omega))
      replace HB2 := HB2.keep k106 (by intro h; (try dsimp only at h); first | omega)
      replace E := E.step k106 (by intro i hi he; (try dsimp only [NoK] at hi he ⊢); first | exact he.elim | omega | exact he)
      replace HB6 := HB6.keep k106 (by intro h; (try dsimp only at h); first | omega)
      replace EL1 := EL1.step k106 (by intro i hi he; (try dsimp only [NoK] at hi he ⊢); first | exact he.elim | omega | exact he)
      replace HS6 := HS6.keep k106 (by intro i _ hi he; (try dsimp only [NoK, AllB] at hi he); first | exact hi.elim | exact he.elim | omega | (rcases hi with hi | hi <;> omega) | (rcases he with he | he <;> omega))
      replace HT8 := HT8.keep k106 (by intro i _ hi he; (try dsimp only [NoK, AllB] at hi he); first | exact hi.elim | exact he.elim | omega | (rcases hi with hi | hi <;> omega) | (rcases he with he | he <;> omega))
      replace HS7 := HS7.keep k106 (by intro i _ hi he; (try dsimp only [NoK, AllB] at hi he); first | exact hi.elim | exact he.elim | omega | (rcases hi with hi | hi <;> omega) | (rcases he with he | he <;> omega))
      replace HS8 := HS8.keep k106 (by intro i _ hi he; (try dsimp only [NoK, AllB] at hi he); first | exact hi.elim | exact he.elim | omega | (rcases hi with hi | hi <;> omega) | (rcases he with he | he <;> omega))
      replace HB26 := HX106
      clear HX106
      try simp only [List.set_cons_zero, List.set_cons_succ, setAt, List.take_zero, List.take_succ_cons, List.drop_zero, List.drop_succ_cons, List.nil_append, List.cons_append, List.append_nil, List.length_cons, List.length_nil, Nat.zero_add, Nat.reduceAdd, List.drop_nil] at HB26
      refine l_nil ?_
      refine n_then ?_
      refine c_seq ?_
      refine wp_reg (by decide +kernel) ?_
      refine l_v (v_fieldAddr (off := 1) (ft := 30) (by kernel_rfl) rfl) ?_
      refine l_v (v_load (by kernel_rfl) rfl (by first | exact HB26.pv 1 _ rfl | exact HB6.pv 1 _ rfl | exact HB2.pv 1 _ rfl | exact HB1.pv 1 _ rfl | assumption)) ?_
      refine l_to (to_f2 (by kernel_rfl) (show _ = (Value.slice _ _ _) from rfl) rfl (CallsR.mono (putPr_c (cap := #[]) HS7 (by kernel_rfl) spPr (fun w1 cs p e1 hr hp => prBytes_c hr (by have := r9 p hp; omega) (by have := r9 p hp; omega)) (by omega) (by omega)) ?_))
      rintro _ w27 ⟨q27, c27, rfl, HO27, e27⟩
      have zs_e27 := e27.size
      replace HB1 := HB1.ext e27
      replace HT1 := HT1.ext e27
      replace HB2 := HB2.ext e27
      replace E := E.trans (Ext.keep e27)
      replace HB6 := HB6.ext e27
      replace EL1 := EL1.trans (Ext.keep e27)
      replace HS6 := HS6.ext e27
      replace HT8 := HT8.ext e27
      replace HS7 := HS7.ext e27
      replace HS8 := HS8.ext e27
      replace HB26 := HB26.ext e27
      have zo_HO27 := fun (b : Nat) h => HO27.own_lt (b := b) h
      have HS27 := HO27.view.allB
      refine l_v (v_move (t := .tuple _) rfl) ?_
      refine l_v (v_extract (t := .slice _ _ _) rfl rfl) ?_
      refine l_v (v_extract (t := .int _ _) rfl rfl) ?_
      refine l_v (v_assign (t := .slice _ _ _) rfl) ?_
      refine l_v (v_assign (t := .int _ _) rfl) ?_
      refine l_nil ?_
      refine n_then ?_
      refine wp_any (by kernel_rfl) ?_
      have e107 : Ext w27 { w27 with drawn := w27.drawn + 1 } := Keep.drawn _ _
      generalize hw107 : ({ w27 with drawn := w27.drawn + 1 } : World) = w107 at e107 ⊢
      clear hw107
      have zs_e107 := e107.size
      replace HB1 := HB1.ext e107
      replace HT1 := HT1.ext e107
      replace HB2 := HB2.ext e107
      replace E := E.trans (Ext.keep e107)
      replace HB6 := HB6.ext e107
      replace EL1 := EL1.trans (Ext.keep e107)
      replace HS6 := HS6.ext e107
      replace HT8 := HT8.ext e107
      replace HS7 := HS7.ext e107
      replace HS8 := HS8.ext e107
      replace HB26 := HB26.ext e107
      replace HS27 := HS27.ext e107
      refine r_cut 15 rfl (by decide +kernel) (by decide +kernel) (by decide +kernel) ?_
      refine wp_regdW (NoK) (by decide +kernel) (by decide +kernel) ?_
      refine rt_v (fun vals w hR hd => v_load (by kernel_rfl) rfl (by first | exact (HB26.ext hR).cell rfl | exact (HB6.ext hR).cell rfl | exact (HB2.ext hR).cell rfl | exact (HB1.ext hR).cell rfl | assumption)) ?_
      refine rt_v (fun vals w hR hd => v_move (t := .int _ _) rfl) ?_
      refine rt_v (fun vals w hR hd => v_conv (ds := .int .i64) (by kernel_rfl) (by kernel_rfl) (hd 1 rfl) (by first | exact wr_u64 (by omega) (by omega) | rfl)) ?_
      refine rt_to (fun v W => Bv W AllB v (wNum kc)) (fun v w w' h k => h.ext k) (fun vals w hR hd => to_f1 (by kernel_rfl) (hd 2 rfl) (CallsR.mono (Number_c (by omega)) fun v w1 ⟨h, _, e⟩ => ⟨e, h.view.allB⟩)) ?_
      refine rt_v (fun vals w hR hd => v_move (t := .int _ _) rfl) ?_
      refine rt_v (fun vals w hR hd => v_conv (ds := .int .i64) (by kernel_rfl) (by kernel_rfl) (hd 4 rfl) (by first | exact wr_u64 (by omega) (by omega) | rfl)) ?_
      refine rt_to (fun v W => Bv W AllB v (wNum kn)) (fun v w w' h k => h.ext k) (fun vals w hR hd => to_f1 (by kernel_rfl) (hd 5 rfl) (CallsR.mono (Number_c (by omega)) fun v w1 ⟨h, _, e⟩ => ⟨e, h.view.allB⟩)) ?_
      refine rt_v (fun vals w hR hd => v_fieldAddr (off := 0) (ft := 29) (by kernel_rfl) rfl) ?_
      refine rt_v (fun vals w hR hd => v_load (by kernel_rfl) (hd 7 rfl) (by first | exact (HB26.ext hR).pv 0 _ rfl | exact (HB6.ext hR).pv 0 _ rfl | exact (HB2.ext hR).pv 0 _ rfl | exact (HB1.ext hR).pv 0 _ rfl | assumption)) ?_
      refine rt_v (fun vals w hR hd => v_conv (ds := .int .i64) (by kernel_rfl) (by kernel_rfl) (hd 8 rfl) (by first | exact wr_u64 (by omega) (by omega) | rfl)) ?_
      refine rt_to (fun v W => Bv W AllB v (wNum ke)) (fun v w w' h k => h.ext k) (fun vals w hR hd => to_f1 (by kernel_rfl) (hd 9 rfl) (CallsR.mono (Number_c (by omega)) fun v w1 ⟨h, _, e⟩ => ⟨e, h.view.allB⟩)) ?_
      refine rt_v (fun vals w hR hd => v_move (t := .slice _ _ _) rfl) ?_
      refine rt_v (fun vals w hR hd => v_fieldAddr (off := 2) (ft := 31) (by kernel_rfl) rfl) ?_
      refine rt_v (fun vals w hR hd => v_load (by kernel_rfl) (hd 12 rfl) (by first | exact (HB26.ext hR).pv 2 _ rfl | exact (HB6.ext hR).pv 2 _ rfl | exact (HB2.ext hR).pv 2 _ rfl | exact (HB1.ext hR).pv 2 _ rfl | assumption)) ?_
      refine rt_to (fun v W => Bv W AllB v (wBytes (ansS S kc).2.2)) (fun v w w' h k => h.ext k) (fun vals w hR hd => to_f1 (by kernel_rfl) (hd 13 rfl) (CallsR.mono (Bytes_c (HS8.ext hR) (by omega)) fun v w1 ⟨h, _, e⟩ => ⟨e, h.view.allB⟩)) ?_
      refine rt_nil (fun w108 e108 => ?_)
      rintro _ rfl _ rfl _ rfl v36 HS36 _ rfl _ rfl v39 HS39 _ rfl _ rfl _ rfl v43 HS43 _ rfl _ rfl _ rfl v47 HS47
      have zs_e108 := e108.size
      obtain ⟨a36, d36, rfl⟩ := HS36.shape
      obtain ⟨a39, d39, rfl⟩ := HS39.shape
      obtain ⟨a43, d43, rfl⟩ := HS43.shape
      obtain ⟨a47, d47, rfl⟩ := HS47.shape
      replace HB1 := HB1.ext e108
      replace HT1 := HT1.ext e108
      replace HB2 := HB2.ext e108
      replace E := E.trans (Ext.keep e108)
      replace HB6 := HB6.ext e108
      replace EL1 := EL1.trans (Ext.keep e108)
      replace HS6 := HS6.ext e108
      replace HT8 := HT8.ext e108
      replace HS7 := HS7.ext e108
      replace HS8 := HS8.ext e108
      replace HB26 := HB26.ext e108
      replace HS27 := HS27.ext e108
      refine fin_nil ?_
      refine n_then ?_
      refine r_cut 1 rfl (by decide +kernel) (by decide +kernel) (by decide +kernel) ?_
      refine r_one (by decide +kernel) rfl ?_
      refine l_to (to_sliceN (t := tSl tU8) (xs := [preW S pre, wNum kc, wNum kn, wNum ke, wList spPr (ansS S kc).2.1, wBytes (ansS S kc).2.2]) (et := 31) (bytes := 24) (zl := [.slice none 0 0, .slice none 0 0, .slice none 0 0, .slice none 0 0, .slice none 0 0, .slice none 0 0]) (by kernel_rfl) (by decide) (by decide) (by unfold kZeros; kernel_rfl) rfl (cells := [_, _, _, _, _, _]) rfl rfl rfl ((reps6b HS6.allB HS36 HS39 HS43 HS27 HS47)) ?_)
      rintro b48 w48 zb48 HO48 e48 z48
      have zs_e48 := e48.size
      replace HB1 := HB1.ext e48
      replace HT1 := HT1.ext e48
      replace HB2 := HB2.ext e48
      replace E := E.trans (Ext.keep e48)
      replace HB6 := HB6.ext e48
      replace EL1 := EL1.trans (Ext.keep e48)
      replace HS6 := HS6.ext e48
      replace HT8 := HT8.ext e48
      replace HS7 := HS7.ext e48
      replace HS8 := HS8.ext e48
      replace HB26 := HB26.ext e48
      replace HS27 := HS27.ext e48
      replace HS36 := HS36.ext e48
      replace HS39 := HS39.ext e48
      replace HS43 := HS43.ext e48
      replace HS47 := HS47.ext e48
      have zo_HO48 := fun (b : Nat) h => HO48.own_lt (b := b) h
      refine l_nil ?_
      refine n_then ?_
      refine r_cut 1 rfl (by decide +kernel) (by decide +kernel) (by decide +kernel) ?_
      refine r_one (by decide +kernel) rfl ?_
      have hfl : [preW S pre, wNum kc, wNum kn, wNum ke, wList spPr (ansS S kc).2.1, wBytes (ansS S kc).2.2].flatten = preW S (pre ++ [x]) := by rw [preW_snoc, hkc]; simp [spLn, lnK, hkn, hke]
      have hfn : (preW S (pre ++ [x])).length ≤ 30000 := by rw [preW_snoc, hkc, List.length_append]; omega
      refine l_to (to_f1 (by kernel_rfl) (show _ = (Value.slice _ _ _) from rfl) (CallsR.mono (Join_c HO48.view (by rw [hfl]; omega)) ?_))
      rintro _ w49 ⟨HO49, ⟨q49, c49, rfl⟩, e49⟩
      have zs_e49 := e49.size
      rw [hfl] at HO49
      rw [hfl]
      have zq49 := HO49.own_lt (b := q49.block) rfl
      have HS49 := HO49.view.mono (F' := fun i => b6 < i ∧ n0 ≤ i) (fun i hi h => Or.elim h (fun h => by omega) (fun h => h.elim))
      replace HB1 := HB1.ext e49
      replace HT1 := HT1.ext e49
      replace HB2 := HB2.ext e49
      replace E := E.trans (Ext.keep e49)
      replace HB6 := HB6.ext e49
      replace EL1 := EL1.trans (Ext.keep e49)
      replace HS6 := HS6.ext e49
      replace HT8 := HT8.ext e49
      replace HS7 := HS7.ext e49
      replace HS8 := HS8.ext e49
      replace HB26 := HB26.ext e49
      replace HS27 := HS27.ext e49
      replace HS36 := HS36.ext e49
      replace HS39 := HS39.ext e49
      replace HS43 := HS43.ext e49
      replace HS47 := HS47.ext e49
      replace HO48 := HO48.ext e49
      have zo_HO49 := fun (b : Nat) h => HO49.own_lt (b := b) h
      refine l_nil ?_
      refine n_then ?_
      refine r_one (by decide +kernel) rfl ?_
      refine l_to (to_store rfl rfl (show _ = (Value.slice _ _ _) from rfl) rfl (by kernel_rfl) HB6 (by simp) ?_)
      rintro w50 HB6 k50 z50
      have zs_k50 := k50.size
      replace HB1 := HB1.keep k50 (by intro h; (try dsimp only at h); first | omega)
      replace HT1 := HT1.keep k50 (by intro i _ hi he; (try dsimp only [NoK, AllB] at hi he); first | exact hi.elim | exact he.elim | omega | (rcases hi with hi | hi <;> omega) | (rcases he with he | he <;> omega))
      replace HB2 := HB2.keep k50 (by intro h; (try dsimp only at h); first | omega)
      replace E := E.step k50 (by intro i hi he; (try dsimp only [NoK] at hi he ⊢); first | exact he.elim | omega | exact he)
      replace EL1 := EL1.step k50 (by intro i hi he; (try dsimp only [NoK] at hi he ⊢); first | exact he.elim | omega | exact he)
      replace HT8 := HT8.keep k50 (by intro i _ hi he; (try dsimp only [NoK, AllB] at hi he); first | exact hi.elim | exact he.elim | omega | (rcases hi with hi | hi <;> omega) | (rcases he with he | he <;> omega))
      replace HS7 := HS7.keep k50 (by intro i _ hi he; (try dsimp only [NoK, AllB] at hi he); first | exact hi.elim | exact he.elim | omega | (rcases hi with hi | hi <;> omega) | (rcases he with he | he <;> omega))
      replace HS8 := HS8.keep k50 (by intro i _ hi he; (try dsimp only [NoK, AllB] at hi he); first | exact hi.elim | exact he.elim | omega | (rcases hi with hi | hi <;> omega) | (rcases he with he | he <;> omega))
      replace HB26 := HB26.keep k50 (by intro h; (try dsimp only at h); first | omega)
      replace HS49 := HS49.keep k50 (by intro i _ hi he; (try dsimp only [NoK, AllB] at hi he); first | exact hi.elim | exact he.elim | omega | (rcases hi with hi | hi <;> omega) | (rcases he with he | he <;> omega))
      refine l_nil ?_
      refine n_blk ?_
      refine ⟨EL1, ?_⟩
      exact ⟨_, _, HB6, HS49.mono fun i _ h => ⟨by omega, h.2⟩⟩
    · skip
      rintro D w109 hD E EK ⟨a6, c6, HB6, HS6⟩ HD
      have zs_EK109 := EK.size
      have zs_E109 := E.size
      replace HB1 := HB1.keep EK (by intro h; (try dsimp only at h); first | omega)
      replace HT1 := HT1.keep EK (by intro i _ hi he; (try dsimp only [NoK, AllB] at hi he); first | exact hi.elim | exact he.elim | omega | (rcases hi with hi | hi <;> omega) | (rcases he with he | he <;> omega))
      replace HB2 := HB2.keep EK (by intro h; (try dsimp only at h); first | omega)
      refine n_blk ?_
      refine n_then ?_
      refine c_seq ?_
      refine wp_reg (by decide +kernel) ?_
      refine l_v (v_load (by kernel_rfl) rfl (by first | exact HB6.cell rfl | exact HB2.cell rfl | exact HB1.cell rfl | assumption)) ?_
      refine l_v (v_assign (t := .slice _ _ _) rfl) ?_
      refine l_nil ?_
      refine n_then ?_
      refine c_ret ?_
      refine retM1v HD rfl (by decide) (show _ = (Value.slice _ _ _) from rfl) ?_
      have E := keep_put E (by omega : w.heap.size ≤ D) (.deferred none)
      rw [preW_all] at HB6 HS6 ⊢
      exact ⟨⟨_, _, rfl, (bv_turnC HS6 (turn_put HD hD (.deferred none))).mono fun i _ h => by have := h.2; omega⟩, E⟩
    · skip
      rintro D _ pre W hD E EK hpre h HD; exact h.elim
end Go.Proofs.Ytlhanmlpionomaa

namespace Go.Proofs.Ytlhanmlpionomaa
open Go.Vc
set_option linter.unusedVariables false
set_option linter.unusedSimpArgs false
set_option maxRecDepth 100000

def accK (S : TbS) (i : Nat) : List UInt8 := wNum (cntS S) ++ (((([1, 2, 3, 4] : List Int).take i).filter fun c => (S c).isSome).map fun c => spLn (lnK S c)).flatten
theorem accK_zero (S : TbS) : accK S 0 = wNum (cntS S) := by simp [accK]
theorem accK_end (S : TbS) : accK S 4 = tbW S := by rw [tbW_eq]; rfl
theorem accK_no {S : TbS} {c : Nat} (h1 : 1 ≤ c) (h2 : c < 5) (h : (S c).isSome = false) : accK S (c + 1 - 1) = accK S (c - 1) := by
  rw [accK, accK, clients_take h1 h2]; simp [h]
theorem accK_yes {S : TbS} {c : Nat} (h1 : 1 ≤ c) (h2 : c < 5) (h : (S c).isSome = true) : accK S (c + 1 - 1) = accK S (c - 1) ++ spLn (lnK S c) := by
  rw [accK, accK, clients_take h1 h2]; simp [h]
theorem accK_len {S : TbS} (hok : TbOk S) (i : Nat) : (accK S i).length ≤ 16010 := by
  have h := tbW_pre hok (xs := (([1, 2, 3, 4] : List Int).take i).filter fun c => (S c).isSome) (by
    intro c hc
    have := List.mem_of_mem_take (List.mem_filter.1 hc).1
    simp only [List.mem_cons, List.not_mem_nil, or_false] at this
    omega) (Nat.le_trans (List.length_filter_le _ _) (by simp; omega))
  exact h
def accJ (x : List UInt8) (ps : List PrV) (j : Nat) : List UInt8 := x ++ ((ps.take j).map spPr).flatten
theorem accJ_zero (x : List UInt8) (ps : List PrV) : accJ x ps 0 = x := by simp [accJ]
theorem accJ_succ {x : List UInt8} {ps : List PrV} {j : Nat} {p : PrV} (hx : ps[j]? = some p) : accJ x ps (j + 1) = accJ x ps j ++ wBytes p.1 ++ wBytes p.2 := by
  rw [accJ, accJ, List.take_add_one, hx]; simp [spPr]
theorem accJ_end {x : List UInt8} {ps : List PrV} {j : Nat} (h : ps.length ≤ j) : accJ x ps j = x ++ (ps.map spPr).flatten := by
  rw [accJ, List.take_of_length_le h]
theorem accJ_len {x : List UInt8} {ps : List PrV} (j : Nat) (h : ps.length ≤ 32) (h2 : ∀ p ∈ ps, p.1.length ≤ 24 ∧ p.2.length ≤ 40) : (accJ x ps j).length ≤ x.length + 3000 := by
  have h3 := flat_len (sp := spPr) (m := 84) (xs := ps.take j) (fun p hp => by have := h2 p (List.mem_of_mem_take hp); have := spPr_len (p := p) (by omega) (by omega); omega)
  have h4 : (ps.take j).length ≤ 32 := by rw [List.length_take]; omega
  have h5 : (ps.take j).length * 84 ≤ 32 * 84 := Nat.mul_le_mul_right _ h4
  rw [accJ, List.length_append]; omega
set_option maxHeartbeats 16000000 in
theorem refTBytes_c {w : World} {F : Nat → Prop} {b : Nat} {cells : List Value} {S : TbS} (HB1 : Blk w b cells 48) (HT1 : RfC w F cells S) (okS : TbOk S) :
    CallsR Try.prog 23 #[.pointer (some ⟨b, 0, none⟩)] w (fun o w' => (∃ a c, o = .slice a (tbW S).length c ∧ Bv w' (fun i => w.heap.size ≤ i) o (tbW S)) ∧ Ext w w') := by
  have zl1 := HB1.lt
  have hcn : cntS S ≤ 4 := by rw [← ks_cnt]; exact ksP_len _
  replace HT1 := HT1.mono (F' := fun i => F i ∧ i < w.heap.size) fun i hi h => ⟨h, by omega⟩
  refine enter 108 Try.func23 rfl rfl (by simp) ?_
  refine c_seq ?_
  have E := Keep.refl (K := NoK) w
  refine wp_reg (by decide +kernel) ?_
  refine l_v (v_assign rfl) ?_
  refine l_nil ?_
  refine n_then ?_
  refine c_seq ?_
  refine wp_reg (by decide +kernel) ?_
  refine l_v (v_move (t := .pointer _) rfl) ?_
  refine l_to (to_f1 (by kernel_rfl) (show _ = (Value.pointer _) from rfl) (CallsR.mono (refTLen_c HB1 HT1 okS) ?_))
  rintro _ w101 ⟨rfl, e101⟩
  have zs_e101 := e101.size
  replace E := E.trans (Ext.keep e101)
  replace HB1 := HB1.ext e101
  replace HT1 := HT1.ext e101
  refine l_v (v_conv (ds := .int .i64) (by kernel_rfl) (by kernel_rfl) rfl (by first | exact wr_u64 (by omega) (by omega) | rfl)) ?_
  refine l_to (to_f1 (by kernel_rfl) (show _ = (Value.int _ _) from rfl) (CallsR.mono (refNumber_c (n := cntS S) rfl (by omega)) ?_))
  rintro _ w5 ⟨HO5, ⟨q5, c5, rfl⟩, e5⟩
  have zs_e5 := e5.size
  rw [← accK_zero S] at HO5 ⊢
  replace E := E.trans (Ext.keep e5)
  replace HB1 := HB1.ext e5
  replace HT1 := HT1.ext e5
  have zo_HO5 := fun (b : Nat) h => HO5.own_lt (b := b) h
  refine l_v (v_assign (t := .slice _ _ _) rfl) ?_
  refine l_nil ?_
  refine n_then ?_
  refine c_seq ?_
  refine c_seq ?_
  refine wp_reg (by decide +kernel) ?_
  refine l_v (v_assign rfl) ?_
  refine l_nil ?_
  refine n_then ?_
  refine c_block ?_
  refine c_loop (τ := Option Addr × Nat × Nat) [3, 4, 5, 10, 11, 12, 13, 14, 15, 16, 17, 18, 19, 20, 21, 22, 23, 24, 25, 26, 27, 28, 29, 30, 31, 32, 33, 34, 35, 36, 37, 38, 39, 40, 41, 42, 43, 44, 45, 46, 47, 48, 49, 50, 51, 52, 53, 54, 55, 56, 57, 58, 59, 60, 61, 62, 63, 64, 65, 66, 67, 68, 69, 70, 71, 72, 73, 74, 75, 76, 77, 78, 79, 80, 81, 82, 83, 84, 85, 86, 87, 88, 89, 90, 91, 92, 93, 94, 95, 96, 97, 98, 99, 100, 101, 102, 103, 104, 105, 106] (fun (a1, c1, c) => [(3, .slice a1 (accK S (c - 1)).length c1), (4, .int .i64 c)]) (fun (a1, c1, c) W => Ext w W ∧ Keep (fun b => w.heap.size ≤ b) w5 W ∧ 1 ≤ c ∧ c ≤ 5 ∧ OwV tU8 nU8 W w.heap.size NoK (.slice a1 (accK S (c - 1)).length c1) (accK S (c - 1))) (fun (a1, c1, c) => 5 - c) (some q5, c5, 1) (by exact ⟨rfl, rfl, trivial⟩) (by exact ⟨E, Keep.refl _, by decide, by decide, HO5.base (by have := E.size; omega)⟩) ?_
  rintro ⟨a1, c1, c⟩ w102 j ⟨E, EL1, h1, h2, HOx⟩
  have zs_EL1 := EL1.size
  replace HB1 := HB1.keep EL1 (by intro h; (try dsimp only at h); first | omega)
  replace HT1 := HT1.keep EL1 (by intro i _ hi he; (try dsimp only [NoK, AllB] at hi he); first | exact hi.elim | exact he.elim | omega | (rcases hi with hi | hi <;> omega) | (rcases he with he | he <;> omega))
  have zo_HOx := fun (b : Nat) h => HOx.own_lt (b := b) h
  refine c_seq ?_
  refine c_seq ?_
  refine wp_reg (by decide +kernel) ?_
  refine l_v (v_move (t := .int _ _) rfl) ?_
  refine l_v (v_leq rfl rfl) ?_
  refine l_nil ?_
  refine n_then ?_
  refine c_cond rfl rfl (fun hlt => ?_) (fun hlt => ?_)
  · skip
    have hlt4 : c < 5 := by have := dtrue hlt; omega
    have HPn := HT1.pn HB1 (c := c) hlt4
    obtain ⟨a3, c3, a4, c4, HPa, HS3, HS4, hi9⟩ := HT1.pa HB1 (c := c) hlt4
    obtain ⟨r3, r4⟩ := numS_rng okS c
    obtain ⟨⟨r5, r6⟩, r7, r8, r9⟩ := mayAn_iff.1 (ansS_may okS c)
    obtain ⟨kn, hkn⟩ : ∃ k : Nat, numS S c = (k : Int) := ⟨(numS S c).toNat, by omega⟩
    obtain ⟨ke, hke⟩ : ∃ k : Nat, (ansS S c).1 = (k : Int) := ⟨(ansS S c).1.toNat, by omega⟩
    have hps := numS_some okS c
    have hl0 := accK_len okS (c - 1)
    have hl1 := accK_len okS (c + 1 - 1)
    refine c_skip ?_
    refine n_then ?_
    refine c_seq ?_
    refine c_block ?_
    refine c_seq ?_
    refine c_seq ?_
    refine wp_reg (by decide +kernel) ?_
    refine l_v (v_move (t := .pointer _) rfl) ?_
    refine l_v (v_move (t := .int _ _) rfl) ?_
    refine l_v (v_nilCheck rfl) ?_
    refine l_v (v_fieldAddr (off := 0) (ft := 45) (by kernel_rfl) rfl) ?_
    refine l_v (v_arrAddr (et := 2) (n := 5) (sz := 1) (k := c) (by kernel_rfl) rfl rfl rfl (by omega)) ?_
    refine l_v (v_load (by kernel_rfl) rfl (by first | exact pv_1 HPa | exact pv_1 HPn | exact HB1.cell rfl | assumption)) ?_
    refine l_v (v_eql rfl rfl) ?_
    refine l_nil ?_
    refine n_then ?_
    refine c_cond rfl rfl (fun hz => ?_) (fun hz => ?_)
    · skip
      have hz := of_decide_eq_true hz
      have hno := accK_no h1 hlt4 (by rw [hps]; exact decide_eq_false (by omega))
      refine c_exit ?_
      refine x_then ?_
      refine x_hit ?_
      refine n_then ?_
      refine wp_reg (by decide +kernel) ?_
      refine l_v (v_move (t := .int _ _) rfl) ?_
      refine l_v (v_add rfl rfl (by first | exact wr_i64 (by omega) (by omega) | rfl)) ?_
      refine l_v (v_assign (t := .int _ _) rfl) ?_
      refine l_nil ?_
      refine n_then ?_
      refine ⟨(a1, c1, c + 1), _, rfl, by (repeat (first | exact Off.of_over _ _ _ | refine Off.upd ?_ (by decide) _ | refine Off.overs ?_ (by decide) _)), ⟨by first | rfl | exact congrArg (Value.int _) (by omega) | (simp; done) | (rw [hno]; rfl), by first | rfl | exact congrArg (Value.int _) (by omega) | (simp; done) | (rw [hno]; rfl), trivial⟩, ⟨E, EL1, ?_⟩, ?_⟩
      · skip
        refine ⟨by omega, by omega, ?_⟩
        rw [hno]
        exact HOx
      · (dsimp only; omega)
    · skip
      have hz : ¬ numS S c = 0 := of_decide_eq_false hz
      have hyes := accK_yes h1 hlt4 (by rw [hps]; exact decide_eq_true (by omega))
      have hln := spLn_len okS (c := (c : Int)) (by omega) (by omega)
      rw [hkn] at HPn
      rw [hke] at HPa
      have k1 := wNum_len10 (n := c) (by omega)
      have k2 := wNum_len10 (n := kn) (by omega)
      have k3 := wNum_len10 (n := ke) (by omega)
      have k4 := wNum_len10 (n := (ansS S c).2.1.length) (by omega)
      refine c_skip ?_
      refine n_then ?_
      refine c_seq ?_
      refine wp_any (by kernel_rfl) ?_
      have e103 : Ext w102 { w102 with drawn := w102.drawn + 1 } := Keep.drawn _ _
      generalize hw103 : ({ w102 with drawn := w102.drawn + 1 } : World) = w103 at e103 ⊢
      clear hw103
      have zs_e103 := e103.size
      replace E := E.trans (Ext.keep e103)
      replace HB1 := HB1.ext e103
      replace HT1 := HT1.ext e103
      replace HOx := HOx.ext e103
      replace EL1 := EL1.trans (Ext.keep e103)
      replace HPn := HPn.ext e103
      replace HPa := HPa.ext e103
      replace HS3 := HS3.ext e103
      replace HS4 := HS4.ext e103
      refine r_cut 12 rfl (by decide +kernel) (by decide +kernel) (by decide +kernel) ?_
      refine wp_regJW (fun k => (.slice a1 (accK S (c - 1)).length c1 : Value).ownBlock = some k ∨ w103.heap.size ≤ k) (EqJ [] (ChainJ (tU8) (nU8) w103.heap.size (w.heap.size) (NoK) (AllB) (.slice a1 (accK S (c - 1)).length c1 : Value) (accK S (c - 1)) [4] [some 3] [wNum c])) (by decide +kernel) (by decide +kernel) (fun vals done hd => EqJ.start (ChainJ.start (HOx) ((by have := E.size; omega)) (Nat.le_refl _) (fun i hi => hd i (dOf_lt (by decide) hi))) (fun k j hq => hd k (dQ_lt (by decide) k j hq))) ?_
      refine rj_v (EqJ.on ChainJ.on) (by decide) (fun done vals w hR hJ hdn hd => v_move (t := .slice _ _ _) rfl) ?_
      refine rj_v (EqJ.on ChainJ.on) (by decide) (fun done vals w hR hJ hdn hd => v_move (t := .int _ _) rfl) ?_
      refine rj_v (EqJ.on ChainJ.on) (by decide) (fun done vals w hR hJ hdn hd => v_conv (ds := .int .i64) (by kernel_rfl) (by kernel_rfl) (hd 1 rfl) (by first | exact wr_u64 (by omega) (by omega) | rfl)) ?_
      refine rj_d (fun done vals w hR hcl hdk hJ hdn hd => by
          have zs_R := hR.size
          exact to_f1 (by kernel_rfl) (hd 2 rfl) (CallsR.mono (refNumber_c (n := c) rfl (by omega)) fun v w1 h => ⟨Keep.mono (h.2.2) (fun b _ h => h.elim), hJ.step hdk (by decide) (hJ.1.prod (n := 0) (h.2.2) rfl rfl (once_ps (by decide)) (by decide) (h.1.view.mono (fun b _ h => ⟨trivial, h.resolve_right (fun x => x)⟩)))⟩)) ?_
      refine rj_d (fun done vals w hR hcl hdk hJ hdn hd => by
          have zs_R := hR.size
          obtain ⟨hacc, hown, hsrc⟩ := hJ.1.at (n := 0) rfl hdk (fun m h => by cases h)
          exact to_append (et := 5) (bytes := 1) (by kernel_rfl) (hd 0 rfl) hacc rfl (hsrc _ _ rfl rfl (hdn 3 rfl)) flat_u8.to (by simp; omega) (by simp only [maxLen]; simp; omega) (by omega) (fun a n cc w1 o hn kk ho _ => ⟨kk.mono (fun b _ h => hown b h), hJ.step hdk (by decide) (hJ.1.app (n := 0) rfl hdk (fun m h => by cases h) rfl (once_as (by decide)) (ps_ne (by decide)) o kk ho)⟩)) ?_
      refine rj_v (EqJ.on ChainJ.on) (by decide) (fun done vals w hR hJ hdn hd => v_move (t := .pointer _) rfl) ?_
      refine rj_v (EqJ.on ChainJ.on) (by decide) (fun done vals w hR hJ hdn hd => v_move (t := .int _ _) rfl) ?_
      refine rj_v (EqJ.on ChainJ.on) (by decide) (fun done vals w hR hJ hdn hd => v_nilCheck (hd 5 rfl)) ?_
      refine rj_v (EqJ.on ChainJ.on) (by decide) (fun done vals w hR hJ hdn hd => v_fieldAddr (off := 0) (ft := 45) (by kernel_rfl) (hd 7 rfl)) ?_
      refine rj_v (EqJ.on ChainJ.on) (by decide) (fun done vals w hR hJ hdn hd => v_arrAddr (et := 2) (n := 5) (sz := 1) (k := c) (by kernel_rfl) (hd 8 rfl) (hd 6 rfl) rfl (by omega)) ?_
      refine rj_v (EqJ.on ChainJ.on) (by decide) (fun done vals w hR hJ hdn hd => v_load (by kernel_rfl) (hd 9 rfl) (by first | exact pv_1 (HPa.keep hR (by intro h; have he0 := h; (try dsimp only at h); (try simp only [Value.ownBlock, Option.some.injEq] at h); (try simp only [add_block] at h); (try simp only [add_block] at he0); first | omega | (have := (HOx).own_lt he0; omega) | (have := zo_HOx _ he0; omega) | (rcases he0 with he0 | he0; (have := (HOx).own_lt he0; omega); omega))) | exact pv_1 (HPn.keep hR (by intro h; have he0 := h; (try dsimp only at h); (try simp only [Value.ownBlock, Option.some.injEq] at h); (try simp only [add_block] at h); (try simp only [add_block] at he0); first | omega | (have := (HOx).own_lt he0; omega) | (have := zo_HOx _ he0; omega) | (rcases he0 with he0 | he0; (have := (HOx).own_lt he0; omega); omega))) | exact (HB1.keep hR (by intro h; have he0 := h; (try dsimp only at h); (try simp only [Value.ownBlock, Option.some.injEq] at h); first | omega | (have := (HOx).own_lt he0; omega) | (have := zo_HOx _ he0; omega) | (rcases he0 with he0 | he0; (have := (HOx).own_lt he0; omega); omega))).cell rfl | assumption)) ?_
      refine rj_v (EqJ.on ChainJ.on) (by decide) (fun done vals w hR hJ hdn hd => v_conv (ds := .int .i64) (by kernel_rfl) (by kernel_rfl) (hd 10 rfl) (by first | exact wr_u64 (by omega) (by omega) | rfl)) ?_
      refine rj_nil (fun vals w104 k104 J104 => ?_)
      rintro _ _ rfl _ _ rfl _ _ rfl _ rfl - v25 hv25 - _ _ rfl _ _ rfl _ _ rfl _ _ rfl _ _ rfl _ _ rfl _ _ rfl
      have zs_k104 := k104.size
      have HO25 : OwV (tU8) (nU8) w104 (w.heap.size) (NoK) v25 (accK S (c - 1) ++ wNum c) := by
        have h := J104.1.fin (by exact Nat.le_refl _)
        have h2 : accK S (c - 1) ++ ([wNum c]).flatten = accK S (c - 1) ++ wNum c := by simp
        rw [h2] at h; rw [hv25]; exact h
      clear hv25
      obtain ⟨a25, c25, rfl⟩ := HO25.shape
      have zo_HO25 := fun (b : Nat) h => HO25.own_lt (b := b) h
      replace E := E.step k104 (by intro i hi he; have he0 := he; (try dsimp only [NoK] at hi he ⊢); (try simp only [Value.ownBlock, Option.some.injEq] at he); first | exact he.elim | omega | exact he | (have := (HOx).own_lt he0; omega) | (have := zo_HOx _ he0; omega) | (have := (HOx).own_lt he0; rcases hi with hi | hi <;> omega) | (rcases he0 with he0 | he0; (have := (HOx).own_lt he0; omega); omega))
      replace HB1 := HB1.keep k104 (by intro h; have he0 := h; (try dsimp only at h); (try simp only [Value.ownBlock, Option.some.injEq] at h); first | omega | (have := (HOx).own_lt he0; omega) | (have := zo_HOx _ he0; omega) | (rcases he0 with he0 | he0; (have := (HOx).own_lt he0; omega); omega))
      replace HT1 := HT1.keep k104 (by intro i _ hi he; have he0 := he; (try dsimp only [NoK, AllB] at hi he); (try simp only [Value.ownBlock, Option.some.injEq] at he); first | exact hi.elim | exact he.elim | omega | (rcases hi with hi | hi <;> omega) | (rcases he with he | he <;> omega) | (have := (HOx).own_lt he0; omega) | (have := zo_HOx _ he0; omega) | (have := (HOx).own_lt he0; rcases hi with hi | hi <;> omega) | (rcases he0 with he0 | he0; (have := (HOx).own_lt he0; omega); omega))
      replace EL1 := EL1.step k104 (by intro i hi he; have he0 := he; (try dsimp only [NoK] at hi he ⊢); (try simp only [Value.ownBlock, Option.some.injEq] at he); first | exact he.elim | omega | exact he | (have := (HOx).own_lt he0; omega) | (have := zo_HOx _ he0; omega) | (have := (HOx).own_lt he0; rcases hi with hi | hi <;> omega) | (rcases he0 with he0 | he0; (have := (HOx).own_lt he0; omega); omega))
      replace HPn := HPn.keep k104 (by intro h; have he0 := h; (try dsimp only at h); (try simp only [Value.ownBlock, Option.some.injEq] at h); (try simp only [add_block] at h); (try simp only [add_block] at he0); first | omega | (have := (HOx).own_lt he0; omega) | (have := zo_HOx _ he0; omega) | (rcases he0 with he0 | he0; (have := (HOx).own_lt he0; omega); omega))
      replace HPa := HPa.keep k104 (by intro h; have he0 := h; (try dsimp only at h); (try simp only [Value.ownBlock, Option.some.injEq] at h); (try simp only [add_block] at h); (try simp only [add_block] at he0); first | omega | (have := (HOx).own_lt he0; omega) | (have := zo_HOx _ he0; omega) | (rcases he0 with he0 | he0; (have := (HOx).own_lt he0; omega); omega))
      replace HS3 := HS3.keep k104 (by intro i _ hi he; have he0 := he; (try dsimp only [NoK, AllB] at hi he); (try simp only [Value.ownBlock, Option.some.injEq] at he); first | exact hi.elim | exact he.elim | omega | (rcases hi with hi | hi <;> omega) | (rcases he with he | he <;> omega) | (have := (HOx).own_lt he0; omega) | (have := zo_HOx _ he0; omega) | (have := (HOx).own_lt he0; rcases hi with hi | hi <;> omega) | (rcases he0 with he0 | he0; (have := (HOx).own_lt he0; omega); omega))
      replace HS4 := HS4.keep k104 (by intro i _ hi he; have he0 := he; (try dsimp only [NoK, AllB] at hi he); (try simp only [Value.ownBlock, Option.some.injEq] at he); first | exact hi.elim | exact he.elim | omega | (rcases hi with hi | hi <;> omega) | (rcases he with he | he <;> omega) | (have := (HOx).own_lt he0; omega) | (have := zo_HOx _ he0; omega) | (have := (HOx).own_lt he0; rcases hi with hi | hi <;> omega) | (rcases he0 with he0 | he0; (have := (HOx).own_lt he0; omega); omega))
      refine fin_nilJ ?_
      refine n_then ?_
      refine r_cut 1 rfl (by decide +kernel) (by decide +kernel) (by decide +kernel) ?_
      refine r_one (by decide +kernel) rfl ?_
      refine l_to (to_f1 (by kernel_rfl) (show _ = (Value.int _ _) from rfl) (CallsR.mono (refNumber_c (n := kn) rfl (by omega)) ?_))
      rintro _ w33 ⟨HO33, ⟨q33, c33, rfl⟩, e33⟩
      have zs_e33 := e33.size
      replace E := E.trans (Ext.keep e33)
      replace HB1 := HB1.ext e33
      replace HT1 := HT1.ext e33
      replace EL1 := EL1.trans (Ext.keep e33)
      replace HPn := HPn.ext e33
      replace HPa := HPa.ext e33
      replace HS3 := HS3.ext e33
      replace HS4 := HS4.ext e33
      replace HO25 := HO25.ext e33
      have zo_HO33 := fun (b : Nat) h => HO33.own_lt (b := b) h
      refine l_nil ?_
      refine n_then ?_
      refine r_cut 1 rfl (by decide +kernel) (by decide +kernel) (by decide +kernel) ?_
      refine r_one (by decide +kernel) rfl ?_
      refine l_to (to_append (et := 5) (bytes := 1) (by kernel_rfl) (show _ = (Value.slice _ _ _) from rfl) HO25 (show _ = (Value.slice _ _ _) from rfl) HO33.view (flat_u8.to) (by first | omega | (simp; done) | (simp; omega)) (by simp only [maxLen]; first | omega | (simp; done) | (simp; omega)) (by omega) ?_)
      rintro a34 n34 c34 w34 HO34 hn34 k34 h34 i34
      have zs_k34 := k34.size
      subst hn34
      replace E := E.step k34 (by intro i hi he; have he0 := he; (try dsimp only [NoK] at hi he ⊢); (try simp only [Value.ownBlock, Option.some.injEq] at he); first | exact he.elim | omega | exact he | (have := (HO25).own_lt he0; omega) | (have := zo_HO25 _ he0; omega) | (have := (HO25).own_lt he0; rcases hi with hi | hi <;> omega))
      replace HB1 := HB1.keep k34 (by intro h; have he0 := h; (try dsimp only at h); (try simp only [Value.ownBlock, Option.some.injEq] at h); first | omega | (have := (HO25).own_lt he0; omega) | (have := zo_HO25 _ he0; omega))
      replace HT1 := HT1.keep k34 (by intro i _ hi he; have he0 := he; (try dsimp only [NoK, AllB] at hi he); (try simp only [Value.ownBlock, Option.some.injEq] at he); first | exact hi.elim | exact he.elim | omega | (rcases hi with hi | hi <;> omega) | (rcases he with he | he <;> omega) | (have := (HO25).own_lt he0; omega) | (have := zo_HO25 _ he0; omega) | (have := (HO25).own_lt he0; rcases hi with hi | hi <;> omega))
      replace EL1 := EL1.step k34 (by intro i hi he; have he0 := he; (try dsimp only [NoK] at hi he ⊢); (try simp only [Value.ownBlock, Option.some.injEq] at he); first | exact he.elim | omega | exact he | (have := (HO25).own_lt he0; omega) | (have := zo_HO25 _ he0; omega) | (have := (HO25).own_lt he0; rcases hi with hi | hi <;> omega))
      replace HPn := HPn.keep k34 (by intro h; have he0 := h; (try dsimp only at h); (try simp only [Value.ownBlock, Option.some.injEq] at h); (try simp only [add_block] at h); (try simp only [add_block] at he0); first | omega | (have := (HO25).own_lt he0; omega) | (have := zo_HO25 _ he0; omega))
      replace HPa := HPa.keep k34 (by intro h; have he0 := h; (try dsimp only at h); (try simp only [Value.ownBlock, Option.some.injEq] at h); (try simp only [add_block] at h); (try simp only [add_block] at he0); first | omega | (have := (HO25).own_lt he0; omega) | (have := zo_HO25 _ he0; omega))
      replace HS3 := HS3.keep k34 (by intro i _ hi he; have he0 := he; (try dsimp only [NoK, AllB] at hi he); (try simp only [Value.ownBlock, Option.some.injEq] at he); first | exact hi.elim | exact he.elim | omega | (rcases hi with hi | hi <;> omega) | (rcases he with he | he <;> omega) | (have := (HO25).own_lt he0; omega) | (have := zo_HO25 _ he0; omega) | (have := (HO25).own_lt he0; rcases hi with hi | hi <;> omega))
      replace HS4 := HS4.keep k34 (by intro i _ hi he; have he0 := he; (try dsimp only [NoK, AllB] at hi he); (try simp only [Value.ownBlock, Option.some.injEq] at he); first | exact hi.elim | exact he.elim | omega | (rcases hi with hi | hi <;> omega) | (rcases he with he | he <;> omega) | (have := (HO25).own_lt he0; omega) | (have := zo_HO25 _ he0; omega) | (have := (HO25).own_lt he0; rcases hi with hi | hi <;> omega))
      have zo_HO34 := fun (b : Nat) h => HO34.own_lt (b := b) h
      refine l_nil ?_
      refine n_then ?_
      refine r_one (by decide +kernel) rfl ?_
      refine l_v (v_assign (t := .slice _ _ _) rfl) ?_
      refine l_nil ?_
      refine n_then ?_
      refine c_seq ?_
      refine wp_any (by kernel_rfl) ?_
      have e105 : Ext w34 { w34 with drawn := w34.drawn + 1 } := Keep.drawn _ _
      generalize hw105 : ({ w34 with drawn := w34.drawn + 1 } : World) = w105 at e105 ⊢
      clear hw105
      have zs_e105 := e105.size
      replace E := E.trans (Ext.keep e105)
      replace HB1 := HB1.ext e105
      replace HT1 := HT1.ext e105
      replace EL1 := EL1.trans (Ext.keep e105)
      replace HPn := HPn.ext e105
      replace HPa := HPa.ext e105
      replace HS3 := HS3.ext e105
      replace HS4 := HS4.ext e105
      replace HO34 := HO34.ext e105
      refine r_cut 20 rfl (by decide +kernel) (by decide +kernel) (by decide +kernel) ?_
      refine wp_regJW (fun k => (.slice a34 (accK S (c - 1) ++ wNum c ++ wNum kn).length c34 : Value).ownBlock = some k ∨ w105.heap.size ≤ k) (EqJ [] (ChainJ (tU8) (nU8) w105.heap.size (w.heap.size) (NoK) (AllB) (.slice a34 (accK S (c - 1) ++ wNum c ++ wNum kn).length c34 : Value) (accK S (c - 1) ++ wNum c ++ wNum kn) [10] [some 9] [wNum ke])) (by decide +kernel) (by decide +kernel) (fun vals done hd => EqJ.start (ChainJ.start (HO34) ((by have := E.size; omega)) (Nat.le_refl _) (fun i hi => hd i (dOf_lt (by decide) hi))) (fun k j hq => hd k (dQ_lt (by decide) k j hq))) ?_
      refine rj_v (EqJ.on ChainJ.on) (by decide) (fun done vals w hR hJ hdn hd => v_move (t := .slice _ _ _) rfl) ?_
      refine rj_v (EqJ.on ChainJ.on) (by decide) (fun done vals w hR hJ hdn hd => v_move (t := .pointer _) rfl) ?_
      refine rj_v (EqJ.on ChainJ.on) (by decide) (fun done vals w hR hJ hdn hd => v_move (t := .int _ _) rfl) ?_
      refine rj_v (EqJ.on ChainJ.on) (by decide) (fun done vals w hR hJ hdn hd => v_nilCheck (hd 1 rfl)) ?_
      refine rj_v (EqJ.on ChainJ.on) (by decide) (fun done vals w hR hJ hdn hd => v_fieldAddr (off := 5) (ft := 46) (by kernel_rfl) (hd 3 rfl)) ?_
      refine rj_v (EqJ.on ChainJ.on) (by decide) (fun done vals w hR hJ hdn hd => v_arrAddr (et := 33) (n := 5) (sz := 3) (k := c) (by kernel_rfl) (hd 4 rfl) (hd 2 rfl) rfl (by omega)) ?_
      refine rj_v (EqJ.on ChainJ.on) (by decide) (fun done vals w hR hJ hdn hd => v_fieldAddr (off := 0) (ft := 29) (by kernel_rfl) (hd 5 rfl)) ?_
      refine rj_v (EqJ.on ChainJ.on) (by decide) (fun done vals w hR hJ hdn hd => v_load (by kernel_rfl) (hd 6 rfl) (by first | exact (HPa.keep hR (by intro h; have he0 := h; (try dsimp only at h); (try simp only [Value.ownBlock, Option.some.injEq] at h); (try simp only [add_block] at h); (try simp only [add_block] at he0); first | omega | (have := (HO34).own_lt he0; omega) | (have := zo_HO34 _ he0; omega) | (rcases he0 with he0 | he0; (have := (HO34).own_lt he0; omega); omega))) 0 _ rfl | exact (HPn.keep hR (by intro h; have he0 := h; (try dsimp only at h); (try simp only [Value.ownBlock, Option.some.injEq] at h); (try simp only [add_block] at h); (try simp only [add_block] at he0); first | omega | (have := (HO34).own_lt he0; omega) | (have := zo_HO34 _ he0; omega) | (rcases he0 with he0 | he0; (have := (HO34).own_lt he0; omega); omega))) 0 _ rfl | exact (HB1.keep hR (by intro h; have he0 := h; (try dsimp only at h); (try simp only [Value.ownBlock, Option.some.injEq] at h); first | omega | (have := (HO34).own_lt he0; omega) | (have := zo_HO34 _ he0; omega) | (rcases he0 with he0 | he0; (have := (HO34).own_lt he0; omega); omega))).pv 0 _ rfl | assumption)) ?_
      refine rj_v (EqJ.on ChainJ.on) (by decide) (fun done vals w hR hJ hdn hd => v_conv (ds := .int .i64) (by kernel_rfl) (by kernel_rfl) (hd 7 rfl) (by first | exact wr_u64 (by omega) (by omega) | rfl)) ?_
      refine rj_d (fun done vals w hR hcl hdk hJ hdn hd => by
          have zs_R := hR.size
          exact to_f1 (by kernel_rfl) (hd 8 rfl) (CallsR.mono (refNumber_c (n := ke) rfl (by omega)) fun v w1 h => ⟨Keep.mono (h.2.2) (fun b _ h => h.elim), hJ.step hdk (by decide) (hJ.1.prod (n := 0) (h.2.2) rfl rfl (once_ps (by decide)) (by decide) (h.1.view.mono (fun b _ h => ⟨trivial, h.resolve_right (fun x => x)⟩)))⟩)) ?_
      refine rj_d (fun done vals w hR hcl hdk hJ hdn hd => by
          have zs_R := hR.size
          obtain ⟨hacc, hown, hsrc⟩ := hJ.1.at (n := 0) rfl hdk (fun m h => by cases h)
          exact to_append (et := 5) (bytes := 1) (by kernel_rfl) (hd 0 rfl) hacc rfl (hsrc _ _ rfl rfl (hdn 9 rfl)) flat_u8.to (by simp; omega) (by simp only [maxLen]; simp; omega) (by omega) (fun a n cc w1 o hn kk ho _ => ⟨kk.mono (fun b _ h => hown b h), hJ.step hdk (by decide) (hJ.1.app (n := 0) rfl hdk (fun m h => by cases h) rfl (once_as (by decide)) (ps_ne (by decide)) o kk ho)⟩)) ?_
      refine rj_v (EqJ.on ChainJ.on) (by decide) (fun done vals w hR hJ hdn hd => v_move (t := .pointer _) rfl) ?_
      refine rj_v (EqJ.on ChainJ.on) (by decide) (fun done vals w hR hJ hdn hd => v_move (t := .int _ _) rfl) ?_
      refine rj_v (EqJ.on ChainJ.on) (by decide) (fun done vals w hR hJ hdn hd => v_nilCheck (hd 11 rfl)) ?_
      refine rj_v (EqJ.on ChainJ.on) (by decide) (fun done vals w hR hJ hdn hd => v_fieldAddr (off := 5) (ft := 46) (by kernel_rfl) (hd 13 rfl)) ?_
      refine rj_v (EqJ.on ChainJ.on) (by decide) (fun done vals w hR hJ hdn hd => v_arrAddr (et := 33) (n := 5) (sz := 3) (k := c) (by kernel_rfl) (hd 14 rfl) (hd 12 rfl) rfl (by omega)) ?_
      refine rj_v (EqJ.on ChainJ.on) (by decide) (fun done vals w hR hJ hdn hd => v_fieldAddr (off := 1) (ft := 30) (by kernel_rfl) (hd 15 rfl)) ?_
      refine rj_v (EqJ.on ChainJ.on) (by decide) (fun done vals w hR hJ hdn hd => v_load (by kernel_rfl) (hd 16 rfl) (by first | exact (HPa.keep hR (by intro h; have he0 := h; (try dsimp only at h); (try simp only [Value.ownBlock, Option.some.injEq] at h); (try simp only [add_block] at h); (try simp only [add_block] at he0); first | omega | (have := (HO34).own_lt he0; omega) | (have := zo_HO34 _ he0; omega) | (rcases he0 with he0 | he0; (have := (HO34).own_lt he0; omega); omega))) 1 _ rfl | exact pv_1 (HPa.keep hR (by intro h; have he0 := h; (try dsimp only at h); (try simp only [Value.ownBlock, Option.some.injEq] at h); (try simp only [add_block] at h); (try simp only [add_block] at he0); first | omega | (have := (HO34).own_lt he0; omega) | (have := zo_HO34 _ he0; omega) | (rcases he0 with he0 | he0; (have := (HO34).own_lt he0; omega); omega))) | exact (HPn.keep hR (by intro h; have he0 := h; (try dsimp only at h); (try simp only [Value.ownBlock, Option.some.injEq] at h); (try simp only [add_block] at h); (try simp only [add_block] at he0); first | omega | (have := (HO34).own_lt he0; omega) | (have := zo_HO34 _ he0; omega) | (rcases he0 with he0 | he0; (have := (HO34).own_lt he0; omega); omega))) 1 _ rfl | exact pv_1 (HPn.keep hR (by intro h; have he0 := h; (try dsimp only at h); (try simp only [Value.ownBlock, Option.some.injEq] at h); (try simp only [add_block] at h); (try simp only [add_block] at he0); first | omega | (have := (HO34).own_lt he0; omega) | (have := zo_HO34 _ he0; omega) | (rcases he0 with he0 | he0; (have := (HO34).own_lt he0; omega); omega))) | exact (HB1.keep hR (by intro h; have he0 := h; (try dsimp only at h); (try simp only [Value.ownBlock, Option.some.injEq] at h); first | omega | (have := (HO34).own_lt he0; omega) | (have := zo_HO34 _ he0; omega) | (rcases he0 with he0 | he0; (have := (HO34).own_lt he0; omega); omega))).pv 1 _ rfl | assumption)) ?_
      refine rj_v (EqJ.on ChainJ.on) (by decide) (fun done vals w hR hJ hdn hd => v_len (et := 61) (by kernel_rfl) (hd 17 rfl)) ?_
      refine rj_v (EqJ.on ChainJ.on) (by decide) (fun done vals w hR hJ hdn hd => v_conv (ds := .int .i64) (by kernel_rfl) (by kernel_rfl) (hd 18 rfl) (by first | exact wr_u64 (by omega) (by omega) | rfl)) ?_
      refine rj_nil (fun vals w106 k106 J106 => ?_)
      rintro _ _ rfl _ _ rfl _ _ rfl _ _ rfl _ _ rfl _ _ rfl _ _ rfl _ _ rfl _ _ rfl _ rfl - v45 hv45 - _ _ rfl _ _ rfl _ _ rfl _ _ rfl _ _ rfl _ _ rfl _ _ rfl _ _ rfl _ _ rfl
      have zs_k106 := k106.size
      have HO45 : OwV (tU8) (nU8) w106 (w.heap.size) (NoK) v45 (accK S (c - 1) ++ wNum c ++ wNum kn ++ wNum ke) := by
        have h := J106.1.fin (by exact Nat.le_refl _)
        have h2 : accK S (c - 1) ++ wNum c ++ wNum kn ++ ([wNum ke]).flatten = accK S (c - 1) ++ wNum c ++ wNum kn ++ wNum ke := by simp
        rw [h2] at h; rw [hv45]; exact h
      clear hv45
      obtain ⟨a45, c45, rfl⟩ := HO45.shape
      have zo_HO45 := fun (b : Nat) h => HO45.own_lt (b := b) h
      replace E := E.step k106 (by intro i hi he; have he0 := he; (try dsimp only [NoK] at hi he ⊢); (try simp only [Value.ownBlock, Option.some.injEq] at he); first | exact he.elim | omega | exact he | (have := (HO34).own_lt he0; omega) | (have := zo_HO34 _ he0; omega) | (have := (HO34).own_lt he0; rcases hi with hi | hi <;> omega) | (rcases he0 with he0 | he0; (have := (HO34).own_lt he0; omega); omega))
      replace HB1 := HB1.keep k106 (by intro h; have he0 := h; (try dsimp only at h); (try simp only [Value.ownBlock, Option.some.injEq] at h); first | omega | (have := (HO34).own_lt he0; omega) | (have := zo_HO34 _ he0; omega) | (rcases he0 with he0 | he0; (have := (HO34).own_lt he0; omega); omega))
      replace HT1 := HT1.keep k106 (by intro i _ hi he; have he0 := he; (try dsimp only [NoK, AllB] at hi he); (try simp only [Value.ownBlock, Option.some.injEq] at he); first | exact hi.elim | exact he.elim | omega | (rcases hi with hi | hi <;> omega) | (rcases he with he | he <;> omega) | (have := (HO34).own_lt he0; omega) | (have := zo_HO34 _ he0; omega) | (have := (HO34).own_lt he0; rcases hi with hi | hi <;> omega) | (rcases he0 with he0 | he0; (have := (HO34).own_lt he0; omega); omega))
      replace EL1 := EL1.step k106 (by intro i hi he; have he0 := he; (try dsimp only [NoK] at hi he ⊢); (try simp only [Value.ownBlock, Option.some.injEq] at he); first | exact he.elim | omega | exact he | (have := (HO34).own_lt he0; omega) | (have := zo_HO34 _ he0; omega) | (have := (HO34).own_lt he0; rcases hi with hi | hi <;> omega) | (rcases he0 with he0 | he0; (have := (HO34).own_lt he0; omega); omega))
      replace HPn := HPn.keep k106 (by intro h; have he0 := h; (try dsimp only at h); (try simp only [Value.ownBlock, Option.some.injEq] at h); (try simp only [add_block] at h); (try simp only [add_block] at he0); first | omega | (have := (HO34).own_lt he0; omega) | (have := zo_HO34 _ he0; omega) | (rcases he0 with he0 | he0; (have := (HO34).own_lt he0; omega); omega))
      replace HPa := HPa.keep k106 (by intro h; have he0 := h; (try dsimp only at h); (try simp only [Value.ownBlock, Option.some.injEq] at h); (try simp only [add_block] at h); (try simp only [add_block] at he0); first | omega | (have := (HO34).own_lt he0; omega) | (have := zo_HO34 _ he0; omega) | (rcases he0 with he0 | he0; (have := (HO34).own_lt he0; omega); omega))
      replace HS3 := HS3.keep k106 (by intro i _ hi he; have he0 := he; (try dsimp only [NoK, AllB] at hi he); (try simp only [Value.ownBlock, Option.some.injEq] at he); first | exact hi.elim | exact he.elim | omega | (rcases hi with hi | hi <;> omega) | (rcases he with he | he <;> omega) | (have := (HO34).own_lt he0; omega) | (have := zo_HO34 _ he0; omega) | (have := (HO34).own_lt he0; rcases hi with hi | hi <;> omega) | (rcases he0 with he0 | he0; (have := (HO34).own_lt he0; omega); omega))
      replace HS4 := HS4.keep k106 (by intro i _ hi he; have he0 := he; (try dsimp only [NoK, AllB] at hi he); (try simp only [Value.ownBlock, Option.some.injEq] at he); first | exact hi.elim | exact he.elim | omega | (rcases hi with hi | hi <;> omega) | (rcases he with he | he <;> omega) | (have := (HO34).own_lt he0; omega) | (have := zo_HO34 _ he0; omega) | (have := (HO34).own_lt he0; rcases hi with hi | hi <;> omega) | (rcases he0 with he0 | he0; (have := (HO34).own_lt he0; omega); omega))
      refine fin_nilJ ?_
      refine n_then ?_
      refine r_cut 1 rfl (by decide +kernel) (by decide +kernel) (by decide +kernel) ?_
      refine r_one (by decide +kernel) rfl ?_
      refine l_to (to_f1 (by kernel_rfl) (show _ = (Value.int _ _) from rfl) (CallsR.mono (refNumber_c (n := (ansS S c).2.1.length) rfl (by omega)) ?_))
      rintro _ w55 ⟨HO55, ⟨q55, c55, rfl⟩, e55⟩
      have zs_e55 := e55.size
      replace E := E.trans (Ext.keep e55)
      replace HB1 := HB1.ext e55
      replace HT1 := HT1.ext e55
      replace EL1 := EL1.trans (Ext.keep e55)
      replace HPn := HPn.ext e55
      replace HPa := HPa.ext e55
      replace HS3 := HS3.ext e55
      replace HS4 := HS4.ext e55
      replace HO45 := HO45.ext e55
      have zo_HO55 := fun (b : Nat) h => HO55.own_lt (b := b) h
      refine l_nil ?_
      refine n_then ?_
      refine r_cut 1 rfl (by decide +kernel) (by decide +kernel) (by decide +kernel) ?_
      refine r_one (by decide +kernel) rfl ?_
      refine l_to (to_append (et := 5) (bytes := 1) (by kernel_rfl) (show _ = (Value.slice _ _ _) from rfl) HO45 (show _ = (Value.slice _ _ _) from rfl) HO55.view (flat_u8.to) (by first | omega | (simp; done) | (simp; omega)) (by simp only [maxLen]; first | omega | (simp; done) | (simp; omega)) (by omega) ?_)
      rintro a56 n56 c56 w56 HO56 hn56 k56 h56 i56
      have zs_k56 := k56.size
      subst hn56
      rw [← accJ_zero (accK S (c - 1) ++ wNum c ++ wNum kn ++ wNum ke ++ wNum (ansS S c).2.1.length) (ansS S c).2.1] at HO56 ⊢
      replace E := E.step k56 (by intro i hi he; have he0 := he; (try dsimp only [NoK] at hi he ⊢); (try simp only [Value.ownBlock, Option.some.injEq] at he); first | exact he.elim | omega | exact he | (have := (HO45).own_lt he0; omega) | (have := zo_HO45 _ he0; omega) | (have := (HO45).own_lt he0; rcases hi with hi | hi <;> omega))
      replace HB1 := HB1.keep k56 (by intro h; have he0 := h; (try dsimp only at h); (try simp only [Value.ownBlock, Option.some.injEq] at h); first | omega | (have := (HO45).own_lt he0; omega) | (have := zo_HO45 _ he0; omega))
      replace HT1 := HT1.keep k56 (by intro i _ hi he; have he0 := he; (try dsimp only [NoK, AllB] at hi he); (try simp only [Value.ownBlock, Option.some.injEq] at he); first | exact hi.elim | exact he.elim | omega | (rcases hi with hi | hi <;> omega) | (rcases he with he | he <;> omega) | (have := (HO45).own_lt he0; omega) | (have := zo_HO45 _ he0; omega) | (have := (HO45).own_lt he0; rcases hi with hi | hi <;> omega))
      replace EL1 := EL1.step k56 (by intro i hi he; have he0 := he; (try dsimp only [NoK] at hi he ⊢); (try simp only [Value.ownBlock, Option.some.injEq] at he); first | exact he.elim | omega | exact he | (have := (HO45).own_lt he0; omega) | (have := zo_HO45 _ he0; omega) | (have := (HO45).own_lt he0; rcases hi with hi | hi <;> omega))
      replace HPn := HPn.keep k56 (by intro h; have he0 := h; (try dsimp only at h); (try simp only [Value.ownBlock, Option.some.injEq] at h); (try simp only [add_block] at h); (try simp only [add_block] at he0); first | omega | (have := (HO45).own_lt he0; omega) | (have := zo_HO45 _ he0; omega))
      replace HPa := HPa.keep k56 (by intro h; have he0 := h; (try dsimp only at h); (try simp only [Value.ownBlock, Option.some.injEq] at h); (try simp only [add_block] at h); (try simp only [add_block] at he0); first | omega | (have := (HO45).own_lt he0; omega) | (have := zo_HO45 _ he0; omega))
      replace HS3 := HS3.keep k56 (by intro i _ hi he; have he0 := he; (try dsimp only [NoK, AllB] at hi he); (try simp only [Value.ownBlock, Option.some.injEq] at he); first | exact hi.elim | exact he.elim | omega | (rcases hi with hi | hi <;> omega) | (rcases he with he | he <;> omega) | (have := (HO45).own_lt he0; omega) | (have := zo_HO45 _ he0; omega) | (have := (HO45).own_lt he0; rcases hi with hi | hi <;> omega))
      replace HS4 := HS4.keep k56 (by intro i _ hi he; have he0 := he; (try dsimp only [NoK, AllB] at hi he); (try simp only [Value.ownBlock, Option.some.injEq] at he); first | exact hi.elim | exact he.elim | omega | (rcases hi with hi | hi <;> omega) | (rcases he with he | he <;> omega) | (have := (HO45).own_lt he0; omega) | (have := zo_HO45 _ he0; omega) | (have := (HO45).own_lt he0; rcases hi with hi | hi <;> omega))
      have zo_HO56 := fun (b : Nat) h => HO56.own_lt (b := b) h
      refine l_nil ?_
      refine n_then ?_
      refine r_one (by decide +kernel) rfl ?_
      refine l_v (v_assign (t := .slice _ _ _) rfl) ?_
      refine l_nil ?_
      refine n_then ?_
      refine c_seq ?_
      refine c_seq ?_
      refine wp_reg (by decide +kernel) ?_
      refine l_v (v_assign rfl) ?_
      refine l_nil ?_
      refine n_then ?_
      refine c_block ?_
      refine c_loop (τ := Option Addr × Nat × Nat) [3, 5, 57, 58, 59, 60, 61, 62, 63, 64, 65, 66, 67, 68, 69, 70, 71, 72, 73, 74, 75, 76, 77, 78, 79, 80, 81, 82, 83, 84, 85, 86, 87, 88, 89, 90, 91, 92, 93, 94, 95, 96] (fun (a2, c2, i) => [(3, .slice a2 (accJ (accK S (c - 1) ++ wNum c ++ wNum kn ++ wNum ke ++ wNum (ansS S c).2.1.length) (ansS S c).2.1 i).length c2), (5, .int .i64 i)]) (fun (a2, c2, i) W => Ext w W ∧ Keep (fun b => w.heap.size ≤ b) w56 W ∧ i ≤ (ansS S c).2.1.length ∧ OwV tU8 nU8 W w.heap.size NoK (.slice a2 (accJ (accK S (c - 1) ++ wNum c ++ wNum kn ++ wNum ke ++ wNum (ansS S c).2.1.length) (ansS S c).2.1 i).length c2) (accJ (accK S (c - 1) ++ wNum c ++ wNum kn ++ wNum ke ++ wNum (ansS S c).2.1.length) (ansS S c).2.1 i)) (fun (a2, c2, i) => (ansS S c).2.1.length - i) (a56, c56, 0) (by exact ⟨rfl, rfl, trivial⟩) (by exact ⟨E, Keep.refl _, Nat.zero_le _, HO56⟩) ?_
      rintro ⟨a2, c2, i⟩ w107 j ⟨E, EL2, g1, HOy⟩
      have zs_EL2 := EL2.size
      replace HB1 := HB1.keep EL2 (by intro h; (try dsimp only at h); first | omega)
      replace HT1 := HT1.keep EL2 (by intro i _ hi he; (try dsimp only [NoK, AllB] at hi he); first | exact hi.elim | exact he.elim | omega | (rcases hi with hi | hi <;> omega) | (rcases he with he | he <;> omega))
      replace EL1 := EL1.step EL2 (by intro i hi he; (try dsimp only [NoK] at hi he ⊢); first | exact he.elim | omega | exact he)
      replace HPn := HPn.keep EL2 (by intro h; (try dsimp only at h); (try simp only [add_block] at h); first | omega)
      replace HPa := HPa.keep EL2 (by intro h; (try dsimp only at h); (try simp only [add_block] at h); first | omega)
      replace HS3 := HS3.keep EL2 (by intro i _ hi he; (try dsimp only [NoK, AllB] at hi he); first | exact hi.elim | exact he.elim | omega | (rcases hi with hi | hi <;> omega) | (rcases he with he | he <;> omega))
      replace HS4 := HS4.keep EL2 (by intro i _ hi he; (try dsimp only [NoK, AllB] at hi he); first | exact hi.elim | exact he.elim | omega | (rcases hi with hi | hi <;> omega) | (rcases he with he | he <;> omega))
      have zo_HOy := fun (b : Nat) h => HOy.own_lt (b := b) h
      refine c_seq ?_
      refine c_seq ?_
      refine wp_reg (by decide +kernel) ?_
      refine l_v (v_move (t := .int _ _) rfl) ?_
      refine l_v (v_move (t := .pointer _) rfl) ?_
      refine l_v (v_move (t := .int _ _) rfl) ?_
      refine l_v (v_nilCheck rfl) ?_
      refine l_v (v_fieldAddr (off := 5) (ft := 46) (by kernel_rfl) rfl) ?_
      refine l_v (v_arrAddr (et := 33) (n := 5) (sz := 3) (k := c) (by kernel_rfl) rfl rfl rfl (by omega)) ?_
      refine l_v (v_fieldAddr (off := 1) (ft := 30) (by kernel_rfl) rfl) ?_
      refine l_v (v_load (by kernel_rfl) rfl (by first | exact HPa 1 _ rfl | exact pv_1 HPa | exact HPn 1 _ rfl | exact pv_1 HPn | exact HB1.pv 1 _ rfl | assumption)) ?_
      refine l_v (v_len (et := 61) (by kernel_rfl) rfl) ?_
      refine l_v (v_lss rfl rfl) ?_
      refine l_nil ?_
      refine n_then ?_
      refine c_cond rfl rfl (fun hin => ?_) (fun hin => ?_)
      · skip
        have hin := dtrue hin
        obtain ⟨p, hx, hdr⟩ := getE (l := (ansS S c).2.1) (i := i) (by omega)
        obtain ⟨p1, p2, p3⟩ := r9 p (List.mem_of_getElem? hx)
        have hl5 := accJ_len (x := accK S (c - 1) ++ wNum c ++ wNum kn ++ wNum ke ++ wNum (ansS S c).2.1.length) (ps := (ansS S c).2.1) i r7 (fun p hp => by have := r9 p hp; omega)
        have hly : (accK S (c - 1) ++ wNum c ++ wNum kn ++ wNum ke ++ wNum (ansS S c).2.1.length).length ≤ 16100 := by simp only [List.length_append]; omega
        have hb1 := wBytes_len10 (l := p.1) (by omega)
        have hb2 := wBytes_len10 (l := p.2) (by omega)
        have hl6 : (accJ (accK S (c - 1) ++ wNum c ++ wNum kn ++ wNum ke ++ wNum (ansS S c).2.1.length) (ansS S c).2.1 i ++ wBytes p.1).length ≤ 30000 := by rw [List.length_append]; omega
        obtain ⟨q, cs, hq, hF, _, HPq, hr⟩ := HS3.el hx
        cases hq
        obtain ⟨b3, d3, b4, d4, rfl, HS5, HS6⟩ := tPr_cells hr
        have zo_HOy := fun (b : Nat) h => HOy.own_lt (b := b) h
        refine c_skip ?_
        refine n_then ?_
        refine c_seq ?_
        refine c_block ?_
        refine c_seq ?_
        refine wp_reg (by decide +kernel) ?_
        refine l_v (v_move (t := .slice _ _ _) rfl) ?_
        refine l_v (v_move (t := .pointer _) rfl) ?_
        refine l_v (v_move (t := .int _ _) rfl) ?_
        refine l_v (v_nilCheck rfl) ?_
        refine l_v (v_fieldAddr (off := 5) (ft := 46) (by kernel_rfl) rfl) ?_
        refine l_v (v_arrAddr (et := 33) (n := 5) (sz := 3) (k := c) (by kernel_rfl) rfl rfl rfl (by omega)) ?_
        refine l_v (v_fieldAddr (off := 1) (ft := 30) (by kernel_rfl) rfl) ?_
        refine l_v (v_load (by kernel_rfl) rfl (by first | exact HPq 1 _ rfl | exact pv_1 HPq | exact HPa 1 _ rfl | exact pv_1 HPa | exact HPn 1 _ rfl | exact pv_1 HPn | exact HB1.pv 1 _ rfl | assumption)) ?_
        refine l_v (v_move (t := .int _ _) rfl) ?_
        refine l_v (v_indexAddr (et := 61) (sz := 2) (k := i) (by kernel_rfl) (by kernel_rfl) rfl rfl (by first | rfl | omega) (by omega)) ?_
        refine l_v (v_fieldAddr (off := 0) (ft := 31) (by kernel_rfl) rfl) ?_
        refine l_v (v_load (by kernel_rfl) rfl (by first | exact HPq 0 _ rfl | exact HPa 0 _ rfl | exact HPn 0 _ rfl | exact HB1.pv 0 _ rfl | assumption)) ?_
        refine l_to (to_f1 (by kernel_rfl) (show _ = (Value.slice _ _ _) from rfl) (CallsR.mono (refBytes_c HS5 (by omega)) ?_))
        rintro _ w81 ⟨HO81, ⟨q81, c81, rfl⟩, e81⟩
        have zs_e81 := e81.size
        replace E := E.trans (Ext.keep e81)
        replace HB1 := HB1.ext e81
        replace HT1 := HT1.ext e81
        replace EL1 := EL1.trans (Ext.keep e81)
        replace HPn := HPn.ext e81
        replace HPa := HPa.ext e81
        replace HS3 := HS3.ext e81
        replace HS4 := HS4.ext e81
        replace HOy := HOy.ext e81
        replace EL2 := EL2.trans (Ext.keep e81)
        replace HPq := HPq.ext e81
        replace HS5 := HS5.ext e81
        replace HS6 := HS6.ext e81
        have zo_HO81 := fun (b : Nat) h => HO81.own_lt (b := b) h
        refine l_to (to_append (et := 5) (bytes := 1) (by kernel_rfl) (show _ = (Value.slice _ _ _) from rfl) HOy (show _ = (Value.slice _ _ _) from rfl) HO81.view (flat_u8.to) (by first | omega | (simp; done) | (simp; omega)) (by simp only [maxLen]; first | omega | (simp; done) | (simp; omega)) (by omega) ?_)
        rintro a82 n82 c82 w82 HO82 hn82 k82 h82 i82
        have zs_k82 := k82.size
        subst hn82
        replace E := E.step k82 (by intro i hi he; have he0 := he; (try dsimp only [NoK] at hi he ⊢); (try simp only [Value.ownBlock, Option.some.injEq] at he); first | exact he.elim | omega | exact he | (have := (HOy).own_lt he0; omega) | (have := zo_HOy _ he0; omega) | (have := (HOy).own_lt he0; rcases hi with hi | hi <;> omega))
        replace HB1 := HB1.keep k82 (by intro h; have he0 := h; (try dsimp only at h); (try simp only [Value.ownBlock, Option.some.injEq] at h); first | omega | (have := (HOy).own_lt he0; omega) | (have := zo_HOy _ he0; omega))
        replace HT1 := HT1.keep k82 (by intro i _ hi he; have he0 := he; (try dsimp only [NoK, AllB] at hi he); (try simp only [Value.ownBlock, Option.some.injEq] at he); first | exact hi.elim | exact he.elim | omega | (rcases hi with hi | hi <;> omega) | (rcases he with he | he <;> omega) | (have := (HOy).own_lt he0; omega) | (have := zo_HOy _ he0; omega) | (have := (HOy).own_lt he0; rcases hi with hi | hi <;> omega))
        replace EL1 := EL1.step k82 (by intro i hi he; have he0 := he; (try dsimp only [NoK] at hi he ⊢); (try simp only [Value.ownBlock, Option.some.injEq] at he); first | exact he.elim | omega | exact he | (have := (HOy).own_lt he0; omega) | (have := zo_HOy _ he0; omega) | (have := (HOy).own_lt he0; rcases hi with hi | hi <;> omega))
        replace HPn := HPn.keep k82 (by intro h; have he0 := h; (try dsimp only at h); (try simp only [Value.ownBlock, Option.some.injEq] at h); (try simp only [add_block] at h); (try simp only [add_block] at he0); first | omega | (have := (HOy).own_lt he0; omega) | (have := zo_HOy _ he0; omega))
        replace HPa := HPa.keep k82 (by intro h; have he0 := h; (try dsimp only at h); (try simp only [Value.ownBlock, Option.some.injEq] at h); (try simp only [add_block] at h); (try simp only [add_block] at he0); first | omega | (have := (HOy).own_lt he0; omega) | (have := zo_HOy _ he0; omega))
        replace HS3 := HS3.keep k82 (by intro i _ hi he; have he0 := he; (try dsimp only [NoK, AllB] at hi he); (try simp only [Value.ownBlock, Option.some.injEq] at he); first | exact hi.elim | exact he.elim | omega | (rcases hi with hi | hi <;> omega) | (rcases he with he | he <;> omega) | (have := (HOy).own_lt he0; omega) | (have := zo_HOy _ he0; omega) | (have := (HOy).own_lt he0; rcases hi with hi | hi <;> omega))
        replace HS4 := HS4.keep k82 (by intro i _ hi he; have he0 := he; (try dsimp only [NoK, AllB] at hi he); (try simp only [Value.ownBlock, Option.some.injEq] at he); first | exact hi.elim | exact he.elim | omega | (rcases hi with hi | hi <;> omega) | (rcases he with he | he <;> omega) | (have := (HOy).own_lt he0; omega) | (have := zo_HOy _ he0; omega) | (have := (HOy).own_lt he0; rcases hi with hi | hi <;> omega))
        replace EL2 := EL2.step k82 (by intro i hi he; have he0 := he; (try dsimp only [NoK] at hi he ⊢); (try simp only [Value.ownBlock, Option.some.injEq] at he); first | exact he.elim | omega | exact he | (have := (HOy).own_lt he0; omega) | (have := zo_HOy _ he0; omega) | (have := (HOy).own_lt he0; rcases hi with hi | hi <;> omega))
        replace HPq := HPq.keep k82 (by intro h; have he0 := h; (try dsimp only at h); (try simp only [Value.ownBlock, Option.some.injEq] at h); (try simp only [add_block] at h); (try simp only [add_block] at he0); first | omega | (have := (HOy).own_lt he0; omega) | (have := zo_HOy _ he0; omega))
        replace HS5 := HS5.keep k82 (by intro i _ hi he; have he0 := he; (try dsimp only [NoK, AllB] at hi he); (try simp only [Value.ownBlock, Option.some.injEq] at he); first | exact hi.elim | exact he.elim | omega | (rcases hi with hi | hi <;> omega) | (rcases he with he | he <;> omega) | (have := (HOy).own_lt he0; omega) | (have := zo_HOy _ he0; omega) | (have := (HOy).own_lt he0; rcases hi with hi | hi <;> omega))
        replace HS6 := HS6.keep k82 (by intro i _ hi he; have he0 := he; (try dsimp only [NoK, AllB] at hi he); (try simp only [Value.ownBlock, Option.some.injEq] at he); first | exact hi.elim | exact he.elim | omega | (rcases hi with hi | hi <;> omega) | (rcases he with he | he <;> omega) | (have := (HOy).own_lt he0; omega) | (have := zo_HOy _ he0; omega) | (have := (HOy).own_lt he0; rcases hi with hi | hi <;> omega))
        have zo_HO82 := fun (b : Nat) h => HO82.own_lt (b := b) h
        refine l_v (v_assign (t := .slice _ _ _) rfl) ?_
        refine l_nil ?_
        refine n_then ?_
        refine wp_reg (by decide +kernel) ?_
        refine l_v (v_move (t := .slice _ _ _) rfl) ?_
        refine l_v (v_move (t := .pointer _) rfl) ?_
        refine l_v (v_move (t := .int _ _) rfl) ?_
        refine l_v (v_nilCheck rfl) ?_
        refine l_v (v_fieldAddr (off := 5) (ft := 46) (by kernel_rfl) rfl) ?_
        refine l_v (v_arrAddr (et := 33) (n := 5) (sz := 3) (k := c) (by kernel_rfl) rfl rfl rfl (by omega)) ?_
        refine l_v (v_fieldAddr (off := 1) (ft := 30) (by kernel_rfl) rfl) ?_
        refine l_v (v_load (by kernel_rfl) rfl (by first | exact HPq 1 _ rfl | exact pv_1 HPq | exact HPa 1 _ rfl | exact pv_1 HPa | exact HPn 1 _ rfl | exact pv_1 HPn | exact HB1.pv 1 _ rfl | assumption)) ?_
        refine l_v (v_move (t := .int _ _) rfl) ?_
        refine l_v (v_indexAddr (et := 61) (sz := 2) (k := i) (by kernel_rfl) (by kernel_rfl) rfl rfl (by first | rfl | omega) (by omega)) ?_
        refine l_v (v_fieldAddr (off := 1) (ft := 31) (by kernel_rfl) rfl) ?_
        refine l_v (v_load (by kernel_rfl) rfl (by first | exact HPq 1 _ rfl | exact pv_1 HPq | exact HPa 1 _ rfl | exact pv_1 HPa | exact HPn 1 _ rfl | exact pv_1 HPn | exact HB1.pv 1 _ rfl | assumption)) ?_
        refine l_to (to_f1 (by kernel_rfl) (show _ = (Value.slice _ _ _) from rfl) (CallsR.mono (refBytes_c HS6 (by omega)) ?_))
        rintro _ w95 ⟨HO95, ⟨q95, c95, rfl⟩, e95⟩
        have zs_e95 := e95.size
        replace E := E.trans (Ext.keep e95)
        replace HB1 := HB1.ext e95
        replace HT1 := HT1.ext e95
        replace EL1 := EL1.trans (Ext.keep e95)
        replace HPn := HPn.ext e95
        replace HPa := HPa.ext e95
        replace HS3 := HS3.ext e95
        replace HS4 := HS4.ext e95
        replace EL2 := EL2.trans (Ext.keep e95)
        replace HPq := HPq.ext e95
        replace HS5 := HS5.ext e95
        replace HS6 := HS6.ext e95
        replace HO82 := HO82.ext e95
        have zo_HO95 := fun (b : Nat) h => HO95.own_lt (b := b) h
        refine l_to (to_append (et := 5) (bytes := 1) (by kernel_rfl) (show _ = (Value.slice _ _ _) from rfl) HO82 (show _ = (Value.slice _ _ _) from rfl) HO95.view (flat_u8.to) (by first | omega | (simp; done) | (simp; omega)) (by simp only [maxLen]; first | omega | (simp; done) | (simp; omega)) (by omega) ?_)
        rintro a96 n96 c96 w96 HO96 hn96 k96 h96 i96
        have zs_k96 := k96.size
        subst hn96
        rw [← accJ_succ hx] at HO96 ⊢
        replace E := E.step k96 (by intro i hi he; have he0 := he; (try dsimp only [NoK] at hi he ⊢); (try simp only [Value.ownBlock, Option.some.injEq] at he); first | exact he.elim | omega | exact he | (have := (HO82).own_lt he0; omega) | (have := zo_HO82 _ he0; omega) | (have := (HO82).own_lt he0; rcases hi with hi | hi <;> omega))
        replace HB1 := HB1.keep k96 (by intro h; have he0 := h; (try dsimp only at h); (try simp only [Value.ownBlock, Option.some.injEq] at h); first | omega | (have := (HO82).own_lt he0; omega) | (have := zo_HO82 _ he0; omega))
        replace HT1 := HT1.keep k96 (by intro i _ hi he; have he0 := he; (try dsimp only [NoK, AllB] at hi he); (try simp only [Value.ownBlock, Option.some.injEq] at he); first | exact hi.elim | exact he.elim | omega | (rcases hi with hi | hi <;> omega) | (rcases he with he | he <;> omega) | (have := (HO82).own_lt he0; omega) | (have := zo_HO82 _ he0; omega) | (have := (HO82).own_lt he0; rcases hi with hi | hi <;> omega))
        replace EL1 := EL1.step k96 (by intro i hi he; have he0 := he; (try dsimp only [NoK] at hi he ⊢); (try simp only [Value.ownBlock, Option.some.injEq] at he); first | exact he.elim | omega | exact he | (have := (HO82).own_lt he0; omega) | (have := zo_HO82 _ he0; omega) | (have := (HO82).own_lt he0; rcases hi with hi | hi <;> omega))
        replace HPn := HPn.keep k96 (by intro h; have he0 := h; (try dsimp only at h); (try simp only [Value.ownBlock, Option.some.injEq] at h); (try simp only [add_block] at h); (try simp only [add_block] at he0); first | omega | (have := (HO82).own_lt he0; omega) | (have := zo_HO82 _ he0; omega))
        replace HPa := HPa.keep k96 (by intro h; have he0 := h; (try dsimp only at h); (try simp only [Value.ownBlock, Option.some.injEq] at h); (try simp only [add_block] at h); (try simp only [add_block] at he0); first | omega | (have := (HO82).own_lt he0; omega) | (have := zo_HO82 _ he0; omega))
        replace HS3 := HS3.keep k96 (by intro i _ hi he; have he0 := he; (try dsimp only [NoK, AllB] at hi he); (try simp only [Value.ownBlock, Option.some.injEq] at he); first | exact hi.elim | exact he.elim | omega | (rcases hi with hi | hi <;> omega) | (rcases he with he | he <;> omega) | (have := (HO82).own_lt he0; omega) | (have := zo_HO82 _ he0; omega) | (have := (HO82).own_lt he0; rcases hi with hi | hi <;> omega))
        replace HS4 := HS4.keep k96 (by intro i _ hi he; have he0 := he; (try dsimp only [NoK, AllB] at hi he); (try simp only [Value.ownBlock, Option.some.injEq] at he); first | exact hi.elim | exact he.elim | omega | (rcases hi with hi | hi <;> omega) | (rcases he with he | he <;> omega) | (have := (HO82).own_lt he0; omega) | (have := zo_HO82 _ he0; omega) | (have := (HO82).own_lt he0; rcases hi with hi | hi <;> omega))
        replace EL2 := EL2.step k96 (by intro i hi he; have he0 := he; (try dsimp only [NoK] at hi he ⊢); (try simp only [Value.ownBlock, Option.some.injEq] at he); first | exact he.elim | omega | exact he | (have := (HO82).own_lt he0; omega) | (have := zo_HO82 _ he0; omega) | (have := (HO82).own_lt he0; rcases hi with hi | hi <;> omega))
        replace HPq := HPq.keep k96 (by intro h; have he0 := h; (try dsimp only at h); (try simp only [Value.ownBlock, Option.some.injEq] at h); (try simp only [add_block] at h); (try simp only [add_block] at he0); first | omega | (have := (HO82).own_lt he0; omega) | (have := zo_HO82 _ he0; omega))
        replace HS5 := HS5.keep k96 (by intro i _ hi he; have he0 := he; (try dsimp only [NoK, AllB] at hi he); (try simp only [Value.ownBlock, Option.some.injEq] at he); first | exact hi.elim | exact he.elim | omega | (rcases hi with hi | hi <;> omega) | (rcases he with he | he <;> omega) | (have := (HO82).own_lt he0; omega) | (have := zo_HO82 _ he0; omega) | (have := (HO82).own_lt he0; rcases hi with hi | hi <;> omega))
        replace HS6 := HS6.keep k96 (by intro i _ hi he; have he0 := he; (try dsimp only [NoK, AllB] at hi he); (try simp only [Value.ownBlock, Option.some.injEq] at he); first | exact hi.elim | exact he.elim | omega | (rcases hi with hi | hi <;> omega) | (rcases he with he | he <;> omega) | (have := (HO82).own_lt he0; omega) | (have := zo_HO82 _ he0; omega) | (have := (HO82).own_lt he0; rcases hi with hi | hi <;> omega))
        have zo_HO96 := fun (b : Nat) h => HO96.own_lt (b := b) h
        refine l_v (v_assign (t := .slice _ _ _) rfl) ?_
        refine l_nil ?_
        refine n_blk ?_
        refine n_then ?_
        refine wp_reg (by decide +kernel) ?_
        refine l_v (v_move (t := .int _ _) rfl) ?_
        refine l_v (v_add rfl rfl (by first | exact wr_i64 (by omega) (by omega) | rfl)) ?_
        refine l_v (v_assign (t := .int _ _) rfl) ?_
        refine l_nil ?_
        refine n_then ?_
        refine ⟨(a96, c96, i + 1), _, rfl, by (repeat (first | exact Off.of_over _ _ _ | refine Off.upd ?_ (by decide) _ | refine Off.overs ?_ (by decide) _)), ⟨by first | rfl | exact congrArg (Value.int _) (by omega) | (simp; done), by first | rfl | exact congrArg (Value.int _) (by omega) | (simp; done), trivial⟩, ⟨E, EL2, ?_⟩, ?_⟩
        · skip
          exact ⟨by omega, HO96⟩
        · (dsimp only; omega)
      · skip
        have hin := dfalse hin
        have hend : accJ (accK S (c - 1) ++ wNum c ++ wNum kn ++ wNum ke ++ wNum (ansS S c).2.1.length) (ansS S c).2.1 i ++ wBytes (ansS S c).2.2 = accK S (c + 1 - 1) := by rw [accJ_end (by omega), hyes]; simp [spLn, lnK, wList, hkn, hke]
        have hl5 := accJ_len (x := accK S (c - 1) ++ wNum c ++ wNum kn ++ wNum ke ++ wNum (ansS S c).2.1.length) (ps := (ansS S c).2.1) i r7 (fun p hp => by have := r9 p hp; omega)
        have hly : (accK S (c - 1) ++ wNum c ++ wNum kn ++ wNum ke ++ wNum (ansS S c).2.1.length).length ≤ 16100 := by simp only [List.length_append]; omega
        have hb4 := wBytes_len10 (l := (ansS S c).2.2) (by omega)
        have zo_HOy := fun (b : Nat) h => HOy.own_lt (b := b) h
        refine c_exit ?_
        refine x_then ?_
        refine x_then ?_
        refine x_hit ?_
        refine n_then ?_
        refine wp_reg (by decide +kernel) ?_
        refine l_v (v_move (t := .slice _ _ _) rfl) ?_
        refine l_v (v_move (t := .pointer _) rfl) ?_
        refine l_v (v_move (t := .int _ _) rfl) ?_
        refine l_v (v_nilCheck rfl) ?_
        refine l_v (v_fieldAddr (off := 5) (ft := 46) (by kernel_rfl) rfl) ?_
        refine l_v (v_arrAddr (et := 33) (n := 5) (sz := 3) (k := c) (by kernel_rfl) rfl rfl rfl (by omega)) ?_
        refine l_v (v_fieldAddr (off := 2) (ft := 31) (by kernel_rfl) rfl) ?_
        refine l_v (v_load (by kernel_rfl) rfl (by first | exact HPa 2 _ rfl | exact pv_1 HPa | exact HPn 2 _ rfl | exact pv_1 HPn | exact HB1.pv 2 _ rfl | assumption)) ?_
        refine l_to (to_f1 (by kernel_rfl) (show _ = (Value.slice _ _ _) from rfl) (CallsR.mono (refBytes_c HS4 (by omega)) ?_))
        rintro _ w105 ⟨HO105, ⟨q105, c105, rfl⟩, e105⟩
        have zs_e105 := e105.size
        replace E := E.trans (Ext.keep e105)
        replace HB1 := HB1.ext e105
        replace HT1 := HT1.ext e105
        replace EL1 := EL1.trans (Ext.keep e105)
        replace HPn := HPn.ext e105
        replace HPa := HPa.ext e105
        replace HS3 := HS3.ext e105
        replace HS4 := HS4.ext e105
        replace HOy := HOy.ext e105
        have zo_HO105 := fun (b : Nat) h => HO105.own_lt (b := b) h
        refine l_to (to_append (et := 5) (bytes := 1) (by kernel_rfl) (show _ = (Value.slice _ _ _) from rfl) HOy (show _ = (Value.slice _ _ _) from rfl) HO105.view (flat_u8.to) (by first | omega | (simp; done) | (simp; omega)) (by simp only [maxLen]; first | omega | (simp; done) | (simp; omega)) (by omega) ?_)
        rintro a106 n106 c106 w106 HO106 hn106 k106 h106 i106
        have zs_k106 := k106.size
        subst hn106
        rw [hend] at HO106 ⊢
        replace E := E.step k106 (by intro i hi he; have he0 := he; (try dsimp only [NoK] at hi he ⊢); (try simp only [Value.ownBlock, Option.some.injEq] at he); first | exact he.elim | omega | exact he | (have := (HOy).own_lt he0; omega) | (have := zo_HOy _ he0; omega) | (have := (HOy).own_lt he0; rcases hi with hi | hi <;> omega))
        replace HB1 := HB1.keep k106 (by intro h; have he0 := h; (try dsimp only at h); (try simp only [Value.ownBlock, Option.some.injEq] at h); first | omega | (have := (HOy).own_lt he0; omega) | (have := zo_HOy _ he0; omega))
        replace HT1 := HT1.keep k106 (by intro i _ hi he; have he0 := he; (try dsimp only [NoK, AllB] at hi he); (try simp only [Value.ownBlock, Option.some.injEq] at he); first | exact hi.elim | exact he.elim | omega | (rcases hi with hi | hi <;> omega) | (rcases he with he | he <;> omega) | (have := (HOy).own_lt he0; omega) | (have := zo_HOy _ he0; omega) | (have := (HOy).own_lt he0; rcases hi with hi | hi <;> omega))
        replace EL1 := EL1.step k106 (by intro i hi he; have he0 := he; (try dsimp only [NoK] at hi he ⊢); (try simp only [Value.ownBlock, Option.some.injEq] at he); first | exact he.elim | omega | exact he | (have := (HOy).own_lt he0; omega) | (have := zo_HOy _ he0; omega) | (have := (HOy).own_lt he0; rcases hi with hi | hi <;> omega))
        replace HPn := HPn.keep k106 (by intro h; have he0 := h; (try dsimp only at h); (try simp only [Value.ownBlock, Option.some.injEq] at h); (try simp only [add_block] at h); (try simp only [add_block] at he0); first | omega | (have := (HOy).own_lt he0; omega) | (have := zo_HOy _ he0; omega))
        replace HPa := HPa.keep k106 (by intro h; have he0 := h; (try dsimp only at h); (try simp only [Value.ownBlock, Option.some.injEq] at h); (try simp only [add_block] at h); (try simp only [add_block] at he0); first | omega | (have := (HOy).own_lt he0; omega) | (have := zo_HOy _ he0; omega))
        replace HS3 := HS3.keep k106 (by intro i _ hi he; have he0 := he; (try dsimp only [NoK, AllB] at hi he); (try simp only [Value.ownBlock, Option.some.injEq] at he); first | exact hi.elim | exact he.elim | omega | (rcases hi with hi | hi <;> omega) | (rcases he with he | he <;> omega) | (have := (HOy).own_lt he0; omega) | (have := zo_HOy _ he0; omega) | (have := (HOy).own_lt he0; rcases hi with hi | hi <;> omega))
        replace HS4 := HS4.keep k106 (by intro i _ hi he; have he0 := he; (try dsimp only [NoK, AllB] at hi he); (try simp only [Value.ownBlock, Option.some.injEq] at he); first | exact hi.elim | exact he.elim | omega | (rcases hi with hi | hi <;> omega) | (rcases he with he | he <;> omega) | (have := (HOy).own_lt he0; omega) | (have := zo_HOy _ he0; omega) | (have := (HOy).own_lt he0; rcases hi with hi | hi <;> omega))
        have zo_HO106 := fun (b : Nat) h => HO106.own_lt (b := b) h
        refine l_v (v_assign (t := .slice _ _ _) rfl) ?_
        refine l_nil ?_
        refine n_blk ?_
        refine n_then ?_
        refine wp_reg (by decide +kernel) ?_
        refine l_v (v_move (t := .int _ _) rfl) ?_
        refine l_v (v_add rfl rfl (by first | exact wr_i64 (by omega) (by omega) | rfl)) ?_
        refine l_v (v_assign (t := .int _ _) rfl) ?_
        refine l_nil ?_
        refine n_then ?_
        refine ⟨(a106, c106, c + 1), _, rfl, by (repeat (first | exact Off.of_over _ _ _ | refine Off.upd ?_ (by decide) _ | refine Off.overs ?_ (by decide) _)), ⟨by first | rfl | exact congrArg (Value.int _) (by omega) | (simp; done), by first | rfl | exact congrArg (Value.int _) (by omega) | (simp; done), trivial⟩, ⟨E, EL1, ?_⟩, ?_⟩
        · skip
          exact ⟨by omega, by omega, HO106⟩
        · (dsimp only; omega)
  · skip
    have hc5 : c = 5 := by have := dfalse hlt; omega
    refine c_exit ?_
    refine x_then ?_
    refine x_then ?_
    refine x_hit ?_
    refine n_then ?_
    refine c_seq ?_
    refine wp_reg (by decide +kernel) ?_
    refine l_v (v_move (t := .slice _ _ _) rfl) ?_
    refine l_v (v_assign (t := .slice _ _ _) rfl) ?_
    refine l_nil ?_
    refine n_then ?_
    refine c_ret ?_
    refine ret1v rfl (by decide) (show _ = (Value.slice _ _ _) from rfl) ?_
    subst hc5
    have h9 : accK S (5 - 1) = tbW S := accK_end S
    refine ⟨⟨a1, c1, congrArg (fun x : List UInt8 => Value.slice a1 x.length c1) h9, ?_⟩, E⟩
    rw [← h9]
    exact HOx.view.mono fun i _ h => h.elim (fun h => h) (fun h => h.elim)
end Go.Proofs.Ytlhanmlpionomaa
