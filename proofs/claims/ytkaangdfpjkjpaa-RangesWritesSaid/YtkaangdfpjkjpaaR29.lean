/- A part of the proof: steps and lemmas for the walks through the given program. -/
import Derived.Test.YtkaangdfpjkjpaaV1
import Derived.Test.YtkaangdfpjkjpaaGt
namespace Go.Proofs.Ytkaangdfpjkjpaa
open Go.Vc
set_option linter.unusedVariables false
set_option linter.unusedSimpArgs false
set_option maxRecDepth 100000

/-- a range's bytes, a map's -/
def spR (x : RgV) : List UInt8 := wBytes x.1 ++ wNum x.2.2.2.toNat
def mapW (m : MpV) : List UInt8 := wNum m.1.toNat ++ wList spR m.2
theorem putR_c {w : World} {v : Value} {F : Nat → Prop} {xs : List (RgV)} {fr : Nat} {cap : Array Value} (hv : SlV (tRg) w F v xs) (hb : kBody Try.prog fr = true) (sp : RgV → List UInt8)
    (hform : ∀ (w1 : World) (cs : List Value) (x : RgV), Ext w w1 → (tRg).rep w1 F cs x → x ∈ xs → CallsR Try.prog fr (#[.agg cs.toArray] ++ cap) w1 (fun r w2 => OwV tU8 nU8 w2 w1.heap.size NoK r (sp x) ∧ Ext w1 w2))
    (hl : (wList sp xs).length ≤ 140737488355300) (hn : xs.length ≤ 5000000000000) :
    CallsR Try.prog 68 #[v, .func (.func fr) #[] cap] w (fun r w' => ∃ q c, r = .tuple #[.slice (some q) (wList sp xs).length c, .int .i64 0] ∧ OwV tU8 nU8 w' w.heap.size NoK (.slice (some q) (wList sp xs).length c) (wList sp xs) ∧ Ext w w') := by
  obtain ⟨a, c, rfl⟩ := hv.shape
  obtain ⟨w0, rfl⟩ : ∃ x, x = w := ⟨w, rfl⟩
  refine enter 32 Try.func68 rfl rfl (by simp) ?_
  refine c_seq ?_
  refine wp_reg (by decide +kernel) ?_
  refine l_v (v_assign rfl) ?_
  refine l_v (v_assign rfl) ?_
  refine l_nil ?_
  refine n_then ?_
  refine c_seq ?_
  refine c_seq ?_
  refine wp_reg (by decide +kernel) ?_
  refine l_v (v_move (t := .func _ _ _) rfl) ?_
  refine l_v (v_feqlnil (ps := #[37]) (rs := #[35]) (v := false) (by kernel_rfl) rfl rfl) ?_
  refine l_nil ?_
  refine n_then ?_
  refine c_cond rfl rfl (fun hc => ?_) (fun hc => ?_)
  · skip
    cases hc
  · skip
    refine c_skip ?_
    refine n_then ?_
    refine c_seq ?_
    refine wp_reg (by decide +kernel) ?_
    refine l_v (v_move (t := .slice _ _ _) rfl) ?_
    refine l_v (v_len (et := 37) (by kernel_rfl) rfl) ?_
    refine l_v (v_conv (ds := .int .i64) (by kernel_rfl) (by kernel_rfl) rfl (by first | exact wr_u64 (by omega) (by omega) | rfl)) ?_
    refine l_to (to_f1 (by kernel_rfl) (show _ = (Value.int _ _) from rfl) (CallsR.mono (Number_c (n := xs.length) (by omega)) ?_))
    rintro _ w1 ⟨o1, ⟨q1, c1, rfl⟩, e1⟩
    have zs_e1 := e1.size
    refine l_to (to_slice1 (t := tSl tU8) (et := 35) (bytes := 24) (by kernel_rfl) (by decide) (show _ = (Value.slice _ _ _) from rfl) ((show (tSl tU8).rep _ _ [_] _ from ⟨_, rfl, o1.view⟩)) ?_)
    rintro b2 w2 rfl o2 e2 z2
    have zs_e2 := e2.size
    refine l_v (v_assign (t := .slice _ _ _) rfl) ?_
    refine l_nil ?_
    refine n_then ?_
    refine c_seq ?_
    refine c_seq ?_
    refine wp_reg (by decide +kernel) ?_
    refine l_v (v_move (t := .slice _ _ _) rfl) ?_
    refine l_v (v_len (et := 37) (by kernel_rfl) rfl) ?_
    refine l_v (v_move rfl) ?_
    refine l_nil ?_
    refine n_then ?_
    refine c_block ?_
    refine c_loop (τ := Option Addr × Nat × Nat) [6, 7, 17, 18, 19, 20, 21, 22, 23, 24, 25, 26, 27, 28, 29] (fun (a1, c1, k) => [(6, .slice a1 (k + 1) c1), (17, .int .i64 k)]) (fun (a1, c1, k) w => OwV (tSl tU8) nSl w w0.heap.size (fun b => w0.heap.size ≤ b) (.slice a1 (k + 1) c1) (wNum xs.length :: (xs.take k).map sp) ∧ Ext w0 w ∧ k ≤ xs.length) (fun (a1, c1, k) => xs.length - k) (some ⟨w1.heap.size, 0, none⟩, 1, 0) (by exact ⟨rfl, rfl, trivial⟩) (by exact ⟨(o2.base (by omega)).mono (fun b _ h => by rcases h.1 with h | h; exact h; exact h.elim), e1.trans e2, Nat.zero_le _⟩) ?_
    rintro ⟨a1, c1, k⟩ w3 j ⟨o3, e3, h3⟩
    refine c_seq ?_
    refine wp_reg (by decide +kernel) ?_
    refine l_v (v_lss rfl rfl) ?_
    refine l_nil ?_
    refine n_then ?_
    refine c_seq ?_
    refine c_cond rfl rfl (fun hc2 => ?_) (fun hc2 => ?_)
    · skip
      have hc2 := dtrue hc2
      have zs_e3 := e3.size
      obtain ⟨x, hx⟩ : ∃ x, xs[k]? = some x := ⟨xs[k]'(by omega), by simp [show k < xs.length by omega]⟩
      have hlk : (wNum xs.length :: (xs.take k).map sp).length = k + 1 := by simp; omega
      refine c_skip ?_
      refine n_then ?_
      refine c_seq ?_
      refine c_block ?_
      refine c_seq ?_
      refine wp_reg (by decide +kernel) ?_
      refine l_v (v_move (t := .int _ _) rfl) ?_
      refine l_v (v_assign (t := .int _ _) rfl) ?_
      refine l_nil ?_
      refine n_then ?_
      refine wp_reg (by decide +kernel) ?_
      refine l_v (v_move (t := .slice _ _ _) rfl) ?_
      refine l_v (v_move (t := .func _ _ _) rfl) ?_
      refine l_v (v_move (t := .slice _ _ _) rfl) ?_
      refine l_v (v_move (t := .int _ _) rfl) ?_
      refine l_to (to_index (et := 37) (by kernel_rfl) (by kernel_rfl) (show _ = (Value.slice _ _ _) from rfl) (hv.ext e3) (show _ = (Value.int _ _) from rfl) rfl hx ?_)
      rintro q cs hF hp hr
      skip
      refine l_v (v_loadA (n := 4) (by kernel_rfl) rfl hp (tRg.len hr)) ?_
      refine l_to (to_call1 hb rfl (show _ = (Value.agg _) from rfl) (CallsR.mono ((hform w3 _ x e3 hr (List.mem_of_getElem? hx))) ?_))
      rintro _ w4 ⟨o4, e4⟩
      have zs_e4 := e4.size
      obtain ⟨a4, c4, rfl⟩ := o4.shape
      refine l_to (to_slice1 (t := tSl tU8) (et := 35) (bytes := 24) (by kernel_rfl) (by decide) (show _ = (Value.slice _ _ _) from rfl) ((show (tSl tU8).rep _ _ [_] _ from ⟨_, rfl, o4.view⟩)) ?_)
      rintro b5 w5 rfl o5 e5 z5
      have zs_e5 := e5.size
      refine l_to (to_append (et := 35) (bytes := 24) (by kernel_rfl) (show _ = (Value.slice _ _ _) from rfl) (o3.ext (e4.trans e5)) (show _ = (Value.slice _ _ _) from rfl) o5.view ((OwV_sep o3 (by intro b hb; simp only [NoK, or_false] at hb; omega) (by omega))) (by first | omega | (simp; done) | (simp; omega)) (by simp only [maxLen]; first | omega | (simp; done) | (simp; omega)) (by omega) ?_)
      rintro a6 n6 c6 w6 o6 hn6 k6 b6 i6
      have zs_k6 := k6.size
      have hlk2 : ((wNum xs.length :: (xs.take k).map sp) ++ [sp x]).length = k + 1 + 1 := by simp; omega
      rw [hlk2] at hn6
      subst hn6
      have e6 : Ext w0 w6 := ((e3.trans e4).trans e5).step k6 fun b hb h => by have := (o3.own_lt h).1; omega
      have htk : (xs.take (k + 1)).map sp = (xs.take k).map sp ++ [sp x] := by rw [List.take_add_one, hx]; simp
      refine l_v (v_assign (t := .slice _ _ _) rfl) ?_
      refine l_nil ?_
      refine n_blk ?_
      refine n_then ?_
      refine wp_reg (by decide +kernel) ?_
      refine l_v (v_add rfl rfl (by first | exact wr_i64 (by omega) (by omega) | rfl)) ?_
      refine l_v (v_move (t := .int _ _) rfl) ?_
      refine l_nil ?_
      refine n_then ?_
      refine ⟨(a6, c6, k + 1), _, rfl, by (repeat (first | exact Off.of_over _ _ _ | refine Off.upd ?_ (by decide) _)), ⟨by first | rfl | exact congrArg (Value.int _) (by omega) | (simp; done), by first | rfl | exact congrArg (Value.int _) (by omega) | (simp; done), trivial⟩, ?_, ?_⟩
      · exact ⟨by rw [htk]; exact o6, e6, by omega⟩
      · dsimp only; omega
    · skip
      have hc2 := dfalse hc2
      obtain rfl : k = xs.length := by omega
      rw [List.take_length] at o3
      have zs_e3 := e3.size
      refine c_exit ?_
      refine x_then ?_
      refine x_then ?_
      refine x_hit ?_
      refine n_then ?_
      refine c_seq ?_
      refine wp_reg (by decide +kernel) ?_
      refine l_v (v_move (t := .slice _ _ _) rfl) ?_
      refine l_to (to_f1 (by kernel_rfl) (show _ = (Value.slice _ _ _) from rfl) (CallsR.mono (Join_c o3.view (by simpa [wList] using hl)) ?_))
      rintro _ w4 ⟨o4, ⟨q4, c4, rfl⟩, e4⟩
      have zs_e4 := e4.size
      refine l_v (v_assign (t := .slice _ _ _) rfl) ?_
      refine l_v (v_assign rfl) ?_
      refine l_nil ?_
      refine n_then ?_
      refine c_ret ?_
      refine ret2 rfl (by decide) (by decide) ?_
      have hfl : (wNum xs.length :: xs.map sp).flatten = wList sp xs := by simp [wList]
      rw [hfl] at o4 ⊢
      exact ⟨q4, c4, rfl, o4.base (by omega), e3.trans e4⟩


theorem Bytes1_c {w : World} {F : Nat → Prop} {cs : List Value} {x : RgV} (hr : tRg.rep w F cs x) (hl : x.1.length ≤ 1000) (h0 : 0 ≤ x.2.2.2) : CallsR Try.prog 69 (#[.agg cs.toArray] ++ #[]) w (fun r w2 => OwV tU8 nU8 w2 w.heap.size NoK r (spR x) ∧ Ext w w2) := by
  obtain ⟨fr, t, en, g⟩ := x
  obtain ⟨a1, c1, a2, c2, rfl, HS1, _, hg⟩ := tRg_cells hr
  simp only at hl h0 hg HS1
  obtain ⟨n, rfl⟩ := Int.eq_ofNat_of_zero_le h0
  have hwl := wNum_len10 (n := n) (by omega)
  have hwb : (wBytes fr).length ≤ fr.length + 10 := by have := wNum_len10 (n := fr.length) (by omega); rw [wBytes, List.length_append]; omega
  show CallsR _ _ #[_] _ _
  refine enter 12 Try.func69 rfl rfl (by simp) ?_
  refine c_seq ?_
  have E := Keep.refl (K := NoK) w
  replace HS1 := HS1.all
  refine wp_reg (by decide +kernel) ?_
  refine l_to (to_box (show _ = (Value.agg _) from rfl) ?_)
  rintro b1 w1 zb1 HB1 e1 z1
  have zs_e1 := e1.size
  replace E := E.trans (Ext.keep e1)
  replace HS1 := HS1.ext e1
  try simp only [Value.cells] at HB1
  refine l_v (v_assign rfl) ?_
  refine l_nil ?_
  refine n_then ?_
  refine c_seq ?_
  refine wp_any (by kernel_rfl) ?_
  have e101 : Ext w1 { w1 with drawn := w1.drawn + 1 } := Keep.drawn _ _
  generalize hw101 : ({ w1 with drawn := w1.drawn + 1 } : World) = w101 at e101 ⊢
  clear hw101
  have zs_e101 := e101.size
  replace E := E.trans (Ext.keep e101)
  replace HS1 := HS1.ext e101
  replace HB1 := HB1.ext e101
  refine r_cut 6 rfl (by decide +kernel) (by decide +kernel) (by decide +kernel) ?_
  refine wp_regdW (NoK) (by decide +kernel) (by decide +kernel) ?_
  refine rt_v (fun vals w hR hd => v_fieldAddr (off := 0) (ft := 35) (by kernel_rfl) rfl) ?_
  refine rt_v (fun vals w hR hd => v_load (by kernel_rfl) (hd 0 rfl) (by first | exact (HB1.ext hR).pv 0 _ rfl | assumption)) ?_
  refine rt_to (fun v W => Bv W AllB v (wBytes fr)) (fun v w w' h k => h.ext k) (fun vals w hR hd => to_f1 (by kernel_rfl) (hd 1 rfl) (CallsR.mono (Bytes_c (HS1.ext hR) (by omega)) fun v w1 ⟨h, _, e⟩ => ⟨e, h.view.allB⟩)) ?_
  refine rt_v (fun vals w hR hd => v_fieldAddr (off := 3) (ft := 3) (by kernel_rfl) rfl) ?_
  refine rt_v (fun vals w hR hd => v_load (by kernel_rfl) (hd 3 rfl) (by first | exact (HB1.ext hR).pv 3 _ rfl | assumption)) ?_
  refine rt_v (fun vals w hR hd => v_conv (ds := .int .i64) (by kernel_rfl) (by kernel_rfl) (hd 4 rfl) (by first | exact wr_u64 (by omega) (by omega) | rfl)) ?_
  refine rt_nil (fun w102 e102 => ?_)
  rintro _ rfl _ rfl v5 HS5 _ rfl _ rfl _ rfl
  have zs_e102 := e102.size
  obtain ⟨a5, d5, rfl⟩ := HS5.shape
  replace E := E.trans (Ext.keep e102)
  replace HS1 := HS1.ext e102
  replace HB1 := HB1.ext e102
  refine fin_nil ?_
  refine n_then ?_
  refine r_cut 1 rfl (by decide +kernel) (by decide +kernel) (by decide +kernel) ?_
  refine r_one (by decide +kernel) rfl ?_
  refine l_to (to_f1 (by kernel_rfl) (show _ = (Value.int _ _) from rfl) (CallsR.mono (Number_c (n := n) (by omega)) ?_))
  rintro _ w9 ⟨HO9, ⟨q9, c9, rfl⟩, e9⟩
  have zs_e9 := e9.size
  replace E := E.trans (Ext.keep e9)
  replace HS1 := HS1.ext e9
  replace HB1 := HB1.ext e9
  replace HS5 := HS5.ext e9
  have zo_HO9 := fun (b : Nat) h => HO9.own_lt (b := b) h
  refine l_nil ?_
  refine n_then ?_
  refine r_cut 1 rfl (by decide +kernel) (by decide +kernel) (by decide +kernel) ?_
  refine r_one (by decide +kernel) rfl ?_
  refine l_to (to_sliceN (t := tSl tU8) (xs := [wBytes fr, wNum n]) (et := 35) (bytes := 24) (zl := [.slice none 0 0, .slice none 0 0]) (by kernel_rfl) (by decide) (by decide) (by unfold kZeros; kernel_rfl) rfl (cells := [_, _]) rfl rfl rfl ((reps2 (t := tSl tU8) (c1 := [_]) (c2 := [_]) ⟨_, rfl, HS5⟩ ⟨_, rfl, HO9.view.allB⟩)) ?_)
  rintro b10 w10 zb10 HO10 e10 z10
  have zs_e10 := e10.size
  replace E := E.trans (Ext.keep e10)
  replace HS1 := HS1.ext e10
  replace HB1 := HB1.ext e10
  replace HS5 := HS5.ext e10
  replace HO9 := HO9.ext e10
  have zo_HO10 := fun (b : Nat) h => HO10.own_lt (b := b) h
  refine l_nil ?_
  refine n_then ?_
  refine r_cut 1 rfl (by decide +kernel) (by decide +kernel) (by decide +kernel) ?_
  refine r_one (by decide +kernel) rfl ?_
  refine l_to (to_f1 (by kernel_rfl) (show _ = (Value.slice _ _ _) from rfl) (CallsR.mono (Join_c HO10.view (by simp; omega)) ?_))
  rintro _ w11 ⟨HO11, ⟨q11, c11, rfl⟩, e11⟩
  have zs_e11 := e11.size
  replace E := E.trans (Ext.keep e11)
  replace HS1 := HS1.ext e11
  replace HB1 := HB1.ext e11
  replace HS5 := HS5.ext e11
  replace HO9 := HO9.ext e11
  replace HO10 := HO10.ext e11
  have zo_HO11 := fun (b : Nat) h => HO11.own_lt (b := b) h
  refine l_nil ?_
  refine n_then ?_
  refine r_one (by decide +kernel) rfl ?_
  refine l_v (v_assign (t := .slice _ _ _) rfl) ?_
  refine l_nil ?_
  refine n_then ?_
  refine c_ret ?_
  refine ret1v rfl (by decide) (show _ = (Value.slice _ _ _) from rfl) ?_
  refine ⟨?_, E⟩
  have h : [wBytes fr, wNum n].flatten = spR (fr, t, en, (n : Int)) := by simp [spR]
  rw [h] at HO11 ⊢
  exact HO11.base (by omega)
theorem wBytes_le {l : List UInt8} (h : l.length ≤ 100000) : (wBytes l).length ≤ l.length + 10 := by have := wNum_len10 (n := l.length) (by omega); rw [wBytes, List.length_append]; omega
theorem spR_le {r : RgV} (h : r.1.length ≤ 24) (h2 : r.2.2.2 < 5) : (spR r).length ≤ 44 := by
  have h1 := wBytes_le (l := r.1) (by omega)
  have h3 := wNum_len10 (n := r.2.2.2.toNat) (by omega)
  rw [spR, List.length_append]; omega
theorem mapW_le {e : Int} {rs : List RgV} (hm : mayM (e, rs) = true) : (wList spR rs).length ≤ 714 ∧ (mapW (e, rs)).length ≤ 724 := by
  obtain ⟨hp1, hp2, _, hp4, _, _⟩ := mayM_parts hm
  have hl := mayM_lens hm
  simp only at hp1 hp2 hp4 hl
  have h1 := flat_le (sp := spR) (k := 44) rs fun r hr => spR_le (hl r hr).1 (grpB_range (hl r hr).2.2).2
  have h2 := wNum_len10 (n := rs.length) (by omega)
  have h3 := wNum_len10 (n := e.toNat) (by omega)
  have h4 : (wList spR rs).length ≤ 714 := by rw [wList, List.length_append]; omega
  refine ⟨h4, ?_⟩
  show (wNum e.toNat ++ wList spR rs).length ≤ 724
  rw [List.length_append]; omega
theorem rBytes_c {w : World} {F : Nat → Prop} {v : Value} {e : Int} {rs : List RgV} (HG1 : AgV tMp w F v (e, rs)) : CallsR Try.prog 41 #[v] w (fun o w' => (∃ x, o = .tuple #[x, .int .i64 (if mayM (e, rs) = true then 0 else 2)] ∧ Bv w' (fun b => w.heap.size ≤ b) x (if mayM (e, rs) = true then mapW (e, rs) else [])) ∧ Ext w w') := by
  obtain ⟨a, c, rfl, HSr, he⟩ := HG1.mp
  simp only at HSr he
  refine enter 22 Try.func41 rfl rfl (by simp) ?_
  refine c_seq ?_
  have E := Keep.refl (K := NoK) w
  replace HG1 := HG1.all
  replace HSr := HSr.all
  refine wp_reg (by decide +kernel) ?_
  refine l_to (to_box (show _ = (Value.agg _) from rfl) ?_)
  rintro b1 w1 zb1 HB1 e1 z1
  have zs_e1 := e1.size
  replace E := E.trans (Ext.keep e1)
  replace HG1 := HG1.ext e1
  replace HSr := HSr.ext e1
  try simp only [Value.cells] at HB1
  refine l_v (v_assign rfl) ?_
  refine l_v (v_assign rfl) ?_
  refine l_nil ?_
  refine n_then ?_
  refine c_seq ?_
  refine c_seq ?_
  refine wp_reg (by decide +kernel) ?_
  refine l_v (v_loadA (by kernel_rfl) rfl (by first | exact HB1.pv | assumption) rfl) ?_
  refine l_to (to_f1 (by kernel_rfl) (show _ = (Value.agg _) from rfl) (CallsR.mono (May_c HG1) ?_))
  rintro _ w101 ⟨rfl, e101⟩
  have zs_e101 := e101.size
  replace E := E.trans (Ext.keep e101)
  replace HG1 := HG1.ext e101
  replace HSr := HSr.ext e101
  replace HB1 := HB1.ext e101
  refine l_v (v_not rfl) ?_
  refine l_nil ?_
  refine n_then ?_
  refine c_cond rfl rfl (fun hc => ?_) (fun hc => ?_)
  · skip
    refine c_seq ?_
    refine wp_reg (by decide +kernel) ?_
    refine l_v (v_assign rfl) ?_
    refine l_v (v_assign rfl) ?_
    refine l_nil ?_
    refine n_then ?_
    refine c_ret ?_
    refine r_then ?_
    refine ret2v rfl (by decide) (by decide) (show _ = (Value.slice _ _ _) from rfl) (show _ = (Value.int _ _) from rfl) ?_
    have hm : ¬ mayM (e, rs) = true := by revert hc; cases mayM (e, rs) <;> simp
    rw [if_neg hm, if_neg hm]
    exact ⟨⟨_, rfl, SlV.nil _ _ _⟩, E⟩
  · skip
    have hm : mayM (e, rs) = true := by revert hc; cases mayM (e, rs) <;> simp
    obtain ⟨hp1, hp2, _, hp4, _, _⟩ := mayM_parts hm
    have hl := mayM_lens hm
    simp only at hp1 hp2 hp4 hl
    obtain ⟨hw1, hw2⟩ := mapW_le hm
    obtain ⟨n, rfl⟩ := Int.eq_ofNat_of_zero_le (show 0 ≤ e by omega)
    refine c_skip ?_
    refine n_then ?_
    refine c_seq ?_
    refine wp_reg (by decide +kernel) ?_
    refine l_v (v_fieldAddr (off := 1) (ft := 22) (by kernel_rfl) rfl) ?_
    refine l_v (v_load (by kernel_rfl) rfl (by first | exact HB1.pv 1 _ rfl | assumption)) ?_
    refine l_to (to_f2 (by kernel_rfl) (show _ = (Value.slice _ _ _) from rfl) rfl (CallsR.mono (putR_c (cap := #[]) HSr (by kernel_rfl) spR (fun w1 cs x e1 hr hx => Bytes1_c hr (by have := (hl x hx).1; omega) (by have := (grpB_range (hl x hx).2.2).1; omega)) (by omega) (by omega)) ?_))
    rintro _ w2 ⟨q2, c2, rfl, HO2, e2⟩
    have zs_e2 := e2.size
    replace E := E.trans (Ext.keep e2)
    replace HG1 := HG1.ext e2
    replace HSr := HSr.ext e2
    replace HB1 := HB1.ext e2
    have zo_HO2 := fun (b : Nat) h => HO2.own_lt (b := b) h
    refine l_v (v_move (t := .tuple _) rfl) ?_
    refine l_v (v_extract (t := .slice _ _ _) rfl rfl) ?_
    refine l_v (v_extract (t := .int _ _) rfl rfl) ?_
    refine l_v (v_assign (t := .slice _ _ _) rfl) ?_
    refine l_v (v_assign (t := .int _ _) rfl) ?_
    refine l_nil ?_
    refine n_then ?_
    refine c_seq ?_
    refine wp_reg (by decide +kernel) ?_
    refine l_v (v_fieldAddr (off := 0) (ft := 2) (by kernel_rfl) rfl) ?_
    refine l_v (v_load (by kernel_rfl) rfl (by first | exact HB1.pv 0 _ rfl | assumption)) ?_
    refine l_v (v_conv (ds := .int .i64) (by kernel_rfl) (by kernel_rfl) rfl (by first | exact wr_u64 (by omega) (by omega) | rfl)) ?_
    refine l_to (to_f1 (by kernel_rfl) (show _ = (Value.int _ _) from rfl) (CallsR.mono (Number_c (n := n) (by omega)) ?_))
    rintro _ w3 ⟨HO3, ⟨q3, c3, rfl⟩, e3⟩
    have zs_e3 := e3.size
    replace E := E.trans (Ext.keep e3)
    replace HG1 := HG1.ext e3
    replace HSr := HSr.ext e3
    replace HB1 := HB1.ext e3
    replace HO2 := HO2.ext e3
    have zo_HO3 := fun (b : Nat) h => HO3.own_lt (b := b) h
    refine l_v (v_move (t := .slice _ _ _) rfl) ?_
    refine l_to (to_sliceN (t := tSl tU8) (xs := [wNum n, wList spR rs]) (et := 35) (bytes := 24) (zl := [.slice none 0 0, .slice none 0 0]) (by kernel_rfl) (by decide) (by decide) (by unfold kZeros; kernel_rfl) rfl (cells := [_, _]) rfl rfl rfl ((reps2 (t := tSl tU8) (c1 := [_]) (c2 := [_]) ⟨_, rfl, HO3.view.allB⟩ ⟨_, rfl, HO2.view.allB⟩)) ?_)
    rintro b10 w10 zb10 HO10 e10 z10
    have zs_e10 := e10.size
    replace E := E.trans (Ext.keep e10)
    replace HG1 := HG1.ext e10
    replace HSr := HSr.ext e10
    replace HB1 := HB1.ext e10
    replace HO2 := HO2.ext e10
    replace HO3 := HO3.ext e10
    have zo_HO10 := fun (b : Nat) h => HO10.own_lt (b := b) h
    refine l_to (to_f1 (by kernel_rfl) (show _ = (Value.slice _ _ _) from rfl) (CallsR.mono (Join_c HO10.view (by have h := hw2; rw [mapW] at h; simp only [Int.toNat_natCast] at h; simp only [List.flatten_cons, List.flatten_nil, List.append_nil]; omega)) ?_))
    rintro _ w11 ⟨HO11, ⟨q11, c11, rfl⟩, e11⟩
    have zs_e11 := e11.size
    replace E := E.trans (Ext.keep e11)
    replace HG1 := HG1.ext e11
    replace HSr := HSr.ext e11
    replace HB1 := HB1.ext e11
    replace HO2 := HO2.ext e11
    replace HO3 := HO3.ext e11
    replace HO10 := HO10.ext e11
    have zo_HO11 := fun (b : Nat) h => HO11.own_lt (b := b) h
    refine l_v (v_assign (t := .slice _ _ _) rfl) ?_
    refine l_v (v_assign rfl) ?_
    refine l_nil ?_
    refine n_then ?_
    refine c_ret ?_
    refine ret2v rfl (by decide) (by decide) (show _ = (Value.slice _ _ _) from rfl) (show _ = (Value.int _ _) from rfl) ?_
    rw [if_pos hm, if_pos hm]
    have h : [wNum n, wList spR rs].flatten = mapW ((n : Int), rs) := by simp [mapW]
    rw [h] at HO11 ⊢
    exact ⟨⟨_, rfl, HO11.view.mono fun b _ hb => hb.elim (fun h => by omega) (fun h => h.elim)⟩, E⟩
def accW (e : Int) (rs : List RgV) (i : Nat) : List UInt8 := wNum e.toNat ++ wNum rs.length ++ ((rs.take i).map spR).flatten
theorem accW_zero (e : Int) (rs : List RgV) : accW e rs 0 = wNum e.toNat ++ wNum rs.length := by simp [accW]
theorem accW_succ {e : Int} {rs : List RgV} {i : Nat} {r : RgV} (hx : rs[i]? = some r) : accW e rs (i + 1) = accW e rs i ++ wBytes r.1 ++ wNum r.2.2.2.toNat := by
  rw [accW, accW, List.take_add_one, hx]; simp [spR]
theorem accW_end {e : Int} {rs : List RgV} {i : Nat} (h : rs.length ≤ i) : accW e rs i = mapW (e, rs) := by
  rw [accW, List.take_of_length_le h, mapW, wList]; simp
theorem accW_le {e : Int} {rs : List RgV} {i : Nat} (hm : mayM (e, rs) = true) : (accW e rs i).length ≤ 724 := by
  have h1 := (mapW_le hm).2
  have h2 := accW_end (e := e) (rs := rs) (i := i + rs.length) (by omega)
  have h3 : (accW e rs i).length ≤ (accW e rs (i + rs.length)).length := by
    have h4 : ∃ z, accW e rs (i + rs.length) = accW e rs i ++ z := by
      have h5 : rs.take (i + rs.length) = rs.take i ++ (rs.take (i + rs.length)).drop i := by
        conv => lhs; rw [← List.take_append_drop i (rs.take (i + rs.length)), List.take_take, Nat.min_eq_left (by omega)]
      obtain ⟨z, hz⟩ : ∃ z, rs.take (i + rs.length) = rs.take i ++ z := ⟨_, h5⟩
      exact ⟨(z.map spR).flatten, by rw [accW, hz, accW]; simp⟩
    obtain ⟨z, hz⟩ := h4
    rw [hz, List.length_append]; omega
  rw [h2] at h3; omega
theorem refMBytes_c {w : World} {F : Nat → Prop} {v : Value} {e : Int} {rs : List RgV} (HG1 : AgV tMp w F v (e, rs)) (hm : mayM (e, rs) = true) : CallsR Try.prog 42 #[v] w (fun r w' => OwV tU8 nU8 w' w.heap.size NoK r (mapW (e, rs)) ∧ Ext w w') := by
  obtain ⟨a, c, rfl, HSr, he⟩ := HG1.mp
  obtain ⟨hp1, hp2, _, hp4, _, _⟩ := mayM_parts hm
  have hl := mayM_lens hm
  simp only at hp1 hp2 hp4 hl HSr he
  have hal := fun i => accW_le (i := i) hm
  obtain ⟨n, rfl⟩ := Int.eq_ofNat_of_zero_le (show 0 ≤ e by omega)
  refine enter 42 Try.func42 rfl rfl (by simp) ?_
  refine c_seq ?_
  have E := Keep.refl (K := NoK) w
  replace HSr := HSr.all
  refine wp_reg (by decide +kernel) ?_
  refine l_to (to_box (show _ = (Value.agg _) from rfl) ?_)
  rintro b1 w1 zb1 HB1 e1 z1
  have zs_e1 := e1.size
  replace E := E.trans (Ext.keep e1)
  replace HSr := HSr.ext e1
  try simp only [Value.cells] at HB1
  refine l_v (v_assign rfl) ?_
  refine l_nil ?_
  refine n_then ?_
  refine c_seq ?_
  refine wp_any (by kernel_rfl) ?_
  have e101 : Ext w1 { w1 with drawn := w1.drawn + 1 } := Keep.drawn _ _
  generalize hw101 : ({ w1 with drawn := w1.drawn + 1 } : World) = w101 at e101 ⊢
  clear hw101
  have zs_e101 := e101.size
  replace E := E.trans (Ext.keep e101)
  replace HSr := HSr.ext e101
  replace HB1 := HB1.ext e101
  refine r_cut 8 rfl (by decide +kernel) (by decide +kernel) (by decide +kernel) ?_
  refine wp_regdW (NoK) (by decide +kernel) (by decide +kernel) ?_
  refine rt_v (fun vals w hR hd => v_fieldAddr (off := 0) (ft := 2) (by kernel_rfl) rfl) ?_
  refine rt_v (fun vals w hR hd => v_load (by kernel_rfl) (hd 0 rfl) (by first | exact (HB1.ext hR).pv 0 _ rfl | assumption)) ?_
  refine rt_v (fun vals w hR hd => v_conv (ds := .int .i64) (by kernel_rfl) (by kernel_rfl) (hd 1 rfl) (by first | exact wr_u64 (by omega) (by omega) | rfl)) ?_
  refine rt_to (fun v W => OwV tU8 nU8 W w1.heap.size NoK v (wNum n)) (fun v w w' h k => h.ext k) (fun vals w hR hd => to_f1 (by kernel_rfl) (hd 2 rfl) (CallsR.mono (refNumber_c (n := n) rfl (by omega)) fun v w1 ⟨h, _, e⟩ => ⟨e, h.base (by have := hR.size; omega)⟩)) ?_
  refine rt_v (fun vals w hR hd => v_fieldAddr (off := 1) (ft := 22) (by kernel_rfl) rfl) ?_
  refine rt_v (fun vals w hR hd => v_load (by kernel_rfl) (hd 4 rfl) (by first | exact (HB1.ext hR).pv 1 _ rfl | assumption)) ?_
  refine rt_v (fun vals w hR hd => v_len (et := 37) (by kernel_rfl) (hd 5 rfl)) ?_
  refine rt_v (fun vals w hR hd => v_conv (ds := .int .i64) (by kernel_rfl) (by kernel_rfl) (hd 6 rfl) (by first | exact wr_u64 (by omega) (by omega) | rfl)) ?_
  refine rt_nil (fun w102 e102 => ?_)
  rintro _ rfl _ rfl _ rfl v8 HO8 _ rfl _ rfl _ rfl _ rfl
  have zs_e102 := e102.size
  obtain ⟨a8, c8, rfl⟩ := HO8.shape
  have zo_HO8 := fun (b : Nat) h => HO8.own_lt (b := b) h
  replace E := E.trans (Ext.keep e102)
  replace HSr := HSr.ext e102
  replace HB1 := HB1.ext e102
  refine fin_nil ?_
  refine n_then ?_
  refine r_cut 1 rfl (by decide +kernel) (by decide +kernel) (by decide +kernel) ?_
  refine r_one (by decide +kernel) rfl ?_
  refine l_to (to_f1 (by kernel_rfl) (show _ = (Value.int _ _) from rfl) (CallsR.mono (refNumber_c (n := rs.length) rfl (by omega)) ?_))
  rintro _ w13 ⟨HO13, ⟨q13, c13, rfl⟩, e13⟩
  have zs_e13 := e13.size
  replace E := E.trans (Ext.keep e13)
  replace HSr := HSr.ext e13
  replace HB1 := HB1.ext e13
  replace HO8 := HO8.ext e13
  have zo_HO13 := fun (b : Nat) h => HO13.own_lt (b := b) h
  refine l_nil ?_
  refine n_then ?_
  refine r_cut 1 rfl (by decide +kernel) (by decide +kernel) (by decide +kernel) ?_
  refine r_one (by decide +kernel) rfl ?_
  have hn0 := wNum_len10 (n := n) (by omega)
  have hn1 := wNum_len10 (n := rs.length) (by omega)
  refine l_to (to_append (et := 5) (bytes := 1) (by kernel_rfl) (show _ = (Value.slice _ _ _) from rfl) HO8 (show _ = (Value.slice _ _ _) from rfl) HO13.view (flat_u8.to) (by first | omega | (simp; done) | (simp; omega)) (by simp only [maxLen]; first | omega | (simp; done) | (simp; omega)) (by omega) ?_)
  rintro a9 n9 c9 w9 HO9 hn9 k9 h9 i9
  have zs_k9 := k9.size
  subst hn9
  have hz : accW (n : Int) rs 0 = wNum n ++ wNum rs.length := by rw [accW_zero]; rfl
  rw [← hz] at HO9 ⊢
  replace E := E.step k9 (by intro i hi he; have he0 := he; have hi := hi; have he := he; (try dsimp only [NoK] at hi he ⊢); (try simp only [Value.ownBlock, Option.some.injEq] at he); first | exact he.elim | omega | exact he | (have := (HO8).own_lt he0; omega) | (have := zo_HO8 _ he0; omega) | (have := (HO8).own_lt he0; rcases hi with hi | hi <;> omega))
  replace HSr := HSr.keep k9 (by first | exact fun h => h | (intro h; have he0 := h; have h := h; (try dsimp only at h); (try simp only [Value.ownBlock, Option.some.injEq] at h); (try simp only [add_block] at h); (try simp only [add_block] at he0); first | omega | (have := (HO8).own_lt he0; omega) | (have := zo_HO8 _ he0; omega)) | (intro i _ hi he; have he0 := he; have hi := hi; have he := he; (try dsimp only [NoK, AllB] at hi he); (try simp only [Value.ownBlock, Option.some.injEq] at he); first | exact hi.elim | exact he.elim | omega | (rcases hi with hi | hi <;> omega) | (rcases he with he | he <;> omega) | (have := (HO8).own_lt he0; omega) | (have := zo_HO8 _ he0; omega) | (have := (HO8).own_lt he0; rcases hi with hi | hi <;> omega)))
  replace HB1 := HB1.keep k9 (by first | exact fun h => h | (intro h; have he0 := h; have h := h; (try dsimp only at h); (try simp only [Value.ownBlock, Option.some.injEq] at h); (try simp only [add_block] at h); (try simp only [add_block] at he0); first | omega | (have := (HO8).own_lt he0; omega) | (have := zo_HO8 _ he0; omega)) | (intro i _ hi he; have he0 := he; have hi := hi; have he := he; (try dsimp only [NoK, AllB] at hi he); (try simp only [Value.ownBlock, Option.some.injEq] at he); first | exact hi.elim | exact he.elim | omega | (rcases hi with hi | hi <;> omega) | (rcases he with he | he <;> omega) | (have := (HO8).own_lt he0; omega) | (have := zo_HO8 _ he0; omega) | (have := (HO8).own_lt he0; rcases hi with hi | hi <;> omega)))
  have zo_HO9 := fun (b : Nat) h => HO9.own_lt (b := b) h
  refine l_nil ?_
  refine n_then ?_
  refine r_one (by decide +kernel) rfl ?_
  refine l_v (v_assign (t := .slice _ _ _) rfl) ?_
  refine l_nil ?_
  refine n_then ?_
  refine c_seq ?_
  refine c_seq ?_
  refine wp_reg (by decide +kernel) ?_
  refine l_v (v_assign rfl) ?_
  refine l_nil ?_
  refine n_then ?_
  refine c_block ?_
  refine c_loop (τ := Option Addr × Nat × Nat) [3, 4, 15, 16, 17, 18, 19, 20, 21, 22, 23, 24, 25, 26, 27, 28, 29, 30, 31, 32, 33, 34, 35, 36, 37, 38, 39, 40] (fun (a1, c1, i) => [(3, .slice a1 (accW (n : Int) rs i).length c1), (4, .int .i64 i)]) (fun (a1, c1, i) W => Ext w W ∧ Keep (fun b => b1 < b) w9 W ∧ i ≤ rs.length ∧ OwV tU8 nU8 W w1.heap.size NoK (.slice a1 (accW (n : Int) rs i).length c1) (accW (n : Int) rs i)) (fun (a1, c1, i) => rs.length - i) (a9, c9, 0) (by exact ⟨rfl, rfl, trivial⟩) (by exact ⟨E, Keep.refl _, Nat.zero_le _, HO9⟩) ?_
  rintro ⟨a1, c1, i⟩ w103 j ⟨E, EL1, h1, HOx⟩
  have zs_EL1 := EL1.size
  replace HSr := HSr.keep EL1 (by first | exact fun h => h | (intro h; have he0 := h; have h := h; (try dsimp only at h); (try simp only [Value.ownBlock, Option.some.injEq] at h); (try simp only [add_block] at h); (try simp only [add_block] at he0); first | omega) | (intro i _ hi he; have he0 := he; have hi := hi; have he := he; (try dsimp only [NoK, AllB] at hi he); (try simp only [Value.ownBlock, Option.some.injEq] at he); first | exact hi.elim | exact he.elim | omega | (rcases hi with hi | hi <;> omega) | (rcases he with he | he <;> omega)))
  replace HB1 := HB1.keep EL1 (by first | exact fun h => h | (intro h; have he0 := h; have h := h; (try dsimp only at h); (try simp only [Value.ownBlock, Option.some.injEq] at h); (try simp only [add_block] at h); (try simp only [add_block] at he0); first | omega) | (intro i _ hi he; have he0 := he; have hi := hi; have he := he; (try dsimp only [NoK, AllB] at hi he); (try simp only [Value.ownBlock, Option.some.injEq] at he); first | exact hi.elim | exact he.elim | omega | (rcases hi with hi | hi <;> omega) | (rcases he with he | he <;> omega)))
  have zo_HOx := fun (b : Nat) h => HOx.own_lt (b := b) h
  refine c_seq ?_
  refine c_seq ?_
  refine wp_reg (by decide +kernel) ?_
  refine l_v (v_move (t := .int _ _) rfl) ?_
  refine l_v (v_fieldAddr (off := 1) (ft := 22) (by kernel_rfl) rfl) ?_
  refine l_v (v_load (by kernel_rfl) rfl (by first | exact HB1.pv 1 _ rfl | assumption)) ?_
  refine l_v (v_len (et := 37) (by kernel_rfl) rfl) ?_
  refine l_v (v_lss rfl rfl) ?_
  refine l_nil ?_
  refine n_then ?_
  refine c_cond rfl rfl (fun hlt => ?_) (fun hlt => ?_)
  · skip
    have hlt := dtrue hlt
    obtain ⟨r, hx, hdr⟩ := getE (l := rs) (i := i) (by omega)
    obtain ⟨hr1, _, hrg⟩ := hl r (List.mem_of_getElem? hx)
    have hrg := grpB_range hrg
    have hl0 := hal i
    have hl1 := wBytes_le (l := r.1) (by omega)
    have hl2 := wNum_len10 (n := r.2.2.2.toNat) (by omega)
    obtain ⟨q, cs, hq, hF, _, HPq, hr⟩ := HSr.el hx
    cases hq
    obtain ⟨b3, d3, b5, d5, rfl, HSf, _, hg⟩ := tRg_cells hr
    refine c_skip ?_
    refine n_then ?_
    refine c_seq ?_
    refine c_block ?_
    refine c_seq ?_
    refine wp_reg (by decide +kernel) ?_
    refine l_v (v_move (t := .slice _ _ _) rfl) ?_
    refine l_v (v_fieldAddr (off := 1) (ft := 22) (by kernel_rfl) rfl) ?_
    refine l_v (v_load (by kernel_rfl) rfl (by first | exact HPq 1 _ rfl | exact HB1.pv 1 _ rfl | assumption)) ?_
    refine l_v (v_move (t := .int _ _) rfl) ?_
    refine l_v (v_indexAddr (et := 37) (sz := 4) (k := i) (by kernel_rfl) (by kernel_rfl) rfl rfl (by first | rfl | omega) (by omega)) ?_
    refine l_v (v_fieldAddr (off := 0) (ft := 35) (by kernel_rfl) rfl) ?_
    refine l_v (v_load (by kernel_rfl) rfl (by first | exact HPq 0 _ rfl | exact HB1.pv 0 _ rfl | assumption)) ?_
    refine l_to (to_f1 (by kernel_rfl) (show _ = (Value.slice _ _ _) from rfl) (CallsR.mono (refBytes_c HSf (by omega)) ?_))
    rintro _ w29 ⟨HO29, ⟨q29, c29, rfl⟩, e29⟩
    have zs_e29 := e29.size
    replace E := E.trans (Ext.keep e29)
    replace HSr := HSr.ext e29
    replace HB1 := HB1.ext e29
    replace HOx := HOx.ext e29
    replace EL1 := EL1.trans (Ext.keep e29)
    replace HPq := HPq.ext e29
    replace HSf := HSf.ext e29
    have zo_HO29 := fun (b : Nat) h => HO29.own_lt (b := b) h
    refine l_to (to_append (et := 5) (bytes := 1) (by kernel_rfl) (show _ = (Value.slice _ _ _) from rfl) HOx (show _ = (Value.slice _ _ _) from rfl) HO29.view (flat_u8.to) (by first | omega | (simp; done) | (simp; omega)) (by simp only [maxLen]; first | omega | (simp; done) | (simp; omega)) (by omega) ?_)
    rintro a30 n30 c30 w30 HO30 hn30 k30 h30 i30
    have zs_k30 := k30.size
    subst hn30
    replace E := E.step k30 (by intro i hi he; have he0 := he; have hi := hi; have he := he; (try dsimp only [NoK] at hi he ⊢); (try simp only [Value.ownBlock, Option.some.injEq] at he); first | exact he.elim | omega | exact he | (have := (HOx).own_lt he0; omega) | (have := zo_HOx _ he0; omega) | (have := (HOx).own_lt he0; rcases hi with hi | hi <;> omega))
    replace HSr := HSr.keep k30 (by first | exact fun h => h | (intro h; have he0 := h; have h := h; (try dsimp only at h); (try simp only [Value.ownBlock, Option.some.injEq] at h); (try simp only [add_block] at h); (try simp only [add_block] at he0); first | omega | (have := (HOx).own_lt he0; omega) | (have := zo_HOx _ he0; omega)) | (intro i _ hi he; have he0 := he; have hi := hi; have he := he; (try dsimp only [NoK, AllB] at hi he); (try simp only [Value.ownBlock, Option.some.injEq] at he); first | exact hi.elim | exact he.elim | omega | (rcases hi with hi | hi <;> omega) | (rcases he with he | he <;> omega) | (have := (HOx).own_lt he0; omega) | (have := zo_HOx _ he0; omega) | (have := (HOx).own_lt he0; rcases hi with hi | hi <;> omega)))
    replace HB1 := HB1.keep k30 (by first | exact fun h => h | (intro h; have he0 := h; have h := h; (try dsimp only at h); (try simp only [Value.ownBlock, Option.some.injEq] at h); (try simp only [add_block] at h); (try simp only [add_block] at he0); first | omega | (have := (HOx).own_lt he0; omega) | (have := zo_HOx _ he0; omega)) | (intro i _ hi he; have he0 := he; have hi := hi; have he := he; (try dsimp only [NoK, AllB] at hi he); (try simp only [Value.ownBlock, Option.some.injEq] at he); first | exact hi.elim | exact he.elim | omega | (rcases hi with hi | hi <;> omega) | (rcases he with he | he <;> omega) | (have := (HOx).own_lt he0; omega) | (have := zo_HOx _ he0; omega) | (have := (HOx).own_lt he0; rcases hi with hi | hi <;> omega)))
    replace EL1 := EL1.step k30 (by intro i hi he; have he0 := he; have hi := hi; have he := he; (try dsimp only [NoK] at hi he ⊢); (try simp only [Value.ownBlock, Option.some.injEq] at he); first | exact he.elim | omega | exact he | (have := (HOx).own_lt he0; omega) | (have := zo_HOx _ he0; omega) | (have := (HOx).own_lt he0; rcases hi with hi | hi <;> omega))
    replace HPq := HPq.keep k30 (by first | exact fun h => h | (intro h; have he0 := h; have h := h; (try dsimp only at h); (try simp only [Value.ownBlock, Option.some.injEq] at h); (try simp only [add_block] at h); (try simp only [add_block] at he0); first | omega | (have := (HOx).own_lt he0; omega) | (have := zo_HOx _ he0; omega)) | (intro i _ hi he; have he0 := he; have hi := hi; have he := he; (try dsimp only [NoK, AllB] at hi he); (try simp only [Value.ownBlock, Option.some.injEq] at he); first | exact hi.elim | exact he.elim | omega | (rcases hi with hi | hi <;> omega) | (rcases he with he | he <;> omega) | (have := (HOx).own_lt he0; omega) | (have := zo_HOx _ he0; omega) | (have := (HOx).own_lt he0; rcases hi with hi | hi <;> omega)))
    have zo_HO30 := fun (b : Nat) h => HO30.own_lt (b := b) h
    refine l_v (v_assign (t := .slice _ _ _) rfl) ?_
    refine l_nil ?_
    refine n_then ?_
    refine wp_reg (by decide +kernel) ?_
    refine l_v (v_move (t := .slice _ _ _) rfl) ?_
    refine l_v (v_fieldAddr (off := 1) (ft := 22) (by kernel_rfl) rfl) ?_
    refine l_v (v_load (by kernel_rfl) rfl (by first | exact HPq 1 _ rfl | exact HB1.pv 1 _ rfl | assumption)) ?_
    refine l_v (v_move (t := .int _ _) rfl) ?_
    refine l_v (v_indexAddr (et := 37) (sz := 4) (k := i) (by kernel_rfl) (by kernel_rfl) rfl rfl (by first | rfl | omega) (by omega)) ?_
    refine l_v (v_fieldAddr (off := 3) (ft := 3) (by kernel_rfl) rfl) ?_
    refine l_v (v_load (by kernel_rfl) rfl (by first | exact HPq 3 _ rfl | exact HB1.pv 3 _ rfl | assumption)) ?_
    refine l_v (v_conv (ds := .int .i64) (by kernel_rfl) (by kernel_rfl) rfl (by first | exact wr_u64 (by omega) (by omega) | rfl)) ?_
    refine l_to (to_f1 (by kernel_rfl) (show _ = (Value.int _ _) from rfl) (CallsR.mono (refNumber_c (n := r.2.2.2.toNat) (by omega) (by omega)) ?_))
    rintro _ w39 ⟨HO39, ⟨q39, c39, rfl⟩, e39⟩
    have zs_e39 := e39.size
    replace E := E.trans (Ext.keep e39)
    replace HSr := HSr.ext e39
    replace HB1 := HB1.ext e39
    replace EL1 := EL1.trans (Ext.keep e39)
    replace HPq := HPq.ext e39
    replace HO30 := HO30.ext e39
    have zo_HO39 := fun (b : Nat) h => HO39.own_lt (b := b) h
    refine l_to (to_append (et := 5) (bytes := 1) (by kernel_rfl) (show _ = (Value.slice _ _ _) from rfl) HO30 (show _ = (Value.slice _ _ _) from rfl) HO39.view (flat_u8.to) (by first | omega | (simp; done) | (simp; omega)) (by simp only [maxLen]; first | omega | (simp; done) | (simp; omega)) (by omega) ?_)
    rintro a40 n40 c40 w40 HO40 hn40 k40 h40 i40
    have zs_k40 := k40.size
    subst hn40
    rw [← accW_succ hx] at HO40 ⊢
    replace E := E.step k40 (by intro i hi he; have he0 := he; have hi := hi; have he := he; (try dsimp only [NoK] at hi he ⊢); (try simp only [Value.ownBlock, Option.some.injEq] at he); first | exact he.elim | omega | exact he | (have := (HO30).own_lt he0; omega) | (have := zo_HO30 _ he0; omega) | (have := (HO30).own_lt he0; rcases hi with hi | hi <;> omega))
    replace HSr := HSr.keep k40 (by first | exact fun h => h | (intro h; have he0 := h; have h := h; (try dsimp only at h); (try simp only [Value.ownBlock, Option.some.injEq] at h); (try simp only [add_block] at h); (try simp only [add_block] at he0); first | omega | (have := (HO30).own_lt he0; omega) | (have := zo_HO30 _ he0; omega)) | (intro i _ hi he; have he0 := he; have hi := hi; have he := he; (try dsimp only [NoK, AllB] at hi he); (try simp only [Value.ownBlock, Option.some.injEq] at he); first | exact hi.elim | exact he.elim | omega | (rcases hi with hi | hi <;> omega) | (rcases he with he | he <;> omega) | (have := (HO30).own_lt he0; omega) | (have := zo_HO30 _ he0; omega) | (have := (HO30).own_lt he0; rcases hi with hi | hi <;> omega)))
    replace HB1 := HB1.keep k40 (by first | exact fun h => h | (intro h; have he0 := h; have h := h; (try dsimp only at h); (try simp only [Value.ownBlock, Option.some.injEq] at h); (try simp only [add_block] at h); (try simp only [add_block] at he0); first | omega | (have := (HO30).own_lt he0; omega) | (have := zo_HO30 _ he0; omega)) | (intro i _ hi he; have he0 := he; have hi := hi; have he := he; (try dsimp only [NoK, AllB] at hi he); (try simp only [Value.ownBlock, Option.some.injEq] at he); first | exact hi.elim | exact he.elim | omega | (rcases hi with hi | hi <;> omega) | (rcases he with he | he <;> omega) | (have := (HO30).own_lt he0; omega) | (have := zo_HO30 _ he0; omega) | (have := (HO30).own_lt he0; rcases hi with hi | hi <;> omega)))
    replace EL1 := EL1.step k40 (by intro i hi he; have he0 := he; have hi := hi; have he := he; (try dsimp only [NoK] at hi he ⊢); (try simp only [Value.ownBlock, Option.some.injEq] at he); first | exact he.elim | omega | exact he | (have := (HO30).own_lt he0; omega) | (have := zo_HO30 _ he0; omega) | (have := (HO30).own_lt he0; rcases hi with hi | hi <;> omega))
    replace HPq := HPq.keep k40 (by first | exact fun h => h | (intro h; have he0 := h; have h := h; (try dsimp only at h); (try simp only [Value.ownBlock, Option.some.injEq] at h); (try simp only [add_block] at h); (try simp only [add_block] at he0); first | omega | (have := (HO30).own_lt he0; omega) | (have := zo_HO30 _ he0; omega)) | (intro i _ hi he; have he0 := he; have hi := hi; have he := he; (try dsimp only [NoK, AllB] at hi he); (try simp only [Value.ownBlock, Option.some.injEq] at he); first | exact hi.elim | exact he.elim | omega | (rcases hi with hi | hi <;> omega) | (rcases he with he | he <;> omega) | (have := (HO30).own_lt he0; omega) | (have := zo_HO30 _ he0; omega) | (have := (HO30).own_lt he0; rcases hi with hi | hi <;> omega)))
    have zo_HO40 := fun (b : Nat) h => HO40.own_lt (b := b) h
    refine l_v (v_assign (t := .slice _ _ _) rfl) ?_
    refine l_nil ?_
    refine n_blk ?_
    refine n_then ?_
    refine wp_reg (by decide +kernel) ?_
    refine l_v (v_move (t := .int _ _) rfl) ?_
    refine l_v (v_add rfl rfl (by first | exact wr_i64 (by omega) (by omega) | rfl)) ?_
    refine l_v (v_assign (t := .int _ _) rfl) ?_
    refine l_nil ?_
    refine n_then ?_
    refine ⟨(a40, c40, i + 1), _, rfl, by (repeat (first | exact Off.of_over _ _ _ | refine Off.upd ?_ (by decide) _)), ⟨by first | rfl | exact congrArg (Value.int _) (by omega) | (simp; done), by first | rfl | exact congrArg (Value.int _) (by omega) | (simp; done), trivial⟩, ⟨E, EL1, ?_⟩, ?_⟩
    · skip
      exact ⟨by omega, HO40⟩
    · (dsimp only; omega)
  · skip
    have h2 := dfalse hlt
    have hend : accW (n : Int) rs i = mapW ((n : Int), rs) := accW_end (by omega)
    refine c_exit ?_
    refine x_then ?_
    refine x_then ?_
    refine x_hit ?_
    refine n_then ?_
    refine c_seq ?_
    refine wp_reg (by decide +kernel) ?_
    refine l_v (v_move (t := .slice _ _ _) rfl) ?_
    refine l_v (v_assign (t := .slice _ _ _) rfl) ?_
    refine l_nil ?_
    refine n_then ?_
    refine c_ret ?_
    refine ret1v rfl (by decide) (show _ = (Value.slice _ _ _) from rfl) ?_
    rw [hend] at HOx ⊢
    exact ⟨HOx.base (by omega), E⟩
theorem RangesWrites_c {w : World} {F : Nat → Prop} {v : Value} {e : Int} {rs : List RgV} (HG1 : AgV tMp w F v (e, rs)) : CallsR Try.prog 13 #[v] w (fun o w' => o = .bool true ∧ Ext w w') := by
  obtain ⟨a, c, rfl, HSr, he⟩ := HG1.mp
  simp only at HSr he
  refine enter 41 Try.func13 rfl rfl (by simp) ?_
  refine c_seq ?_
  have E := Keep.refl (K := NoK) w
  replace HG1 := HG1.all
  refine wp_reg (by decide +kernel) ?_
  refine l_to (to_box (show _ = (Value.agg _) from rfl) ?_)
  rintro b1 w1 zb1 HB1 e1 z1
  have zs_e1 := e1.size
  replace E := E.trans (Ext.keep e1)
  replace HG1 := HG1.ext e1
  try simp only [Value.cells] at HB1
  refine l_v (v_assign rfl) ?_
  refine l_nil ?_
  refine n_then ?_
  refine c_seq ?_
  refine c_seq ?_
  refine wp_reg (by decide +kernel) ?_
  refine l_v (v_loadA (by kernel_rfl) rfl (by first | exact HB1.pv | assumption) rfl) ?_
  refine l_to (to_f1 (by kernel_rfl) (show _ = (Value.agg _) from rfl) (CallsR.mono (much_c HG1) ?_))
  rintro _ w101 ⟨rfl, e101⟩
  have zs_e101 := e101.size
  replace E := E.trans (Ext.keep e101)
  replace HG1 := HG1.ext e101
  replace HB1 := HB1.ext e101
  refine l_nil ?_
  refine n_then ?_
  refine c_cond rfl rfl (fun hc => ?_) (fun hc => ?_)
  · skip
    refine c_seq ?_
    refine wp_reg (by decide +kernel) ?_
    refine l_to (to_f0 (by kernel_rfl) (CallsR.mono (known_c) ?_))
    rintro _ w102 ⟨rfl, e102⟩
    have zs_e102 := e102.size
    replace E := E.trans (Ext.keep e102)
    replace HG1 := HG1.ext e102
    replace HB1 := HB1.ext e102
    refine l_v (v_assign (t := .bool _) rfl) ?_
    refine l_nil ?_
    refine n_then ?_
    refine c_ret ?_
    refine r_then ?_
    refine ret1v rfl (by decide) (show _ = (Value.bool _) from rfl) ?_
    exact ⟨rfl, E⟩
  · skip
    refine c_skip ?_
    refine n_then ?_
    refine c_seq ?_
    refine wp_reg (by decide +kernel) ?_
    refine l_v (v_loadA (by kernel_rfl) rfl (by first | exact HB1.pv | assumption) rfl) ?_
    refine l_to (to_f1 (by kernel_rfl) (show _ = (Value.agg _) from rfl) (CallsR.mono (rBytes_c HG1) ?_))
    rintro _ w2 ⟨⟨x, rfl, HS2⟩, e2⟩
    have zs_e2 := e2.size
    replace HS2 := HS2.all
    obtain ⟨a2, c2, rfl⟩ := HS2.shape
    replace E := E.trans (Ext.keep e2)
    replace HG1 := HG1.ext e2
    replace HB1 := HB1.ext e2
    refine l_v (v_move (t := .tuple _) rfl) ?_
    refine l_v (v_extract (t := .slice _ _ _) rfl rfl) ?_
    refine l_v (v_extract (t := .int _ _) rfl rfl) ?_
    refine l_v (v_assign (t := .slice _ _ _) rfl) ?_
    refine l_v (v_assign (t := .int _ _) rfl) ?_
    refine l_nil ?_
    refine n_then ?_
    refine c_seq ?_
    refine c_seq ?_
    refine wp_reg (by decide +kernel) ?_
    refine l_v (v_loadA (by kernel_rfl) rfl (by first | exact HB1.pv | assumption) rfl) ?_
    refine l_to (to_f1 (by kernel_rfl) (show _ = (Value.agg _) from rfl) (CallsR.mono (refMay_c HG1) ?_))
    rintro _ w103 ⟨rfl, e103⟩
    have zs_e103 := e103.size
    replace E := E.trans (Ext.keep e103)
    replace HG1 := HG1.ext e103
    replace HB1 := HB1.ext e103
    replace HS2 := HS2.ext e103
    refine l_v (v_not rfl) ?_
    refine l_nil ?_
    refine n_then ?_
    refine c_cond rfl rfl (fun hm => ?_) (fun hm => ?_)
    · skip
      have hm2 : ¬ mayM (e, rs) = true := by revert hm; cases mayM (e, rs) <;> simp
      rw [if_neg hm2] at HS2
      rw [if_neg hm2, if_neg hm2]
      refine c_seq ?_
      refine wp_reg (by decide +kernel) ?_
      refine l_v (v_move (t := .slice _ _ _) rfl) ?_
      refine l_v (v_len (et := 5) (by kernel_rfl) rfl) ?_
      refine l_v (v_eql rfl rfl) ?_
      refine l_v (v_move (t := .bool _) rfl) ?_
      refine l_g1 rfl rfl (fun hG => v_move (t := .int _ _) rfl) ?_
      refine l_g1f rfl rfl (fun hG => to_f1 (by kernel_rfl) (gd hG rfl) (num_c)) ?_
      rintro w104 e104
      have zs_e104 := e104.size
      replace E := E.trans (Ext.keep e104)
      replace HG1 := HG1.ext e104
      replace HB1 := HB1.ext e104
      replace HS2 := HS2.ext e104
      refine l_g1 rfl rfl (fun hG => v_eql (gd hG rfl) rfl) ?_
      refine l_v (v_and rfl rfl) ?_
      refine l_v (v_move (t := .bool _) rfl) ?_
      refine l_g1f rfl rfl (fun hG => to_f0 (by kernel_rfl) (known_c)) ?_
      rintro w105 e105
      have zs_e105 := e105.size
      replace E := E.trans (Ext.keep e105)
      replace HG1 := HG1.ext e105
      replace HB1 := HB1.ext e105
      replace HS2 := HS2.ext e105
      refine l_v (v_and rfl rfl) ?_
      refine l_v (v_assign (t := .bool _) rfl) ?_
      refine l_nil ?_
      refine n_then ?_
      refine c_ret ?_
      refine r_then ?_
      refine ret1v rfl (by decide) (show _ = (Value.bool _) from rfl) ?_
      exact ⟨by simp, E⟩
    · skip
      have hm2 : mayM (e, rs) = true := by revert hm; cases mayM (e, rs) <;> simp
      rw [if_pos hm2] at HS2
      rw [if_pos hm2, if_pos hm2]
      refine c_skip ?_
      refine n_then ?_
      refine c_seq ?_
      refine wp_regd (NoK) (by kernel_rfl) (by decide +kernel) (by decide +kernel) ?_
      refine rt_v (fun vals w hR hd => v_move (t := .slice _ _ _) rfl) ?_
      refine rt_v (fun vals w hR hd => v_b2s (et := 5) (by kernel_rfl) (by kernel_rfl) (by kernel_rfl) (hd 0 rfl) (by first | exact (HS2.ext hR) | assumption)) ?_
      refine rt_v (fun vals w hR hd => v_loadA (by kernel_rfl) rfl (by first | exact (HB1.ext hR).pv | assumption) rfl) ?_
      refine rt_to (fun v W => Bv W AllB v (mapW (e, rs))) (fun v w w' h k => h.ext k) (fun vals w hR hd => to_f1 (by kernel_rfl) (hd 2 rfl) (CallsR.mono (refMBytes_c (HG1.ext hR) hm2) fun v w1 ⟨h, e⟩ => ⟨e, h.view.allB⟩)) ?_
      refine rt_v (fun vals w hR hd => v_b2s (et := 5) (by kernel_rfl) (by kernel_rfl) (by kernel_rfl) rfl (hd 3 rfl)) ?_
      refine rt_v (fun vals w hR hd => v_seq (hd 1 rfl) (hd 4 rfl)) ?_
      refine rt_v (fun vals w hR hd => v_move (t := .bool _) (hd 5 rfl)) ?_
      refine rt_g1 rfl (fun vals w hd => hd 6 rfl) (fun vals w hR hd hG => v_move (t := .int _ _) rfl) ?_
      refine rt_g1f rfl (fun vals w hd => hd 6 rfl) (fun vals w hR hd hG => to_f1 (by kernel_rfl) (gd hG (hd 7 rfl)) (num_c)) ?_
      refine rt_g1 rfl (fun vals w hd => hd 6 rfl) (fun vals w hR hd hG => v_eql (gd hG (hd 8 rfl)) rfl) ?_
      refine rt_v (fun vals w hR hd => v_and (hd 6 rfl) (hd 9 rfl)) ?_
      refine rt_v (fun vals w hR hd => v_move (t := .bool _) (hd 10 rfl)) ?_
      refine rt_g1f rfl (fun vals w hd => hd 11 rfl) (fun vals w hR hd hG => to_f0 (by kernel_rfl) (known_c)) ?_
      refine rt_v (fun vals w hR hd => v_and (hd 11 rfl) (hd 12 rfl)) ?_
      refine rt_v (fun vals w hR hd => v_assign (t := .bool _) (hd 13 rfl)) ?_
      refine rt_nil (fun w106 e106 => ?_)
      rintro _ rfl _ rfl _ rfl v30 HS30 _ rfl _ rfl _ rfl _ rfl _ rfl _ rfl _ rfl _ rfl _ rfl _ rfl _ rfl
      have zs_e106 := e106.size
      replace E := E.trans (Ext.keep e106)
      replace HG1 := HG1.ext e106
      replace HB1 := HB1.ext e106
      replace HS2 := HS2.ext e106
      refine fin_nil ?_
      refine n_then ?_
      refine c_ret ?_
      refine ret1v rfl (by decide) (show _ = (Value.bool _) from rfl) ?_
      exact ⟨by simp, E⟩
end Go.Proofs.Ytkaangdfpjkjpaa
