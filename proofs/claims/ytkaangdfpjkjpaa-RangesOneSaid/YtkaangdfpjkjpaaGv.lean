/- A part of the proof: steps and lemmas for the walks through the given program. -/
import Derived.Test.YtkaangdfpjkjpaaGu
import Derived.Test.YtkaangdfpjkjpaaGt
import Derived.Test.YtkaangdfpjkjpaaGd
namespace Go.Proofs.Ytkaangdfpjkjpaa
open Go.Vc
set_option linter.unusedVariables false
set_option linter.unusedSimpArgs false
set_option maxRecDepth 100000

/-- a range's bytes, a map's -/
def spR (x : RgV) : List UInt8 := wBytes x.1 ++ wNum x.2.2.2.toNat
def mapW (m : MpV) : List UInt8 := wNum m.1.toNat ++ wList spR m.2
theorem putR_c {w : World} {v : Value} {F : Nat → Prop} {xs : List (RgV)} {fr : Nat} {cap : Array Value} (hv : SlV (tRg) w F v xs) (hb : kBody Try.prog fr = true) (sp : RgV → List UInt8)
    (hform : ∀ (w1 : World) (cs : List Value) (x : RgV), Ext w w1 → (tRg).rep w1 F cs x → x ∈ xs → CallsR Try.prog fr (#[.agg cs.toArray] ++ cap) w1 (fun r w2 => OwV tU8 nU8 w2 w1.heap.size NoK r (sp x) ∧ Ext w1 w2))
    (hl : (wList sp xs).length ≤ 140737488355300) (hn : xs.length ≤ 5000000000000) :
    CallsR Try.prog 68 #[v, .func (.func fr) #[] cap] w (fun r w' => ∃ q c, r = .tuple #[.slice (some q) (wList sp xs).length c, .int .i64 0] ∧ OwV tU8 nU8 w' w.heap.size NoK (.slice (some q) (wList sp xs).length c) (wList sp xs) ∧ Ext w w') := by
  obtain ⟨a, c, rfl⟩ := hv.shape
  obtain ⟨w0, rfl⟩ : ∃ x, x = w := ⟨w, rfl⟩
  refine enter 32 Try.func68 rfl rfl (by simp) ?_
  refine c_seq ?_
  refine wp_reg (by decide +kernel) ?_
  refine l_v (v_assign rfl) ?_
  refine l_v (v_assign rfl) ?_
  refine l_nil ?_
  refine n_then ?_
  refine c_seq ?_
  refine c_seq ?_
  refine wp_reg (by decide +kernel) ?_
  refine l_v (v_move (t := .func _ _ _) rfl) ?_
  refine l_v (v_feqlnil (ps := #[37]) (rs := #[35]) (v := false) (by kernel_rfl) rfl rfl) ?_
  refine l_nil ?_
  refine n_then ?_
  refine c_cond rfl rfl (fun hc => ?_) (fun hc => ?_)
  · skip
    cases hc
  · skip
    refine c_skip ?_
    refine n_then ?_
    refine c_seq ?_
    refine wp_reg (by decide +kernel) ?_
    refine l_v (v_move (t := .slice _ _ _) rfl) ?_
    refine l_v (v_len (et := 37) (by kernel_rfl) rfl) ?_
    refine l_v (v_conv (ds := .int .i64) (by kernel_rfl) (by kernel_rfl) rfl (by first | exact wr_u64 (by omega) (by omega) | rfl)) ?_
    refine l_to (to_f1 (by kernel_rfl) (show _ = (Value.int _ _) from rfl) (CallsR.mono (Number_c (n := xs.length) (by omega)) ?_))
    rintro _ w1 ⟨o1, ⟨q1, c1, rfl⟩, e1⟩
    have zs_e1 := e1.size
    refine l_to (to_slice1 (t := tSl tU8) (et := 35) (bytes := 24) (by kernel_rfl) (by decide) (show _ = (Value.slice _ _ _) from rfl) ((show (tSl tU8).rep _ _ [_] _ from ⟨_, rfl, o1.view⟩)) ?_)
    rintro b2 w2 rfl o2 e2 z2
    have zs_e2 := e2.size
    refine l_v (v_assign (t := .slice _ _ _) rfl) ?_
    refine l_nil ?_
    refine n_then ?_
    refine c_seq ?_
    refine c_seq ?_
    refine wp_reg (by decide +kernel) ?_
    refine l_v (v_move (t := .slice _ _ _) rfl) ?_
    refine l_v (v_len (et := 37) (by kernel_rfl) rfl) ?_
    refine l_v (v_move rfl) ?_
    refine l_nil ?_
    refine n_then ?_
    refine c_block ?_
    refine c_loop (τ := Option Addr × Nat × Nat) [6, 7, 17, 18, 19, 20, 21, 22, 23, 24, 25, 26, 27, 28, 29] (fun (a1, c1, k) => [(6, .slice a1 (k + 1) c1), (17, .int .i64 k)]) (fun (a1, c1, k) w => OwV (tSl tU8) nSl w w0.heap.size (fun b => w0.heap.size ≤ b) (.slice a1 (k + 1) c1) (wNum xs.length :: (xs.take k).map sp) ∧ Ext w0 w ∧ k ≤ xs.length) (fun (a1, c1, k) => xs.length - k) (some ⟨w1.heap.size, 0, none⟩, 1, 0) (by exact ⟨rfl, rfl, trivial⟩) (by exact ⟨(o2.base (by omega)).mono (fun b _ h => by rcases h.1 with h | h; exact h; exact h.elim), e1.trans e2, Nat.zero_le _⟩) ?_
    rintro ⟨a1, c1, k⟩ w3 j ⟨o3, e3, h3⟩
    refine c_seq ?_
    refine wp_reg (by decide +kernel) ?_
    refine l_v (v_lss rfl rfl) ?_
    refine l_nil ?_
    refine n_then ?_
    refine c_seq ?_
    refine c_cond rfl rfl (fun hc2 => ?_) (fun hc2 => ?_)
    · skip
      have hc2 := dtrue hc2
      have zs_e3 := e3.size
      obtain ⟨x, hx⟩ : ∃ x, xs[k]? = some x := ⟨xs[k]'(by omega), by simp [show k < xs.length by omega]⟩
      have hlk : (wNum xs.length :: (xs.take k).map sp).length = k + 1 := by simp; omega
      refine c_skip ?_
      refine n_then ?_
      refine c_seq ?_
      refine c_block ?_
      refine c_seq ?_
      refine wp_reg (by decide +kernel) ?_
      refine l_v (v_move (t := .int _ _) rfl) ?_
      refine l_v (v_assign (t := .int _ _) rfl) ?_
      refine l_nil ?_
      refine n_then ?_
      refine wp_reg (by decide +kernel) ?_
      refine l_v (v_move (t := .slice _ _ _) rfl) ?_
      refine l_v (v_move (t := .func _ _ _) rfl) ?_
      refine l_v (v_move (t := .slice _ _ _) rfl) ?_
      refine l_v (v_move (t := .int _ _) rfl) ?_
      refine l_to (to_index (et := 37) (by kernel_rfl) (by kernel_rfl) (show _ = (Value.slice _ _ _) from rfl) (hv.ext e3) (show _ = (Value.int _ _) from rfl) rfl hx ?_)
      rintro q cs hF hp hr
      skip
      refine l_v (v_loadA (n := 4) (by kernel_rfl) rfl hp (tRg.len hr)) ?_
      refine l_to (to_call1 hb rfl (show _ = (Value.agg _) from rfl) (CallsR.mono ((hform w3 _ x e3 hr (List.mem_of_getElem? hx))) ?_))
      rintro _ w4 ⟨o4, e4⟩
      have zs_e4 := e4.size
      obtain ⟨a4, c4, rfl⟩ := o4.shape
      refine l_to (to_slice1 (t := tSl tU8) (et := 35) (bytes := 24) (by kernel_rfl) (by decide) (show _ = (Value.slice _ _ _) from rfl) ((show (tSl tU8).rep _ _ [_] _ from ⟨_, rfl, o4.view⟩)) ?_)
      rintro b5 w5 rfl o5 e5 z5
      have zs_e5 := e5.size
      refine l_to (to_append (et := 35) (bytes := 24) (by kernel_rfl) (show _ = (Value.slice _ _ _) from rfl) (o3.ext (e4.trans e5)) (show _ = (Value.slice _ _ _) from rfl) o5.view ((OwV_sep o3 (by intro b hb; simp only [NoK, or_false] at hb; omega) (by omega))) (by first | omega | (simp; done) | (simp; omega)) (by simp only [maxLen]; first | omega | (simp; done) | (simp; omega)) (by omega) ?_)
      rintro a6 n6 c6 w6 o6 hn6 k6 b6 i6
      have zs_k6 := k6.size
      have hlk2 : ((wNum xs.length :: (xs.take k).map sp) ++ [sp x]).length = k + 1 + 1 := by simp; omega
      rw [hlk2] at hn6
      subst hn6
      have e6 : Ext w0 w6 := ((e3.trans e4).trans e5).step k6 fun b hb h => by have := (o3.own_lt h).1; omega
      have htk : (xs.take (k + 1)).map sp = (xs.take k).map sp ++ [sp x] := by rw [List.take_add_one, hx]; simp
      refine l_v (v_assign (t := .slice _ _ _) rfl) ?_
      refine l_nil ?_
      refine n_blk ?_
      refine n_then ?_
      refine wp_reg (by decide +kernel) ?_
      refine l_v (v_add rfl rfl (by first | exact wr_i64 (by omega) (by omega) | rfl)) ?_
      refine l_v (v_move (t := .int _ _) rfl) ?_
      refine l_nil ?_
      refine n_then ?_
      refine ⟨(a6, c6, k + 1), _, rfl, by (repeat (first | exact Off.of_over _ _ _ | refine Off.upd ?_ (by decide) _)), ⟨by first | rfl | exact congrArg (Value.int _) (by omega) | (simp; done), by first | rfl | exact congrArg (Value.int _) (by omega) | (simp; done), trivial⟩, ?_, ?_⟩
      · exact ⟨by rw [htk]; exact o6, e6, by omega⟩
      · dsimp only; omega
    · skip
      have hc2 := dfalse hc2
      obtain rfl : k = xs.length := by omega
      rw [List.take_length] at o3
      have zs_e3 := e3.size
      refine c_exit ?_
      refine x_then ?_
      refine x_then ?_
      refine x_hit ?_
      refine n_then ?_
      refine c_seq ?_
      refine wp_reg (by decide +kernel) ?_
      refine l_v (v_move (t := .slice _ _ _) rfl) ?_
      refine l_to (to_f1 (by kernel_rfl) (show _ = (Value.slice _ _ _) from rfl) (CallsR.mono (Join_c o3.view (by simpa [wList] using hl)) ?_))
      rintro _ w4 ⟨o4, ⟨q4, c4, rfl⟩, e4⟩
      have zs_e4 := e4.size
      refine l_v (v_assign (t := .slice _ _ _) rfl) ?_
      refine l_v (v_assign rfl) ?_
      refine l_nil ?_
      refine n_then ?_
      refine c_ret ?_
      refine ret2 rfl (by decide) (by decide) ?_
      have hfl : (wNum xs.length :: xs.map sp).flatten = wList sp xs := by simp [wList]
      rw [hfl] at o4 ⊢
      exact ⟨q4, c4, rfl, o4.base (by omega), e3.trans e4⟩


theorem Bytes1_c {w : World} {F : Nat → Prop} {cs : List Value} {x : RgV} (hr : tRg.rep w F cs x) (hl : x.1.length ≤ 1000) (h0 : 0 ≤ x.2.2.2) : CallsR Try.prog 69 (#[.agg cs.toArray] ++ #[]) w (fun r w2 => OwV tU8 nU8 w2 w.heap.size NoK r (spR x) ∧ Ext w w2) := by
  obtain ⟨fr, t, en, g⟩ := x
  obtain ⟨a1, c1, a2, c2, rfl, HS1, _, hg⟩ := tRg_cells hr
  simp only at hl h0 hg HS1
  obtain ⟨n, rfl⟩ := Int.eq_ofNat_of_zero_le h0
  have hwl := wNum_len10 (n := n) (by omega)
  have hwb : (wBytes fr).length ≤ fr.length + 10 := by have := wNum_len10 (n := fr.length) (by omega); rw [wBytes, List.length_append]; omega
  show CallsR _ _ #[_] _ _
  refine enter 12 Try.func69 rfl rfl (by simp) ?_
  refine c_seq ?_
  have E := Keep.refl (K := NoK) w
  replace HS1 := HS1.all
  refine wp_reg (by decide +kernel) ?_
  refine l_to (to_box (show _ = (Value.agg _) from rfl) ?_)
  rintro b1 w1 zb1 HB1 e1 z1
  have zs_e1 := e1.size
  replace E := E.trans (Ext.keep e1)
  replace HS1 := HS1.ext e1
  try simp only [Value.cells] at HB1
  refine l_v (v_assign rfl) ?_
  refine l_nil ?_
  refine n_then ?_
  refine c_seq ?_
  refine wp_any (by kernel_rfl) ?_
  have e101 : Ext w1 { w1 with drawn := w1.drawn + 1 } := Keep.drawn _ _
  generalize hw101 : ({ w1 with drawn := w1.drawn + 1 } : World) = w101 at e101 ⊢
  clear hw101
  have zs_e101 := e101.size
  replace E := E.trans (Ext.keep e101)
  replace HS1 := HS1.ext e101
  replace HB1 := HB1.ext e101
  refine r_cut 6 rfl (by decide +kernel) (by decide +kernel) (by decide +kernel) ?_
  refine wp_regdW (NoK) (by decide +kernel) (by decide +kernel) ?_
  refine rt_v (fun vals w hR hd => v_fieldAddr (off := 0) (ft := 35) (by kernel_rfl) rfl) ?_
  refine rt_v (fun vals w hR hd => v_load (by kernel_rfl) (hd 0 rfl) (by first | exact (HB1.ext hR).pv 0 _ rfl | assumption)) ?_
  refine rt_to (fun v W => Bv W AllB v (wBytes fr)) (fun v w w' h k => h.ext k) (fun vals w hR hd => to_f1 (by kernel_rfl) (hd 1 rfl) (CallsR.mono (Bytes_c (HS1.ext hR) (by omega)) fun v w1 ⟨h, _, e⟩ => ⟨e, h.view.allB⟩)) ?_
  refine rt_v (fun vals w hR hd => v_fieldAddr (off := 3) (ft := 3) (by kernel_rfl) rfl) ?_
  refine rt_v (fun vals w hR hd => v_load (by kernel_rfl) (hd 3 rfl) (by first | exact (HB1.ext hR).pv 3 _ rfl | assumption)) ?_
  refine rt_v (fun vals w hR hd => v_conv (ds := .int .i64) (by kernel_rfl) (by kernel_rfl) (hd 4 rfl) (by first | exact wr_u64 (by omega) (by omega) | rfl)) ?_
  refine rt_nil (fun w102 e102 => ?_)
  rintro _ rfl _ rfl v5 HS5 _ rfl _ rfl _ rfl
  have zs_e102 := e102.size
  obtain ⟨a5, d5, rfl⟩ := HS5.shape
  replace E := E.trans (Ext.keep e102)
  replace HS1 := HS1.ext e102
  replace HB1 := HB1.ext e102
  refine fin_nil ?_
  refine n_then ?_
  refine r_cut 1 rfl (by decide +kernel) (by decide +kernel) (by decide +kernel) ?_
  refine r_one (by decide +kernel) rfl ?_
  refine l_to (to_f1 (by kernel_rfl) (show _ = (Value.int _ _) from rfl) (CallsR.mono (Number_c (n := n) (by omega)) ?_))
  rintro _ w9 ⟨HO9, ⟨q9, c9, rfl⟩, e9⟩
  have zs_e9 := e9.size
  replace E := E.trans (Ext.keep e9)
  replace HS1 := HS1.ext e9
  replace HB1 := HB1.ext e9
  replace HS5 := HS5.ext e9
  have zo_HO9 := fun (b : Nat) h => HO9.own_lt (b := b) h
  refine l_nil ?_
  refine n_then ?_
  refine r_cut 1 rfl (by decide +kernel) (by decide +kernel) (by decide +kernel) ?_
  refine r_one (by decide +kernel) rfl ?_
  refine l_to (to_sliceN (t := tSl tU8) (xs := [wBytes fr, wNum n]) (et := 35) (bytes := 24) (zl := [.slice none 0 0, .slice none 0 0]) (by kernel_rfl) (by decide) (by decide) (by unfold kZeros; kernel_rfl) rfl (cells := [_, _]) rfl rfl rfl ((reps2 (t := tSl tU8) (c1 := [_]) (c2 := [_]) ⟨_, rfl, HS5⟩ ⟨_, rfl, HO9.view.allB⟩)) ?_)
  rintro b10 w10 zb10 HO10 e10 z10
  have zs_e10 := e10.size
  replace E := E.trans (Ext.keep e10)
  replace HS1 := HS1.ext e10
  replace HB1 := HB1.ext e10
  replace HS5 := HS5.ext e10
  replace HO9 := HO9.ext e10
  have zo_HO10 := fun (b : Nat) h => HO10.own_lt (b := b) h
  refine l_nil ?_
  refine n_then ?_
  refine r_cut 1 rfl (by decide +kernel) (by decide +kernel) (by decide +kernel) ?_
  refine r_one (by decide +kernel) rfl ?_
  refine l_to (to_f1 (by kernel_rfl) (show _ = (Value.slice _ _ _) from rfl) (CallsR.mono (Join_c HO10.view (by simp; omega)) ?_))
  rintro _ w11 ⟨HO11, ⟨q11, c11, rfl⟩, e11⟩
  have zs_e11 := e11.size
  replace E := E.trans (Ext.keep e11)
  replace HS1 := HS1.ext e11
  replace HB1 := HB1.ext e11
  replace HS5 := HS5.ext e11
  replace HO9 := HO9.ext e11
  replace HO10 := HO10.ext e11
  have zo_HO11 := fun (b : Nat) h => HO11.own_lt (b := b) h
  refine l_nil ?_
  refine n_then ?_
  refine r_one (by decide +kernel) rfl ?_
  refine l_v (v_assign (t := .slice _ _ _) rfl) ?_
  refine l_nil ?_
  refine n_then ?_
  refine c_ret ?_
  refine ret1v rfl (by decide) (show _ = (Value.slice _ _ _) from rfl) ?_
  refine ⟨?_, E⟩
  have h : [wBytes fr, wNum n].flatten = spR (fr, t, en, (n : Int)) := by simp [spR]
  rw [h] at HO11 ⊢
  exact HO11.base (by omega)
theorem wBytes_le {l : List UInt8} (h : l.length ≤ 100000) : (wBytes l).length ≤ l.length + 10 := by have := wNum_len10 (n := l.length) (by omega); rw [wBytes, List.length_append]; omega
theorem spR_le {r : RgV} (h : r.1.length ≤ 24) (h2 : r.2.2.2 < 5) : (spR r).length ≤ 44 := by
  have h1 := wBytes_le (l := r.1) (by omega)
  have h3 := wNum_len10 (n := r.2.2.2.toNat) (by omega)
  rw [spR, List.length_append]; omega
theorem mapW_le {e : Int} {rs : List RgV} (hm : mayM (e, rs) = true) : (wList spR rs).length ≤ 714 ∧ (mapW (e, rs)).length ≤ 724 := by
  obtain ⟨hp1, hp2, _, hp4, _, _⟩ := mayM_parts hm
  have hl := mayM_lens hm
  simp only at hp1 hp2 hp4 hl
  have h1 := flat_le (sp := spR) (k := 44) rs fun r hr => spR_le (hl r hr).1 (grpB_range (hl r hr).2.2).2
  have h2 := wNum_len10 (n := rs.length) (by omega)
  have h3 := wNum_len10 (n := e.toNat) (by omega)
  have h4 : (wList spR rs).length ≤ 714 := by rw [wList, List.length_append]; omega
  refine ⟨h4, ?_⟩
  show (wNum e.toNat ++ wList spR rs).length ≤ 724
  rw [List.length_append]; omega
theorem rBytes_c {w : World} {F : Nat → Prop} {v : Value} {e : Int} {rs : List RgV} (HG1 : AgV tMp w F v (e, rs)) : CallsR Try.prog 41 #[v] w (fun o w' => (∃ x, o = .tuple #[x, .int .i64 (if mayM (e, rs) = true then 0 else 2)] ∧ Bv w' (fun b => w.heap.size ≤ b) x (if mayM (e, rs) = true then mapW (e, rs) else [])) ∧ Ext w w') := by
  obtain ⟨a, c, rfl, HSr, he⟩ := HG1.mp
  simp only at HSr he
  refine enter 22 Try.func41 rfl rfl (by simp) ?_
  refine c_seq ?_
  have E := Keep.refl (K := NoK) w
  replace HG1 := HG1.all
  replace HSr := HSr.all
  refine wp_reg (by decide +kernel) ?_
  refine l_to (to_box (show _ = (Value.agg _) from rfl) ?_)
  rintro b1 w1 zb1 HB1 e1 z1
  have zs_e1 := e1.size
  replace E := E.trans (Ext.keep e1)
  replace HG1 := HG1.ext e1
  replace HSr := HSr.ext e1
  try simp only [Value.cells] at HB1
  refine l_v (v_assign rfl) ?_
  refine l_v (v_assign rfl) ?_
  refine l_nil ?_
  refine n_then ?_
  refine c_seq ?_
  refine c_seq ?_
  refine wp_reg (by decide +kernel) ?_
  refine l_v (v_loadA (by kernel_rfl) rfl (by first | exact HB1.pv | assumption) rfl) ?_
  refine l_to (to_f1 (by kernel_rfl) (show _ = (Value.agg _) from rfl) (CallsR.mono (May_c HG1) ?_))
  rintro _ w101 ⟨rfl, e101⟩
  have zs_e101 := e101.size
  replace E := E.trans (Ext.keep e101)
  replace HG1 := HG1.ext e101
  replace HSr := HSr.ext e101
  replace HB1 := HB1.ext e101
  refine l_v (v_not rfl) ?_
  refine l_nil ?_
  refine n_then ?_
  refine c_cond rfl rfl (fun hc => ?_) (fun hc => ?_)
  · skip
    refine c_seq ?_
    refine wp_reg (by decide +kernel) ?_
    refine l_v (v_assign rfl) ?_
    refine l_v (v_assign rfl) ?_
    refine l_nil ?_
    refine n_then ?_
    refine c_ret ?_
    refine r_then ?_
    refine ret2v rfl (by decide) (by decide) (show _ = (Value.slice _ _ _) from rfl) (show _ = (Value.int _ _) from rfl) ?_
    have hm : ¬ mayM (e, rs) = true := by revert hc; cases mayM (e, rs) <;> simp
    rw [if_neg hm, if_neg hm]
    exact ⟨⟨_, rfl, SlV.nil _ _ _⟩, E⟩
  · skip
    have hm : mayM (e, rs) = true := by revert hc; cases mayM (e, rs) <;> simp
    obtain ⟨hp1, hp2, _, hp4, _, _⟩ := mayM_parts hm
    have hl := mayM_lens hm
    simp only at hp1 hp2 hp4 hl
    obtain ⟨hw1, hw2⟩ := mapW_le hm
    obtain ⟨n, rfl⟩ := Int.eq_ofNat_of_zero_le (show 0 ≤ e by omega)
    refine c_skip ?_
    refine n_then ?_
    refine c_seq ?_
    refine wp_reg (by decide +kernel) ?_
    refine l_v (v_fieldAddr (off := 1) (ft := 22) (by kernel_rfl) rfl) ?_
    refine l_v (v_load (by kernel_rfl) rfl (by first | exact HB1.pv 1 _ rfl | assumption)) ?_
    refine l_to (to_f2 (by kernel_rfl) (show _ = (Value.slice _ _ _) from rfl) rfl (CallsR.mono (putR_c (cap := #[]) HSr (by kernel_rfl) spR (fun w1 cs x e1 hr hx => Bytes1_c hr (by have := (hl x hx).1; omega) (by have := (grpB_range (hl x hx).2.2).1; omega)) (by omega) (by omega)) ?_))
    rintro _ w2 ⟨q2, c2, rfl, HO2, e2⟩
    have zs_e2 := e2.size
    replace E := E.trans (Ext.keep e2)
    replace HG1 := HG1.ext e2
    replace HSr := HSr.ext e2
    replace HB1 := HB1.ext e2
    have zo_HO2 := fun (b : Nat) h => HO2.own_lt (b := b) h
    refine l_v (v_move (t := .tuple _) rfl) ?_
    refine l_v (v_extract (t := .slice _ _ _) rfl rfl) ?_
    refine l_v (v_extract (t := .int _ _) rfl rfl) ?_
    refine l_v (v_assign (t := .slice _ _ _) rfl) ?_
    refine l_v (v_assign (t := .int _ _) rfl) ?_
    refine l_nil ?_
    refine n_then ?_
    refine c_seq ?_
    refine wp_reg (by decide +kernel) ?_
    refine l_v (v_fieldAddr (off := 0) (ft := 2) (by kernel_rfl) rfl) ?_
    refine l_v (v_load (by kernel_rfl) rfl (by first | exact HB1.pv 0 _ rfl | assumption)) ?_
    refine l_v (v_conv (ds := .int .i64) (by kernel_rfl) (by kernel_rfl) rfl (by first | exact wr_u64 (by omega) (by omega) | rfl)) ?_
    refine l_to (to_f1 (by kernel_rfl) (show _ = (Value.int _ _) from rfl) (CallsR.mono (Number_c (n := n) (by omega)) ?_))
    rintro _ w3 ⟨HO3, ⟨q3, c3, rfl⟩, e3⟩
    have zs_e3 := e3.size
    replace E := E.trans (Ext.keep e3)
    replace HG1 := HG1.ext e3
    replace HSr := HSr.ext e3
    replace HB1 := HB1.ext e3
    replace HO2 := HO2.ext e3
    have zo_HO3 := fun (b : Nat) h => HO3.own_lt (b := b) h
    refine l_v (v_move (t := .slice _ _ _) rfl) ?_
    refine l_to (to_sliceN (t := tSl tU8) (xs := [wNum n, wList spR rs]) (et := 35) (bytes := 24) (zl := [.slice none 0 0, .slice none 0 0]) (by kernel_rfl) (by decide) (by decide) (by unfold kZeros; kernel_rfl) rfl (cells := [_, _]) rfl rfl rfl ((reps2 (t := tSl tU8) (c1 := [_]) (c2 := [_]) ⟨_, rfl, HO3.view.allB⟩ ⟨_, rfl, HO2.view.allB⟩)) ?_)
    rintro b10 w10 zb10 HO10 e10 z10
    have zs_e10 := e10.size
    replace E := E.trans (Ext.keep e10)
    replace HG1 := HG1.ext e10
    replace HSr := HSr.ext e10
    replace HB1 := HB1.ext e10
    replace HO2 := HO2.ext e10
    replace HO3 := HO3.ext e10
    have zo_HO10 := fun (b : Nat) h => HO10.own_lt (b := b) h
    refine l_to (to_f1 (by kernel_rfl) (show _ = (Value.slice _ _ _) from rfl) (CallsR.mono (Join_c HO10.view (by have h := hw2; rw [mapW] at h; simp only [Int.toNat_natCast] at h; simp only [List.flatten_cons, List.flatten_nil, List.append_nil]; omega)) ?_))
    rintro _ w11 ⟨HO11, ⟨q11, c11, rfl⟩, e11⟩
    have zs_e11 := e11.size
    replace E := E.trans (Ext.keep e11)
    replace HG1 := HG1.ext e11
    replace HSr := HSr.ext e11
    replace HB1 := HB1.ext e11
    replace HO2 := HO2.ext e11
    replace HO3 := HO3.ext e11
    replace HO10 := HO10.ext e11
    have zo_HO11 := fun (b : Nat) h => HO11.own_lt (b := b) h
    refine l_v (v_assign (t := .slice _ _ _) rfl) ?_
    refine l_v (v_assign rfl) ?_
    refine l_nil ?_
    refine n_then ?_
    refine c_ret ?_
    refine ret2v rfl (by decide) (by decide) (show _ = (Value.slice _ _ _) from rfl) (show _ = (Value.int _ _) from rfl) ?_
    rw [if_pos hm, if_pos hm]
    have h : [wNum n, wList spR rs].flatten = mapW ((n : Int), rs) := by simp [mapW]
    rw [h] at HO11 ⊢
    exact ⟨⟨_, rfl, HO11.view.mono fun b _ hb => hb.elim (fun h => by omega) (fun h => h.elim)⟩, E⟩
def accW (e : Int) (rs : List RgV) (i : Nat) : List UInt8 := wNum e.toNat ++ wNum rs.length ++ ((rs.take i).map spR).flatten
theorem accW_zero (e : Int) (rs : List RgV) : accW e rs 0 = wNum e.toNat ++ wNum rs.length := by simp [accW]
theorem accW_succ {e : Int} {rs : List RgV} {i : Nat} {r : RgV} (hx : rs[i]? = some r) : accW e rs (i + 1) = accW e rs i ++ wBytes r.1 ++ wNum r.2.2.2.toNat := by
  rw [accW, accW, List.take_add_one, hx]; simp [spR]
theorem accW_end {e : Int} {rs : List RgV} {i : Nat} (h : rs.length ≤ i) : accW e rs i = mapW (e, rs) := by
  rw [accW, List.take_of_length_le h, mapW, wList]; simp
theorem accW_le {e : Int} {rs : List RgV} {i : Nat} (hm : mayM (e, rs) = true) : (accW e rs i).length ≤ 724 := by
  have h1 := (mapW_le hm).2
  have h2 := accW_end (e := e) (rs := rs) (i := i + rs.length) (by omega)
  have h3 : (accW e rs i).length ≤ (accW e rs (i + rs.length)).length := by
    have h4 : ∃ z, accW e rs (i + rs.length) = accW e rs i ++ z := by
      have h5 : rs.take (i + rs.length) = rs.take i ++ (rs.take (i + rs.length)).drop i := by
        conv => lhs; rw [← List.take_append_drop i (rs.take (i + rs.length)), List.take_take, Nat.min_eq_left (by omega)]
      obtain ⟨z, hz⟩ : ∃ z, rs.take (i + rs.length) = rs.take i ++ z := ⟨_, h5⟩
      exact ⟨(z.map spR).flatten, by rw [accW, hz, accW]; simp⟩
    obtain ⟨z, hz⟩ := h4
    rw [hz, List.length_append]; omega
  rw [h2] at h3; omega
theorem refMBytes_c {w : World} {F : Nat → Prop} {v : Value} {e : Int} {rs : List RgV} (HG1 : AgV tMp w F v (e, rs)) (hm : mayM (e, rs) = true) : CallsR Try.prog 42 #[v] w (fun r w' => OwV tU8 nU8 w' w.heap.size NoK r (mapW (e, rs)) ∧ Ext w w') := by
  obtain ⟨a, c, rfl, HSr, he⟩ := HG1.mp
  obtain ⟨hp1, hp2, _, hp4, _, _⟩ := mayM_parts hm
  have hl := mayM_lens hm
  simp only at hp1 hp2 hp4 hl HSr he
  have hal := fun i => accW_le (i := i) hm
  obtain ⟨n, rfl⟩ := Int.eq_ofNat_of_zero_le (show 0 ≤ e by omega)
  refine enter 42 Try.func42 rfl rfl (by simp) ?_
  refine c_seq ?_
  have E := Keep.refl (K := NoK) w
  replace HSr := HSr.all
  refine wp_reg (by decide +kernel) ?_
  refine l_to (to_box (show _ = (Value.agg _) from rfl) ?_)
  rintro b1 w1 zb1 HB1 e1 z1
  have zs_e1 := e1.size
  replace E := E.trans (Ext.keep e1)
  replace HSr := HSr.ext e1
  try simp only [Value.cells] at HB1
  refine l_v (v_assign rfl) ?_
  refine l_nil ?_
  refine n_then ?_
  refine c_seq ?_
  refine wp_any (by kernel_rfl) ?_
  have e101 : Ext w1 { w1 with drawn := w1.drawn + 1 } := Keep.drawn _ _
  generalize hw101 : ({ w1 with drawn := w1.drawn + 1 } : World) = w101 at e101 ⊢
  clear hw101
  have zs_e101 := e101.size
  replace E := E.trans (Ext.keep e101)
  replace HSr := HSr.ext e101
  replace HB1 := HB1.ext e101
  refine r_cut 8 rfl (by decide +kernel) (by decide +kernel) (by decide +kernel) ?_
  refine wp_regdW (NoK) (by decide +kernel) (by decide +kernel) ?_
  refine rt_v (fun vals w hR hd => v_fieldAddr (off := 0) (ft := 2) (by kernel_rfl) rfl) ?_
  refine rt_v (fun vals w hR hd => v_load (by kernel_rfl) (hd 0 rfl) (by first | exact (HB1.ext hR).pv 0 _ rfl | assumption)) ?_
  refine rt_v (fun vals w hR hd => v_conv (ds := .int .i64) (by kernel_rfl) (by kernel_rfl) (hd 1 rfl) (by first | exact wr_u64 (by omega) (by omega) | rfl)) ?_
  refine rt_to (fun v W => OwV tU8 nU8 W w1.heap.size NoK v (wNum n)) (fun v w w' h k => h.ext k) (fun vals w hR hd => to_f1 (by kernel_rfl) (hd 2 rfl) (CallsR.mono (refNumber_c (n := n) rfl (by omega)) fun v w1 ⟨h, _, e⟩ => ⟨e, h.base (by have := hR.size; omega)⟩)) ?_
  refine rt_v (fun vals w hR hd => v_fieldAddr (off := 1) (ft := 22) (by kernel_rfl) rfl) ?_
  refine rt_v (fun vals w hR hd => v_load (by kernel_rfl) (hd 4 rfl) (by first | exact (HB1.ext hR).pv 1 _ rfl | assumption)) ?_
  refine rt_v (fun vals w hR hd => v_len (et := 37) (by kernel_rfl) (hd 5 rfl)) ?_
  refine rt_v (fun vals w hR hd => v_conv (ds := .int .i64) (by kernel_rfl) (by kernel_rfl) (hd 6 rfl) (by first | exact wr_u64 (by omega) (by omega) | rfl)) ?_
  refine rt_nil (fun w102 e102 => ?_)
  rintro _ rfl _ rfl _ rfl v8 HO8 _ rfl _ rfl _ rfl _ rfl
  have zs_e102 := e102.size
  obtain ⟨a8, c8, rfl⟩ := HO8.shape
  have zo_HO8 := fun (b : Nat) h => HO8.own_lt (b := b) h
  replace E := E.trans (Ext.keep e102)
  replace HSr := HSr.ext e102
  replace HB1 := HB1.ext e102
  refine fin_nil ?_
  refine n_then ?_
  refine r_cut 1 rfl (by decide +kernel) (by decide +kernel) (by decide +kernel) ?_
  refine r_one (by decide +kernel) rfl ?_
  refine l_to (to_f1 (by kernel_rfl) (show _ = (Value.int _ _) from rfl) (CallsR.mono (refNumber_c (n := rs.length) rfl (by omega)) ?_))
  rintro _ w13 ⟨HO13, ⟨q13, c13, rfl⟩, e13⟩
  have zs_e13 := e13.size
  replace E := E.trans (Ext.keep e13)
  replace HSr := HSr.ext e13
  replace HB1 := HB1.ext e13
  replace HO8 := HO8.ext e13
  have zo_HO13 := fun (b : Nat) h => HO13.own_lt (b := b) h
  refine l_nil ?_
  refine n_then ?_
  refine r_cut 1 rfl (by decide +kernel) (by decide +kernel) (by decide +kernel) ?_
  refine r_one (by decide +kernel) rfl ?_
  have hn0 := wNum_len10 (n := n) (by omega)
  have hn1 := wNum_len10 (n := rs.length) (by omega)
  refine l_to (to_append (et := 5) (bytes := 1) (by kernel_rfl) (show _ = (Value.slice _ _ _) from rfl) HO8 (show _ = (Value.slice _ _ _) from rfl) HO13.view (flat_u8.to) (by first | omega | (simp; done) | (simp; omega)) (by simp only [maxLen]; first | omega | (simp; done) | (simp; omega)) (by omega) ?_)
  rintro a9 n9 c9 w9 HO9 hn9 k9 h9 i9
  have zs_k9 := k9.size
  subst hn9
  have hz : accW (n : Int) rs 0 = wNum n ++ wNum rs.length := by rw [accW_zero]; rfl
  rw [← hz] at HO9 ⊢
  replace E := E.step k9 (by intro i hi he; have he0 := he; (try dsimp only [NoK] at hi he ⊢); (try simp only [Value.ownBlock, Option.some.injEq] at he); first | exact he.elim | omega | exact he | (have := (HO8).own_lt he0; omega) | (have := zo_HO8 _ he0; omega) | (have := (HO8).own_lt he0; rcases hi with hi | hi <;> omega))
  replace HSr := HSr.keep k9 (by intro i _ hi he; have he0 := he; (try dsimp only [NoK, AllB] at hi he); (try simp only [Value.ownBlock, Option.some.injEq] at he); first | exact hi.elim | exact he.elim | omega | (rcases hi with hi | hi <;> omega) | (rcases he with he | he <;> omega) | (have := (HO8).own_lt he0; omega) | (have := zo_HO8 _ he0; omega) | (have := (HO8).own_lt he0; rcases hi with hi | hi <;> omega))
  replace HB1 := HB1.keep k9 (by intro h; have he0 := h; (try dsimp only at h); (try simp only [Value.ownBlock, Option.some.injEq] at h); first | omega | (have := (HO8).own_lt he0; omega) | (have := zo_HO8 _ he0; omega))
  have zo_HO9 := fun (b : Nat) h => HO9.own_lt (b := b) h
  refine l_nil ?_
  refine n_then ?_
  refine r_one (by decide +kernel) rfl ?_
  refine l_v (v_assign (t := .slice _ _ _) rfl) ?_
  refine l_nil ?_
  refine n_then ?_
  refine c_seq ?_
  refine c_seq ?_
  refine wp_reg (by decide +kernel) ?_
  refine l_v (v_assign rfl) ?_
  refine l_nil ?_
  refine n_then ?_
  refine c_block ?_
  refine c_loop (τ := Option Addr × Nat × Nat) [3, 4, 15, 16, 17, 18, 19, 20, 21, 22, 23, 24, 25, 26, 27, 28, 29, 30, 31, 32, 33, 34, 35, 36, 37, 38, 39, 40] (fun (a1, c1, i) => [(3, .slice a1 (accW (n : Int) rs i).length c1), (4, .int .i64 i)]) (fun (a1, c1, i) W => Ext w W ∧ Keep (fun b => b1 < b) w9 W ∧ i ≤ rs.length ∧ OwV tU8 nU8 W w1.heap.size NoK (.slice a1 (accW (n : Int) rs i).length c1) (accW (n : Int) rs i)) (fun (a1, c1, i) => rs.length - i) (a9, c9, 0) (by exact ⟨rfl, rfl, trivial⟩) (by exact ⟨E, Keep.refl _, Nat.zero_le _, HO9⟩) ?_
  rintro ⟨a1, c1, i⟩ w103 j ⟨E, EL1, h1, HOx⟩
  have zs_EL1 := EL1.size
  replace HSr := HSr.keep EL1 (by intro i _ hi he; (try dsimp only [NoK, AllB] at hi he); first | exact hi.elim | exact he.elim | omega | (rcases hi with hi | hi <;> omega) | (rcases he with he | he <;> omega))
  replace HB1 := HB1.keep EL1 (by intro h; (try dsimp only at h); first | omega)
  have zo_HOx := fun (b : Nat) h => HOx.own_lt (b := b) h
  refine c_seq ?_
  refine c_seq ?_
  refine wp_reg (by decide +kernel) ?_
  refine l_v (v_move (t := .int _ _) rfl) ?_
  refine l_v (v_fieldAddr (off := 1) (ft := 22) (by kernel_rfl) rfl) ?_
  refine l_v (v_load (by kernel_rfl) rfl (by first | exact HB1.pv 1 _ rfl | assumption)) ?_
  refine l_v (v_len (et := 37) (by kernel_rfl) rfl) ?_
  refine l_v (v_lss rfl rfl) ?_
  refine l_nil ?_
  refine n_then ?_
  refine c_cond rfl rfl (fun hlt => ?_) (fun hlt => ?_)
  · skip
    have hlt := dtrue hlt
    obtain ⟨r, hx, hdr⟩ := getE (l := rs) (i := i) (by omega)
    obtain ⟨hr1, _, hrg⟩ := hl r (List.mem_of_getElem? hx)
    have hrg := grpB_range hrg
    have hl0 := hal i
    have hl1 := wBytes_le (l := r.1) (by omega)
    have hl2 := wNum_len10 (n := r.2.2.2.toNat) (by omega)
    obtain ⟨q, cs, hq, hF, _, HPq, hr⟩ := HSr.el hx
    cases hq
    obtain ⟨b3, d3, b5, d5, rfl, HSf, _, hg⟩ := tRg_cells hr
    refine c_skip ?_
    refine n_then ?_
    refine c_seq ?_
    refine c_block ?_
    refine c_seq ?_
    refine wp_reg (by decide +kernel) ?_
    refine l_v (v_move (t := .slice _ _ _) rfl) ?_
    refine l_v (v_fieldAddr (off := 1) (ft := 22) (by kernel_rfl) rfl) ?_
    refine l_v (v_load (by kernel_rfl) rfl (by first | exact HPq 1 _ rfl | exact HB1.pv 1 _ rfl | assumption)) ?_
    refine l_v (v_move (t := .int _ _) rfl) ?_
    refine l_v (v_indexAddr (et := 37) (sz := 4) (k := i) (by kernel_rfl) (by kernel_rfl) rfl rfl (by first | rfl | omega) (by omega)) ?_
    refine l_v (v_fieldAddr (off := 0) (ft := 35) (by kernel_rfl) rfl) ?_
    refine l_v (v_load (by kernel_rfl) rfl (by first | exact HPq 0 _ rfl | exact HB1.pv 0 _ rfl | assumption)) ?_
    refine l_to (to_f1 (by kernel_rfl) (show _ = (Value.slice _ _ _) from rfl) (CallsR.mono (refBytes_c HSf (by omega)) ?_))
    rintro _ w29 ⟨HO29, ⟨q29, c29, rfl⟩, e29⟩
    have zs_e29 := e29.size
    replace E := E.trans (Ext.keep e29)
    replace HSr := HSr.ext e29
    replace HB1 := HB1.ext e29
    replace HOx := HOx.ext e29
    replace EL1 := EL1.trans (Ext.keep e29)
    replace HPq := HPq.ext e29
    replace HSf := HSf.ext e29
    have zo_HO29 := fun (b : Nat) h => HO29.own_lt (b := b) h
    refine l_to (to_append (et := 5) (bytes := 1) (by kernel_rfl) (show _ = (Value.slice _ _ _) from rfl) HOx (show _ = (Value.slice _ _ _) from rfl) HO29.view (flat_u8.to) (by first | omega | (simp; done) | (simp; omega)) (by simp only [maxLen]; first | omega | (simp; done) | (simp; omega)) (by omega) ?_)
    rintro a30 n30 c30 w30 HO30 hn30 k30 h30 i30
    have zs_k30 := k30.size
    subst hn30
    replace E := E.step k30 (by intro i hi he; have he0 := he; (try dsimp only [NoK] at hi he ⊢); (try simp only [Value.ownBlock, Option.some.injEq] at he); first | exact he.elim | omega | exact he | (have := (HOx).own_lt he0; omega) | (have := zo_HOx _ he0; omega) | (have := (HOx).own_lt he0; rcases hi with hi | hi <;> omega))
    replace HSr := HSr.keep k30 (by intro i _ hi he; have he0 := he; (try dsimp only [NoK, AllB] at hi he); (try simp only [Value.ownBlock, Option.some.injEq] at he); first | exact hi.elim | exact he.elim | omega | (rcases hi with hi | hi <;> omega) | (rcases he with he | he <;> omega) | (have := (HOx).own_lt he0; omega) | (have := zo_HOx _ he0; omega) | (have := (HOx).own_lt he0; rcases hi with hi | hi <;> omega))
    replace HB1 := HB1.keep k30 (by intro h; have he0 := h; (try dsimp only at h); (try simp only [Value.ownBlock, Option.some.injEq] at h); first | omega | (have := (HOx).own_lt he0; omega) | (have := zo_HOx _ he0; omega))
    replace EL1 := EL1.step k30 (by intro i hi he; have he0 := he; (try dsimp only [NoK] at hi he ⊢); (try simp only [Value.ownBlock, Option.some.injEq] at he); first | exact he.elim | omega | exact he | (have := (HOx).own_lt he0; omega) | (have := zo_HOx _ he0; omega) | (have := (HOx).own_lt he0; rcases hi with hi | hi <;> omega))
    replace HPq := HPq.keep k30 (by intro h; have he0 := h; (try dsimp only at h); (try simp only [Value.ownBlock, Option.some.injEq] at h); (try simp only [add_block] at h); (try simp only [add_block] at he0); first | omega | (have := (HOx).own_lt he0; omega) | (have := zo_HOx _ he0; omega))
    have zo_HO30 := fun (b : Nat) h => HO30.own_lt (b := b) h
    refine l_v (v_assign (t := .slice _ _ _) rfl) ?_
    refine l_nil ?_
    refine n_then ?_
    refine wp_reg (by decide +kernel) ?_
    refine l_v (v_move (t := .slice _ _ _) rfl) ?_
    refine l_v (v_fieldAddr (off := 1) (ft := 22) (by kernel_rfl) rfl) ?_
    refine l_v (v_load (by kernel_rfl) rfl (by first | exact HPq 1 _ rfl | exact HB1.pv 1 _ rfl | assumption)) ?_
    refine l_v (v_move (t := .int _ _) rfl) ?_
    refine l_v (v_indexAddr (et := 37) (sz := 4) (k := i) (by kernel_rfl) (by kernel_rfl) rfl rfl (by first | rfl | omega) (by omega)) ?_
    refine l_v (v_fieldAddr (off := 3) (ft := 3) (by kernel_rfl) rfl) ?_
    refine l_v (v_load (by kernel_rfl) rfl (by first | exact HPq 3 _ rfl | exact HB1.pv 3 _ rfl | assumption)) ?_
    refine l_v (v_conv (ds := .int .i64) (by kernel_rfl) (by kernel_rfl) rfl (by first | exact wr_u64 (by omega) (by omega) | rfl)) ?_
    refine l_to (to_f1 (by kernel_rfl) (show _ = (Value.int _ _) from rfl) (CallsR.mono (refNumber_c (n := r.2.2.2.toNat) (by omega) (by omega)) ?_))
    rintro _ w39 ⟨HO39, ⟨q39, c39, rfl⟩, e39⟩
    have zs_e39 := e39.size
    replace E := E.trans (Ext.keep e39)
    replace HSr := HSr.ext e39
    replace HB1 := HB1.ext e39
    replace EL1 := EL1.trans (Ext.keep e39)
    replace HPq := HPq.ext e39
    replace HO30 := HO30.ext e39
    have zo_HO39 := fun (b : Nat) h => HO39.own_lt (b := b) h
    refine l_to (to_append (et := 5) (bytes := 1) (by kernel_rfl) (show _ = (Value.slice _ _ _) from rfl) HO30 (show _ = (Value.slice _ _ _) from rfl) HO39.view (flat_u8.to) (by first | omega | (simp; done) | (simp; omega)) (by simp only [maxLen]; first | omega | (simp; done) | (simp; omega)) (by omega) ?_)
    rintro a40 n40 c40 w40 HO40 hn40 k40 h40 i40
    have zs_k40 := k40.size
    subst hn40
    rw [← accW_succ hx] at HO40 ⊢
    replace E := E.step k40 (by intro i hi he; have he0 := he; (try dsimp only [NoK] at hi he ⊢); (try simp only [Value.ownBlock, Option.some.injEq] at he); first | exact he.elim | omega | exact he | (have := (HO30).own_lt he0; omega) | (have := zo_HO30 _ he0; omega) | (have := (HO30).own_lt he0; rcases hi with hi | hi <;> omega))
    replace HSr := HSr.keep k40 (by intro i _ hi he; have he0 := he; (try dsimp only [NoK, AllB] at hi he); (try simp only [Value.ownBlock, Option.some.injEq] at he); first | exact hi.elim | exact he.elim | omega | (rcases hi with hi | hi <;> omega) | (rcases he with he | he <;> omega) | (have := (HO30).own_lt he0; omega) | (have := zo_HO30 _ he0; omega) | (have := (HO30).own_lt he0; rcases hi with hi | hi <;> omega))
    replace HB1 := HB1.keep k40 (by intro h; have he0 := h; (try dsimp only at h); (try simp only [Value.ownBlock, Option.some.injEq] at h); first | omega | (have := (HO30).own_lt he0; omega) | (have := zo_HO30 _ he0; omega))
    replace EL1 := EL1.step k40 (by intro i hi he; have he0 := he; (try dsimp only [NoK] at hi he ⊢); (try simp only [Value.ownBlock, Option.some.injEq] at he); first | exact he.elim | omega | exact he | (have := (HO30).own_lt he0; omega) | (have := zo_HO30 _ he0; omega) | (have := (HO30).own_lt he0; rcases hi with hi | hi <;> omega))
    replace HPq := HPq.keep k40 (by intro h; have he0 := h; (try dsimp only at h); (try simp only [Value.ownBlock, Option.some.injEq] at h); (try simp only [add_block] at h); (try simp only [add_block] at he0); first | omega | (have := (HO30).own_lt he0; omega) | (have := zo_HO30 _ he0; omega))
    have zo_HO40 := fun (b : Nat) h => HO40.own_lt (b := b) h
    refine l_v (v_assign (t := .slice _ _ _) rfl) ?_
    refine l_nil ?_
    refine n_blk ?_
    refine n_then ?_
    refine wp_reg (by decide +kernel) ?_
    refine l_v (v_move (t := .int _ _) rfl) ?_
    refine l_v (v_add rfl rfl (by first | exact wr_i64 (by omega) (by omega) | rfl)) ?_
    refine l_v (v_assign (t := .int _ _) rfl) ?_
    refine l_nil ?_
    refine n_then ?_
    refine ⟨(a40, c40, i + 1), _, rfl, by (repeat (first | exact Off.of_over _ _ _ | refine Off.upd ?_ (by decide) _)), ⟨by first | rfl | exact congrArg (Value.int _) (by omega) | (simp; done), by first | rfl | exact congrArg (Value.int _) (by omega) | (simp; done), trivial⟩, ⟨E, EL1, ?_⟩, ?_⟩
    · skip
      exact ⟨by omega, HO40⟩
    · (dsimp only; omega)
  · skip
    have h2 := dfalse hlt
    have hend : accW (n : Int) rs i = mapW ((n : Int), rs) := accW_end (by omega)
    refine c_exit ?_
    refine x_then ?_
    refine x_then ?_
    refine x_hit ?_
    refine n_then ?_
    refine c_seq ?_
    refine wp_reg (by decide +kernel) ?_
    refine l_v (v_move (t := .slice _ _ _) rfl) ?_
    refine l_v (v_assign (t := .slice _ _ _) rfl) ?_
    refine l_nil ?_
    refine n_then ?_
    refine c_ret ?_
    refine ret1v rfl (by decide) (show _ = (Value.slice _ _ _) from rfl) ?_
    rw [hend] at HOx ⊢
    exact ⟨HOx.base (by omega), E⟩
theorem RangesWrites_c {w : World} {F : Nat → Prop} {v : Value} {e : Int} {rs : List RgV} (HG1 : AgV tMp w F v (e, rs)) : CallsR Try.prog 13 #[v] w (fun o w' => o = .bool true ∧ Ext w w') := by
  obtain ⟨a, c, rfl, HSr, he⟩ := HG1.mp
  simp only at HSr he
  refine enter 41 Try.func13 rfl rfl (by simp) ?_
  refine c_seq ?_
  have E := Keep.refl (K := NoK) w
  replace HG1 := HG1.all
  refine wp_reg (by decide +kernel) ?_
  refine l_to (to_box (show _ = (Value.agg _) from rfl) ?_)
  rintro b1 w1 zb1 HB1 e1 z1
  have zs_e1 := e1.size
  replace E := E.trans (Ext.keep e1)
  replace HG1 := HG1.ext e1
  try simp only [Value.cells] at HB1
  refine l_v (v_assign rfl) ?_
  refine l_nil ?_
  refine n_then ?_
  refine c_seq ?_
  refine c_seq ?_
  refine wp_reg (by decide +kernel) ?_
  refine l_v (v_loadA (by kernel_rfl) rfl (by first | exact HB1.pv | assumption) rfl) ?_
  refine l_to (to_f1 (by kernel_rfl) (show _ = (Value.agg _) from rfl) (CallsR.mono (much_c HG1) ?_))
  rintro _ w101 ⟨rfl, e101⟩
  have zs_e101 := e101.size
  replace E := E.trans (Ext.keep e101)
  replace HG1 := HG1.ext e101
  replace HB1 := HB1.ext e101
  refine l_nil ?_
  refine n_then ?_
  refine c_cond rfl rfl (fun hc => ?_) (fun hc => ?_)
  · skip
    refine c_seq ?_
    refine wp_reg (by decide +kernel) ?_
    refine l_to (to_f0 (by kernel_rfl) (CallsR.mono (known_c) ?_))
    rintro _ w102 ⟨rfl, e102⟩
    have zs_e102 := e102.size
    replace E := E.trans (Ext.keep e102)
    replace HG1 := HG1.ext e102
    replace HB1 := HB1.ext e102
    refine l_v (v_assign (t := .bool _) rfl) ?_
    refine l_nil ?_
    refine n_then ?_
    refine c_ret ?_
    refine r_then ?_
    refine ret1v rfl (by decide) (show _ = (Value.bool _) from rfl) ?_
    exact ⟨rfl, E⟩
  · skip
    refine c_skip ?_
    refine n_then ?_
    refine c_seq ?_
    refine wp_reg (by decide +kernel) ?_
    refine l_v (v_loadA (by kernel_rfl) rfl (by first | exact HB1.pv | assumption) rfl) ?_
    refine l_to (to_f1 (by kernel_rfl) (show _ = (Value.agg _) from rfl) (CallsR.mono (rBytes_c HG1) ?_))
    rintro _ w2 ⟨⟨x, rfl, HS2⟩, e2⟩
    have zs_e2 := e2.size
    replace HS2 := HS2.all
    obtain ⟨a2, c2, rfl⟩ := HS2.shape
    replace E := E.trans (Ext.keep e2)
    replace HG1 := HG1.ext e2
    replace HB1 := HB1.ext e2
    refine l_v (v_move (t := .tuple _) rfl) ?_
    refine l_v (v_extract (t := .slice _ _ _) rfl rfl) ?_
    refine l_v (v_extract (t := .int _ _) rfl rfl) ?_
    refine l_v (v_assign (t := .slice _ _ _) rfl) ?_
    refine l_v (v_assign (t := .int _ _) rfl) ?_
    refine l_nil ?_
    refine n_then ?_
    refine c_seq ?_
    refine c_seq ?_
    refine wp_reg (by decide +kernel) ?_
    refine l_v (v_loadA (by kernel_rfl) rfl (by first | exact HB1.pv | assumption) rfl) ?_
    refine l_to (to_f1 (by kernel_rfl) (show _ = (Value.agg _) from rfl) (CallsR.mono (refMay_c HG1) ?_))
    rintro _ w103 ⟨rfl, e103⟩
    have zs_e103 := e103.size
    replace E := E.trans (Ext.keep e103)
    replace HG1 := HG1.ext e103
    replace HB1 := HB1.ext e103
    replace HS2 := HS2.ext e103
    refine l_v (v_not rfl) ?_
    refine l_nil ?_
    refine n_then ?_
    refine c_cond rfl rfl (fun hm => ?_) (fun hm => ?_)
    · skip
      have hm2 : ¬ mayM (e, rs) = true := by revert hm; cases mayM (e, rs) <;> simp
      rw [if_neg hm2] at HS2
      rw [if_neg hm2, if_neg hm2]
      refine c_seq ?_
      refine wp_reg (by decide +kernel) ?_
      refine l_v (v_move (t := .slice _ _ _) rfl) ?_
      refine l_v (v_len (et := 5) (by kernel_rfl) rfl) ?_
      refine l_v (v_eql rfl rfl) ?_
      refine l_v (v_move (t := .bool _) rfl) ?_
      refine l_g1 rfl rfl (fun hG => v_move (t := .int _ _) rfl) ?_
      refine l_g1f rfl rfl (fun hG => to_f1 (by kernel_rfl) (gd hG rfl) (num_c)) ?_
      rintro w104 e104
      have zs_e104 := e104.size
      replace E := E.trans (Ext.keep e104)
      replace HG1 := HG1.ext e104
      replace HB1 := HB1.ext e104
      replace HS2 := HS2.ext e104
      refine l_g1 rfl rfl (fun hG => v_eql (gd hG rfl) rfl) ?_
      refine l_v (v_and rfl rfl) ?_
      refine l_v (v_move (t := .bool _) rfl) ?_
      refine l_g1f rfl rfl (fun hG => to_f0 (by kernel_rfl) (known_c)) ?_
      rintro w105 e105
      have zs_e105 := e105.size
      replace E := E.trans (Ext.keep e105)
      replace HG1 := HG1.ext e105
      replace HB1 := HB1.ext e105
      replace HS2 := HS2.ext e105
      refine l_v (v_and rfl rfl) ?_
      refine l_v (v_assign (t := .bool _) rfl) ?_
      refine l_nil ?_
      refine n_then ?_
      refine c_ret ?_
      refine r_then ?_
      refine ret1v rfl (by decide) (show _ = (Value.bool _) from rfl) ?_
      exact ⟨by simp, E⟩
    · skip
      have hm2 : mayM (e, rs) = true := by revert hm; cases mayM (e, rs) <;> simp
      rw [if_pos hm2] at HS2
      rw [if_pos hm2, if_pos hm2]
      refine c_skip ?_
      refine n_then ?_
      refine c_seq ?_
      refine wp_regd (NoK) (by kernel_rfl) (by decide +kernel) (by decide +kernel) ?_
      refine rt_v (fun vals w hR hd => v_move (t := .slice _ _ _) rfl) ?_
      refine rt_v (fun vals w hR hd => v_b2s (et := 5) (by kernel_rfl) (by kernel_rfl) (by kernel_rfl) (hd 0 rfl) (by first | exact (HS2.ext hR) | assumption)) ?_
      refine rt_v (fun vals w hR hd => v_loadA (by kernel_rfl) rfl (by first | exact (HB1.ext hR).pv | assumption) rfl) ?_
      refine rt_to (fun v W => Bv W AllB v (mapW (e, rs))) (fun v w w' h k => h.ext k) (fun vals w hR hd => to_f1 (by kernel_rfl) (hd 2 rfl) (CallsR.mono (refMBytes_c (HG1.ext hR) hm2) fun v w1 ⟨h, e⟩ => ⟨e, h.view.allB⟩)) ?_
      refine rt_v (fun vals w hR hd => v_b2s (et := 5) (by kernel_rfl) (by kernel_rfl) (by kernel_rfl) rfl (hd 3 rfl)) ?_
      refine rt_v (fun vals w hR hd => v_seq (hd 1 rfl) (hd 4 rfl)) ?_
      refine rt_v (fun vals w hR hd => v_move (t := .bool _) (hd 5 rfl)) ?_
      refine rt_g1 rfl (fun vals w hd => hd 6 rfl) (fun vals w hR hd hG => v_move (t := .int _ _) rfl) ?_
      refine rt_g1f rfl (fun vals w hd => hd 6 rfl) (fun vals w hR hd hG => to_f1 (by kernel_rfl) (gd hG (hd 7 rfl)) (num_c)) ?_
      refine rt_g1 rfl (fun vals w hd => hd 6 rfl) (fun vals w hR hd hG => v_eql (gd hG (hd 8 rfl)) rfl) ?_
      refine rt_v (fun vals w hR hd => v_and (hd 6 rfl) (hd 9 rfl)) ?_
      refine rt_v (fun vals w hR hd => v_move (t := .bool _) (hd 10 rfl)) ?_
      refine rt_g1f rfl (fun vals w hd => hd 11 rfl) (fun vals w hR hd hG => to_f0 (by kernel_rfl) (known_c)) ?_
      refine rt_v (fun vals w hR hd => v_and (hd 11 rfl) (hd 12 rfl)) ?_
      refine rt_v (fun vals w hR hd => v_assign (t := .bool _) (hd 13 rfl)) ?_
      refine rt_nil (fun w106 e106 => ?_)
      rintro _ rfl _ rfl _ rfl v30 HS30 _ rfl _ rfl _ rfl _ rfl _ rfl _ rfl _ rfl _ rfl _ rfl _ rfl _ rfl
      have zs_e106 := e106.size
      replace E := E.trans (Ext.keep e106)
      replace HG1 := HG1.ext e106
      replace HB1 := HB1.ext e106
      replace HS2 := HS2.ext e106
      refine fin_nil ?_
      refine n_then ?_
      refine c_ret ?_
      refine ret1v rfl (by decide) (show _ = (Value.bool _) from rfl) ?_
      exact ⟨by simp, E⟩
end Go.Proofs.Ytkaangdfpjkjpaa

namespace Go.Proofs.Ytkaangdfpjkjpaa
open Go.Vc
set_option linter.unusedVariables false
set_option linter.unusedSimpArgs false
set_option maxRecDepth 100000

/-- reading a range -/
def rdR (l : List UInt8) : Except Int (RgV × List UInt8) := match rdBytes 24 l with
  | .error _ => .error 4
  | .ok (fr, l1) => match rdNum l1 with
    | none => .error 4
    | some (n, l2) => if n < 5 then .ok ((fr, [], false, (n : Int)), l2) else .error 4
theorem rdBytes_le {m : Nat} {l : List UInt8} {x : List UInt8} {r : List UInt8} (h : rdBytes m l = .ok (x, r)) : r.length ≤ l.length ∧ x.length ≤ m ∧ l = wBytes x ++ r := by
  rw [rdBytes, tryRd] at h
  rcases hd : rdNum l with _ | ⟨n, l'⟩
  · rw [hd] at h; cases h
  · rw [hd] at h
    simp only [] at h
    have hf := rdNum_form hd
    by_cases hn : n ≤ m
    · rw [if_pos hn, rdSome] at h
      by_cases h2 : n ≤ l'.length
      · rw [if_pos h2] at h
        cases h
        have hl := congrArg List.length hf
        rw [List.length_append] at hl
        have e1 : (l'.take n).length = n := by rw [List.length_take]; omega
        refine ⟨by rw [List.length_drop]; omega, by omega, ?_⟩
        rw [wBytes, e1, List.append_assoc, List.take_append_drop]; exact hf
      · rw [if_neg h2] at h; cases h
    · rw [if_neg hn] at h; cases h
theorem rdR_short : ∀ l x r, rdR l = .ok (x, r) → r.length < l.length := by
  intro l x r h
  rw [rdR] at h
  rcases hd : rdBytes 24 l with e | ⟨fr, l1⟩
  · rw [hd] at h; cases h
  · rw [hd] at h; simp only [] at h
    have h1 := (rdBytes_le hd).1
    rcases hd2 : rdNum l1 with _ | ⟨n, l2⟩
    · rw [hd2] at h; cases h
    · rw [hd2] at h; simp only [] at h
      by_cases h5 : n < 5
      · rw [if_pos h5] at h; cases h
        have := congrArg List.length (rdNum_form hd2)
        rw [List.length_append] at this
        have := wNum_pos n
        omega
      · rw [if_neg h5] at h; cases h
/-- what reading one thing hands back -/
def OneVR (w1 w2 : World) (c : Nat) (F : Nat → Prop) : Except Int (RgV × List UInt8) → Value → Prop
  | .ok (x, l2), r => ∃ cs, r = .tuple #[.agg cs.toArray, .int .i64 0] ∧ (tRg).rep w2 (fun b => w1.heap.size ≤ b) cs x ∧ Rd nRd w2 c F l2
  | .error e, r => e ≠ 0 ∧ ∃ cs x, r = .tuple #[.agg cs.toArray, .int .i64 e] ∧ (tRg).rep w2 (fun b => w1.heap.size ≤ b) cs x
theorem OneVR_any {w1 w2 : World} {c : Nat} {F : Nat → Prop} {q : Except Int (RgV × List UInt8)} {r : Value} (h : OneVR w1 w2 c F q r) : ∃ (cs : List Value) (x : RgV) (er : Int), r = .tuple #[.agg cs.toArray, .int .i64 er] ∧ (tRg).rep w2 (fun b => w1.heap.size ≤ b) cs x ∧
    ((er = 0 ∧ ∃ l2, q = .ok (x, l2) ∧ Rd nRd w2 c F l2) ∨ (er ≠ 0 ∧ q = .error er)) := by
  match q, h with
  | .ok (x, l2), ⟨cs, hr, h1, h2⟩ => exact ⟨cs, x, 0, hr, h1, .inl ⟨rfl, l2, rfl, h2⟩⟩
  | .error e, ⟨he, cs, x, hr, h1⟩ => exact ⟨cs, x, e, hr, h1, .inr ⟨he, rfl⟩⟩

theorem takeInR_c {w : World} {b pf : Nat} {pT : TypeId} {F : Nat → Prop} {l : List UInt8} {n fr : Nat} {cap : Array Value} (hr : Rd nRd w b F l) (hF : ∀ k, F k → k < w.heap.size) (hFb : ¬ F b) (hn : n ≤ 9223372036854775807) (hl : l.length ≤ 1000000000000) (hb : kBody Try.prog fr = true)
    (hpf : Blk w pf [.func (.func fr) #[] cap] pT) (hpb : pf ≠ b)
    (ρ : List UInt8 → Except Int (RgV × List UInt8)) (hρ : ∀ l x l2, ρ l = .ok (x, l2) → l2.length < l.length)
    (hone : ∀ (w1 : World) (l1 : List UInt8), Keep (fun k => k = b) w w1 → Rd nRd w1 b F l1 → l1.length ≤ l.length → CallsR Try.prog fr (#[.pointer (some ⟨b, 0, none⟩)] ++ cap) w1 (fun r w2 => OneVR w1 w2 b F (ρ l1) r ∧ Keep (fun k => k = b) w1 w2)) :
    CallsR Try.prog 96 #[.pointer (some ⟨b, 0, none⟩), .int .i64 n, .pointer (some ⟨pf, 0, none⟩)] w (fun r w' => ReadV (tRg) 37 nRd w w' b F (rdList ρ n l) r ∧ Keep (fun k => k = b) w w') := by
  obtain ⟨w0, rfl⟩ : ∃ x, x = w := ⟨w, rfl⟩
  have hblt : b < w0.heap.size := by obtain ⟨_, _, h, _⟩ := hr; exact h.lt
  have hplt := hpf.lt
  refine enter 28 Try.func96 rfl rfl (by simp) ?_
  refine c_seq ?_
  refine wp_reg (by decide +kernel) ?_
  refine l_v (v_assign rfl) ?_
  refine l_v (v_assign rfl) ?_
  refine l_nil ?_
  refine n_then ?_
  refine c_seq ?_
  refine c_block ?_
  refine c_loop (τ := Option Addr × Nat × Int × List (RgV) × List UInt8) [5, 6, 7, 8, 9, 10, 11, 12, 13, 14, 15, 16, 17, 18, 19, 20, 21, 22, 23, 24, 25] (fun (a1, c1, er, xs, l1) => [(5, .slice a1 xs.length c1), (6, .int .i64 er)]) (fun (a1, c1, er, xs, l1) w => OwV (tRg) 37 w w0.heap.size (fun k => w0.heap.size ≤ k) (.slice a1 xs.length c1) xs ∧ Keep (fun k => k = b) w0 w ∧ xs.length ≤ n ∧ ((er = 0 ∧ Rd nRd w b F l1 ∧ xs.length + l1.length ≤ l.length ∧ rdList ρ n l = bindL xs (rdList ρ (n - xs.length) l1)) ∨ (er ≠ 0 ∧ rdList ρ n l = .error er))) (fun (a1, c1, er, xs, l1) => n - xs.length) (none, 0, 0, [], l) (by exact ⟨rfl, rfl, trivial⟩) (by exact ⟨OwV.nil _ _ _ _ _, Keep.refl _, Nat.zero_le _, .inl ⟨rfl, hr, by simp, by simp [bindL_nil]⟩⟩) ?_
  rintro ⟨a1, c1, er, xs, l1⟩ w1 j ⟨o1, k1, h1, h1c⟩
  refine c_seq ?_
  refine c_seq ?_
  refine wp_reg (by decide +kernel) ?_
  refine l_v (v_move (t := .slice _ _ _) rfl) ?_
  refine l_v (v_len (et := 37) (by kernel_rfl) rfl) ?_
  refine l_v (v_move (t := .int _ _) rfl) ?_
  refine l_v (v_lss rfl rfl) ?_
  refine l_v (v_move (t := .bool _) rfl) ?_
  refine l_g1 rfl rfl (fun hG => v_move (t := .int _ _) rfl) ?_
  refine l_g1 rfl rfl (fun hG => v_eql (gd hG rfl) rfl) ?_
  refine l_v (v_and rfl rfl) ?_
  refine l_nil ?_
  refine n_then ?_
  refine c_cond rfl rfl (fun hc => ?_) (fun hc => ?_)
  · skip
    have hcl : xs.length < n := by simp at hc; omega
    have hce : er = 0 := by simp at hc; omega
    obtain ⟨_, r1, hll, hrd⟩ := h1c.resolve_right (fun h => h.1 hce)
    have zs_k1 := k1.size
    refine c_skip ?_
    refine n_then ?_
    refine c_block ?_
    refine c_seq ?_
    refine wp_reg (by decide +kernel) ?_
    refine l_to (to_alloc (z := (.agg #[.slice none 0 0, .slice none 0 0, .bool false, .int .i64 0])) (by unfold kZero; kernel_rfl) ?_)
    rintro b2 w2 rfl hb2 e2 z2
    have zs_e2 := e2.size
    refine l_nil ?_
    refine n_then ?_
    refine c_seq ?_
    refine wp_reg (by decide +kernel) ?_
    refine l_v (v_load (by kernel_rfl) rfl ((((hpf.keep k1 hpb)).ext e2).pv 0 _ rfl)) ?_
    refine l_v (v_move (t := .pointer _) rfl) ?_
    refine l_to (to_call1 hb rfl (show _ = (Value.pointer _) from rfl) (CallsR.mono ((hone w2 l1 (k1.trans (e2.mono fun _ _ h => h.elim)) (r1.ext e2) (by omega))) ?_))
    rintro r w3 ⟨hr3, k3⟩
    have zs_k3 := k3.size
    obtain ⟨cs, x, er2, hr3, hrep, hnx⟩ := OneVR_any hr3
    subst hr3
    have hrep1 := hrep
    obtain ⟨a9, c9, a8, c8, rfl, _, _, hgx⟩ := tRg_cells hrep
    refine l_v (v_move (t := .tuple _) rfl) ?_
    refine l_v (v_extract (t := .agg _) rfl rfl) ?_
    refine l_v (v_extract (t := .int _ _) rfl rfl) ?_
    refine l_to (to_storeA (n := 4) rfl rfl (show _ = (Value.agg _) from rfl) (by kernel_rfl) rfl (by first | (simp [slice_one]; done) | (simp only [List.forall_mem_cons, List.cons_append, List.nil_append]; repeat' (first | exact rfl | apply And.intro | (intro u hu; cases hu; done)))) (hb2.keep k3 (by omega)) (by first | exact of_decide_eq_true rfl | (simp; done) | decide) ?_)
    rintro w4 h4 k4 z4
    have zs_k4 := k4.size
    have hrep4 := (tRg).keep hrep1 k4 (fun i hi h hk => by omega)
    have o4 := ((((o1.mono (F' := fun k => w0.heap.size ≤ k ∧ k < w1.heap.size) (fun i hi h => ⟨h, hi⟩)).ext e2).keep k3 (fun i hi h => by have := (o1.own_lt hi).1; omega) (fun i _ hi _ h => by omega)).keep k4 (fun i hi h => by have := (o1.own_lt hi).2; omega) (fun i _ hi _ h => by omega)).mono (F' := fun k => w0.heap.size ≤ k) (fun i _ h => h.1)
    have k46 : Keep (fun k => k = b) w0 w4 := (((k1.trans (e2.mono fun _ _ h => h.elim)).trans k3).step k4 (fun i hi h => by omega))
    have hnx4 : (er2 = 0 ∧ ∃ l2, ρ l1 = .ok (x, l2) ∧ Rd nRd w4 b F l2) ∨ (er2 ≠ 0 ∧ ρ l1 = .error er2) := by
      rcases hnx with ⟨he2, l2, hq, r3⟩ | h
      · exact .inl ⟨he2, l2, hq, r3.keep k4 (by omega) (fun i hi h => by have := hF i hi; omega)⟩
      · exact .inr h
    refine l_v (v_assign (t := .int _ _) rfl) ?_
    refine l_nil ?_
    refine n_then ?_
    refine wp_reg (by decide +kernel) ?_
    refine l_v (v_move (t := .slice _ _ _) rfl) ?_
    refine l_v (v_loadA (by kernel_rfl) rfl h4.pv rfl) ?_
    refine l_to (to_slice1 (t := tRg) (et := 37) (bytes := 64) (by kernel_rfl) (by decide) (show _ = (Value.agg _) from rfl) (hrep4) ?_)
    rintro b5 w5 rfl o5 e5 z5
    have zs_e5 := e5.size
    refine l_to (to_append (et := 37) (bytes := 64) (by kernel_rfl) (show _ = (Value.slice _ _ _) from rfl) (o4.ext e5) (show _ = (Value.slice _ _ _) from rfl) o5.view ((OwV_sep o1 (by intro i hi; omega) (by omega))) (by first | omega | (simp; done) | (simp; omega)) (by simp only [maxLen]; first | omega | (simp; done) | (simp; omega)) (by omega) ?_)
    rintro a6 n6 c6 w6 o6 hn6 k6 b6 i6
    have zs_k6 := k6.size
    subst hn6
    have k36 : Keep (fun k => k = b) w0 w6 := (k46.trans (e5.mono fun _ _ h => h.elim)).step k6 (fun i hi h => by have := (o1.own_lt h).1; omega)
    have hsub : n - xs.length = (n - (xs ++ [x]).length) + 1 := by simp only [List.length_append, List.length_singleton]; omega
    obtain ⟨l2, hinv⟩ : ∃ l2, ((er2 = 0 ∧ Rd nRd w6 b F l2 ∧ (xs ++ [x]).length + l2.length ≤ l.length ∧ rdList ρ n l = bindL (xs ++ [x]) (rdList ρ (n - (xs ++ [x]).length) l2)) ∨ (er2 ≠ 0 ∧ rdList ρ n l = .error er2)) := by
      rcases hnx4 with ⟨he2, l2, hq, r4⟩ | ⟨hne, hq⟩
      · refine ⟨l2, .inl ⟨he2, ?_, ?_, ?_⟩⟩
        · exact (r4.ext e5).keep k6 (fun h => by have := (o1.own_lt h).1; omega) (fun i hi h => by have := (o1.own_lt h).1; have := hF i hi; omega)
        · have := hρ _ _ _ hq; simp only [List.length_append, List.length_singleton]; omega
        · rw [hrd, hsub]; exact rdList_ok hq
      · exact ⟨[], .inr ⟨hne, by rw [hrd, hsub]; exact rdList_err hq⟩⟩
    refine l_v (v_assign (t := .slice _ _ _) rfl) ?_
    refine l_nil ?_
    refine n_blk ?_
    refine n_then ?_
    refine ⟨(a6, c6, er2, xs ++ [x], l2), _, rfl, by (repeat (first | exact Off.of_over _ _ _ | refine Off.upd ?_ (by decide) _)), ⟨by first | rfl | exact congrArg (Value.int _) (by omega) | (simp; done), by first | rfl | exact congrArg (Value.int _) (by omega) | (simp; done), trivial⟩, ?_, ?_⟩
    · exact ⟨o6, k36, by simp only [List.length_append, List.length_singleton]; omega, hinv⟩
    · simp only [List.length_append, List.length_singleton]; omega
  · skip
    refine c_exit ?_
    refine x_then ?_
    refine x_then ?_
    refine x_hit ?_
    refine n_then ?_
    refine c_seq ?_
    refine wp_reg (by decide +kernel) ?_
    refine l_v (v_move (t := .slice _ _ _) rfl) ?_
    refine l_v (v_move (t := .int _ _) rfl) ?_
    refine l_v (v_assign (t := .slice _ _ _) rfl) ?_
    refine l_v (v_assign (t := .int _ _) rfl) ?_
    refine l_nil ?_
    refine n_then ?_
    refine c_ret ?_
    refine ret2 rfl (by decide) (by decide) ?_
    refine ⟨?_, k1⟩
    rcases h1c with ⟨he, r1, _, hrd⟩ | ⟨hne, hq⟩
    · have hcl : ¬ xs.length < n := by subst he; simpa using hc
      rw [hrd, show n - xs.length = 0 by omega]
      subst he
      show ReadV _ _ _ _ _ _ _ (.ok (xs ++ [], l1)) _
      rw [List.append_nil]
      exact ⟨a1, c1, rfl, o1, r1⟩
    · rw [hq]
      exact ⟨hne, _, _, _, rfl⟩

theorem tryR_c {w : World} {b : Nat} {F : Nat → Prop} {l : List UInt8} {most : Int} {fr : Nat} {cap : Array Value} (hr : Rd nRd w b F l) (hF : ∀ k, F k → k < b) (hm : 0 ≤ most) (hm2 : most ≤ 9223372036854775807) (hb : kBody Try.prog fr = true)
    (ρ : Nat → List UInt8 → Except Int (List RgV × List UInt8))
    (hread : ∀ (w1 : World) (c : Nat) (l1 : List UInt8) (n : Nat), Ext w w1 → w.heap.size ≤ c → Rd nRd w1 c F l1 → l1.length ≤ l.length → (n : Int) ≤ most → CallsR Try.prog fr (#[.pointer (some ⟨c, 0, none⟩), .int .i64 n] ++ cap) w1 (fun r w2 => ReadV (tRg) 37 nRd w1 w2 c F (ρ n l1) r ∧ Keep (fun k => k = c) w1 w2)) :
    CallsR Try.prog 95 #[.pointer (some ⟨b, 0, none⟩), .int .i64 most, .func (.func fr) #[] cap] w (fun r w' => TryV (tRg) 37 nRd w w' b F l (tryRd ρ most.toNat l) r ∧ Keep (fun k => k = b) w w') := by
  have hnF : ¬ F b := fun h => absurd (hF b h) (Nat.lt_irrefl b)
  obtain ⟨a, c, hb0, hv⟩ := hr
  have hblt := hb0.lt
  rcases hd : rdNum l with _ | ⟨n, l'⟩
  · obtain ⟨er, her⟩ : ∃ er : Int, er = 4 := ⟨4, rfl⟩
    have htr : tryRd ρ most.toNat l = .error er := by rw [tryRd, hd, her]
    refine enter 56 Try.func95 rfl rfl (by simp) ?_
    refine c_seq ?_
    refine wp_reg (by decide +kernel) ?_
    refine l_v (v_assign rfl) ?_
    refine l_v (v_assign rfl) ?_
    refine l_nil ?_
    refine n_then ?_
    refine c_seq ?_
    refine wp_reg (by decide +kernel) ?_
    refine l_v (v_assign rfl) ?_
    refine l_nil ?_
    refine n_then ?_
    refine c_seq ?_
    refine c_seq ?_
    refine wp_reg (by decide +kernel) ?_
    refine l_v (v_move (t := .pointer _) rfl) ?_
    refine l_to (to_f1 (by kernel_rfl) (show _ = (Value.pointer _) from rfl) (CallsR.mono (closed_c hb0) ?_))
    rintro _ w1 ⟨rfl, e1⟩
    have zs_e1 := e1.size
    refine l_nil ?_
    refine n_then ?_
    refine c_cond rfl rfl (fun hc => ?_) (fun hc => ?_)
    · skip
      cases hc
    · skip
      refine c_skip ?_
      refine n_then ?_
      refine c_seq ?_
      refine c_seq ?_
      refine wp_reg (by decide +kernel) ?_
      refine l_v (v_move (t := .int _ _) rfl) ?_
      refine l_v (v_lss rfl rfl) ?_
      refine l_nil ?_
      refine n_then ?_
      refine c_cond rfl rfl (fun hc2 => ?_) (fun hc2 => ?_)
      · skip
        have := dtrue hc2; omega
      · skip
        refine c_skip ?_
        refine n_then ?_
        refine c_seq ?_
        refine wp_reg (by decide +kernel) ?_
        refine l_v (v_move (t := .pointer _) rfl) ?_
        refine l_v (v_nilCheck rfl) ?_
        refine l_v (v_fieldAddr (off := 0) (ft := 35) (by kernel_rfl) rfl) ?_
        refine l_v (v_load (by kernel_rfl) rfl ((hb0.ext e1).pv 0 _ rfl)) ?_
        refine l_v (v_build (pl := [(0, 1)]) (z := .agg #[.slice none 0 0]) (zl := [.slice none 0 0]) (by kernel_rfl) (by unfold kZero; kernel_rfl) rfl rfl (cells := [_]) rfl) ?_
        refine l_to (to_box (show _ = (Value.agg _) from rfl) ?_)
        rintro b2 w2 rfl hb2 e2 z2
        have zs_e2 := e2.size
        have e12 := e1.trans e2
        refine l_v (v_assign (t := .pointer _) rfl) ?_
        refine l_nil ?_
        refine n_then ?_
        refine c_seq ?_
        refine wp_reg (by decide +kernel) ?_
        refine l_v (v_move (t := .pointer _) rfl) ?_
        refine l_to (to_f1 (by kernel_rfl) (show _ = (Value.pointer _) from rfl) (CallsR.mono (rNumber_c (b := w1.heap.size) (l := l) (F := F) ⟨a, c, hb2, hv.ext e12⟩ (fun h => by have := hF _ h; omega)) ?_))
        rintro r w3 ⟨hr3, h3, k3⟩
        have zs_k3 := k3.size
        rw [numV, hd, ← her] at hr3
        subst hr3
        have e3 : Ext w w3 := e12.step k3 fun i hi h => by omega
        refine l_v (v_move (t := .tuple _) rfl) ?_
        refine l_v (v_extract (t := .int _ _) rfl rfl) ?_
        refine l_v (v_extract (t := .int _ _) rfl rfl) ?_
        refine l_v (v_assign (t := .int _ _) rfl) ?_
        refine l_v (v_assign (t := .int _ _) rfl) ?_
        refine l_nil ?_
        refine n_then ?_
        refine c_seq ?_
        refine c_seq ?_
        refine wp_reg (by decide +kernel) ?_
        refine l_v (v_move (t := .int _ _) rfl) ?_
        refine l_v (v_eql rfl rfl) ?_
        refine l_v (v_move (t := .bool _) rfl) ?_
        refine l_g1 rfl rfl (fun hG => v_move (t := .int _ _) rfl) ?_
        refine l_g1 rfl rfl (fun hG => v_move (t := .int _ _) rfl) ?_
        refine l_g1 rfl rfl (fun hG => v_conv (ds := .int .i64) (by kernel_rfl) (by kernel_rfl) (gd hG rfl) (by first | exact wr_u64 (by omega) (by omega) | rfl)) ?_
        refine l_g1 rfl rfl (fun hG => v_gtr (gd hG rfl) (gd hG rfl)) ?_
        refine l_v (v_and rfl rfl) ?_
        refine l_nil ?_
        refine n_then ?_
        refine c_cond rfl rfl (fun hc3 => ?_) (fun hc3 => ?_)
        · skip
          simp at hc3; omega
        · skip
          refine c_skip ?_
          refine n_then ?_
          refine c_seq ?_
          refine c_seq ?_
          refine wp_reg (by decide +kernel) ?_
          refine l_v (v_move (t := .int _ _) rfl) ?_
          refine l_v (v_eql rfl rfl) ?_
          refine l_nil ?_
          refine n_then ?_
          refine c_cond rfl rfl (fun hc4 => ?_) (fun hc4 => ?_)
          · skip
            have := dtrue hc4; omega
          · skip
            refine c_skip ?_
            refine n_then ?_
            refine c_seq ?_
            refine c_seq ?_
            refine wp_reg (by decide +kernel) ?_
            refine l_v (v_move (t := .int _ _) rfl) ?_
            refine l_v (v_neq rfl rfl) ?_
            refine l_nil ?_
            refine n_then ?_
            refine c_cond rfl rfl (fun hc5 => ?_) (fun hc5 => ?_)
            · skip
              refine c_seq ?_
              refine wp_reg (by decide +kernel) ?_
              refine l_v (v_move (t := .slice _ _ _) rfl) ?_
              refine l_v (v_move (t := .int _ _) rfl) ?_
              refine l_v (v_assign (t := .slice _ _ _) rfl) ?_
              refine l_v (v_assign (t := .int _ _) rfl) ?_
              refine l_nil ?_
              refine n_then ?_
              refine c_ret ?_
              refine r_then ?_
              refine ret2 rfl (by decide) (by decide) ?_
              refine ⟨?_, e3.keep⟩
              rw [htr]
              exact ⟨by omega, rfl, ⟨a, c, hb0.ext e3, hv.ext e3⟩⟩
            · skip
              simp at hc5; omega
  · have hlt := rdNum_lt hd
    have hll : l'.length ≤ l.length := by obtain ⟨k, _, _, h⟩ := rdGo_suffix l 0 hd; rw [h, List.length_drop]; omega
    obtain ⟨z, hz⟩ : ∃ z : Int, z = 0 := ⟨0, rfl⟩
    by_cases hnm : (n : Int) ≤ most
    · have htr : tryRd ρ most.toNat l = ρ n l' := by rw [tryRd, hd]; simp only []; rw [if_pos (by omega)]
      cases hρ : ρ n l' with
      | error er =>
        refine enter 56 Try.func95 rfl rfl (by simp) ?_
        refine c_seq ?_
        refine wp_reg (by decide +kernel) ?_
        refine l_v (v_assign rfl) ?_
        refine l_v (v_assign rfl) ?_
        refine l_nil ?_
        refine n_then ?_
        refine c_seq ?_
        refine wp_reg (by decide +kernel) ?_
        refine l_v (v_assign rfl) ?_
        refine l_nil ?_
        refine n_then ?_
        refine c_seq ?_
        refine c_seq ?_
        refine wp_reg (by decide +kernel) ?_
        refine l_v (v_move (t := .pointer _) rfl) ?_
        refine l_to (to_f1 (by kernel_rfl) (show _ = (Value.pointer _) from rfl) (CallsR.mono (closed_c hb0) ?_))
        rintro _ w1 ⟨rfl, e1⟩
        have zs_e1 := e1.size
        refine l_nil ?_
        refine n_then ?_
        refine c_cond rfl rfl (fun hc => ?_) (fun hc => ?_)
        · skip
          cases hc
        · skip
          refine c_skip ?_
          refine n_then ?_
          refine c_seq ?_
          refine c_seq ?_
          refine wp_reg (by decide +kernel) ?_
          refine l_v (v_move (t := .int _ _) rfl) ?_
          refine l_v (v_lss rfl rfl) ?_
          refine l_nil ?_
          refine n_then ?_
          refine c_cond rfl rfl (fun hc2 => ?_) (fun hc2 => ?_)
          · skip
            have := dtrue hc2; omega
          · skip
            refine c_skip ?_
            refine n_then ?_
            refine c_seq ?_
            refine wp_reg (by decide +kernel) ?_
            refine l_v (v_move (t := .pointer _) rfl) ?_
            refine l_v (v_nilCheck rfl) ?_
            refine l_v (v_fieldAddr (off := 0) (ft := 35) (by kernel_rfl) rfl) ?_
            refine l_v (v_load (by kernel_rfl) rfl ((hb0.ext e1).pv 0 _ rfl)) ?_
            refine l_v (v_build (pl := [(0, 1)]) (z := .agg #[.slice none 0 0]) (zl := [.slice none 0 0]) (by kernel_rfl) (by unfold kZero; kernel_rfl) rfl rfl (cells := [_]) rfl) ?_
            refine l_to (to_box (show _ = (Value.agg _) from rfl) ?_)
            rintro b2 w2 rfl hb2 e2 z2
            have zs_e2 := e2.size
            have e12 := e1.trans e2
            refine l_v (v_assign (t := .pointer _) rfl) ?_
            refine l_nil ?_
            refine n_then ?_
            refine c_seq ?_
            refine wp_reg (by decide +kernel) ?_
            refine l_v (v_move (t := .pointer _) rfl) ?_
            refine l_to (to_f1 (by kernel_rfl) (show _ = (Value.pointer _) from rfl) (CallsR.mono (rNumber_c (b := w1.heap.size) (l := l) (F := F) ⟨a, c, hb2, hv.ext e12⟩ (fun h => by have := hF _ h; omega)) ?_))
            rintro r w3 ⟨hr3, h3, k3⟩
            have zs_k3 := k3.size
            rw [numV, hd] at hr3
            simp only [] at hr3
            rw [← hz] at hr3
            subst hr3
            have e3 : Ext w w3 := e12.step k3 fun i hi h => by omega
            have hrest : rest l = l' := by rw [rest, hd]
            rw [hrest] at h3
            refine l_v (v_move (t := .tuple _) rfl) ?_
            refine l_v (v_extract (t := .int _ _) rfl rfl) ?_
            refine l_v (v_extract (t := .int _ _) rfl rfl) ?_
            refine l_v (v_assign (t := .int _ _) rfl) ?_
            refine l_v (v_assign (t := .int _ _) rfl) ?_
            refine l_nil ?_
            refine n_then ?_
            refine c_seq ?_
            refine c_seq ?_
            refine wp_reg (by decide +kernel) ?_
            refine l_v (v_move (t := .int _ _) rfl) ?_
            refine l_v (v_eql rfl rfl) ?_
            refine l_v (v_move (t := .bool _) rfl) ?_
            refine l_g1 rfl rfl (fun hG => v_move (t := .int _ _) rfl) ?_
            refine l_g1 rfl rfl (fun hG => v_move (t := .int _ _) rfl) ?_
            refine l_g1 rfl rfl (fun hG => v_conv (ds := .int .i64) (by kernel_rfl) (by kernel_rfl) (gd hG rfl) (by first | exact wr_u64 (by omega) (by omega) | rfl)) ?_
            refine l_g1 rfl rfl (fun hG => v_gtr (gd hG rfl) (gd hG rfl)) ?_
            refine l_v (v_and rfl rfl) ?_
            refine l_nil ?_
            refine n_then ?_
            refine c_cond rfl rfl (fun hc3 => ?_) (fun hc3 => ?_)
            · skip
              simp at hc3; omega
            · skip
              refine c_skip ?_
              refine n_then ?_
              refine c_seq ?_
              refine c_seq ?_
              refine wp_reg (by decide +kernel) ?_
              refine l_v (v_move (t := .int _ _) rfl) ?_
              refine l_v (v_eql rfl rfl) ?_
              refine l_nil ?_
              refine n_then ?_
              refine c_cond rfl rfl (fun hc4 => ?_) (fun hc4 => ?_)
              · skip
                refine wp_reg (by decide +kernel) ?_
                refine l_v (v_move (t := .func _ _ _) rfl) ?_
                refine l_v (v_move (t := .pointer _) rfl) ?_
                refine l_v (v_move (t := .int _ _) rfl) ?_
                refine l_v (v_conv (ds := .int .u64) (by kernel_rfl) (by kernel_rfl) rfl (by first | exact wr_i64 (by omega) (by omega) | rfl)) ?_
                refine l_to (to_call2 hb rfl (show _ = (Value.pointer _) from rfl) (show _ = (Value.int _ _) from rfl) (CallsR.mono (hread w3 _ l' n e3 (by omega) h3 hll hnm) ?_))
                rintro r4 w4 ⟨hr4, k4⟩
                have zs_k4 := k4.size
                rw [hρ] at hr4
                obtain ⟨her, va, vn, vc, hr4⟩ := hr4
                subst hr4
                have e4 : Ext w w4 := e3.step k4 fun i hi h => by omega
                refine l_v (v_move (t := .tuple _) rfl) ?_
                refine l_v (v_extract (t := .slice _ _ _) rfl rfl) ?_
                refine l_v (v_extract (t := .int _ _) rfl rfl) ?_
                refine l_v (v_assign (t := .slice _ _ _) rfl) ?_
                refine l_v (v_assign (t := .int _ _) rfl) ?_
                refine l_nil ?_
                refine n_then ?_
                refine c_seq ?_
                refine c_seq ?_
                refine wp_reg (by decide +kernel) ?_
                refine l_v (v_move (t := .int _ _) rfl) ?_
                refine l_v (v_neq rfl rfl) ?_
                refine l_nil ?_
                refine n_then ?_
                refine c_cond rfl rfl (fun hc5 => ?_) (fun hc5 => ?_)
                · skip
                  refine c_seq ?_
                  refine wp_reg (by decide +kernel) ?_
                  refine l_v (v_move (t := .slice _ _ _) rfl) ?_
                  refine l_v (v_move (t := .int _ _) rfl) ?_
                  refine l_v (v_assign (t := .slice _ _ _) rfl) ?_
                  refine l_v (v_assign (t := .int _ _) rfl) ?_
                  refine l_nil ?_
                  refine n_then ?_
                  refine c_ret ?_
                  refine r_then ?_
                  refine ret2 rfl (by decide) (by decide) ?_
                  refine ⟨?_, e4.keep⟩
                  rw [htr, hρ]
                  exact ⟨her, rfl, ⟨a, c, hb0.ext e4, hv.ext e4⟩⟩
                · skip
                  simp at hc5; omega
              · skip
                have := dfalse hc4; omega
      | ok xl =>
        obtain ⟨x, l2⟩ := xl
        refine enter 56 Try.func95 rfl rfl (by simp) ?_
        refine c_seq ?_
        refine wp_reg (by decide +kernel) ?_
        refine l_v (v_assign rfl) ?_
        refine l_v (v_assign rfl) ?_
        refine l_nil ?_
        refine n_then ?_
        refine c_seq ?_
        refine wp_reg (by decide +kernel) ?_
        refine l_v (v_assign rfl) ?_
        refine l_nil ?_
        refine n_then ?_
        refine c_seq ?_
        refine c_seq ?_
        refine wp_reg (by decide +kernel) ?_
        refine l_v (v_move (t := .pointer _) rfl) ?_
        refine l_to (to_f1 (by kernel_rfl) (show _ = (Value.pointer _) from rfl) (CallsR.mono (closed_c hb0) ?_))
        rintro _ w1 ⟨rfl, e1⟩
        have zs_e1 := e1.size
        refine l_nil ?_
        refine n_then ?_
        refine c_cond rfl rfl (fun hc => ?_) (fun hc => ?_)
        · skip
          cases hc
        · skip
          refine c_skip ?_
          refine n_then ?_
          refine c_seq ?_
          refine c_seq ?_
          refine wp_reg (by decide +kernel) ?_
          refine l_v (v_move (t := .int _ _) rfl) ?_
          refine l_v (v_lss rfl rfl) ?_
          refine l_nil ?_
          refine n_then ?_
          refine c_cond rfl rfl (fun hc2 => ?_) (fun hc2 => ?_)
          · skip
            have := dtrue hc2; omega
          · skip
            refine c_skip ?_
            refine n_then ?_
            refine c_seq ?_
            refine wp_reg (by decide +kernel) ?_
            refine l_v (v_move (t := .pointer _) rfl) ?_
            refine l_v (v_nilCheck rfl) ?_
            refine l_v (v_fieldAddr (off := 0) (ft := 35) (by kernel_rfl) rfl) ?_
            refine l_v (v_load (by kernel_rfl) rfl ((hb0.ext e1).pv 0 _ rfl)) ?_
            refine l_v (v_build (pl := [(0, 1)]) (z := .agg #[.slice none 0 0]) (zl := [.slice none 0 0]) (by kernel_rfl) (by unfold kZero; kernel_rfl) rfl rfl (cells := [_]) rfl) ?_
            refine l_to (to_box (show _ = (Value.agg _) from rfl) ?_)
            rintro b2 w2 rfl hb2 e2 z2
            have zs_e2 := e2.size
            have e12 := e1.trans e2
            refine l_v (v_assign (t := .pointer _) rfl) ?_
            refine l_nil ?_
            refine n_then ?_
            refine c_seq ?_
            refine wp_reg (by decide +kernel) ?_
            refine l_v (v_move (t := .pointer _) rfl) ?_
            refine l_to (to_f1 (by kernel_rfl) (show _ = (Value.pointer _) from rfl) (CallsR.mono (rNumber_c (b := w1.heap.size) (l := l) (F := F) ⟨a, c, hb2, hv.ext e12⟩ (fun h => by have := hF _ h; omega)) ?_))
            rintro r w3 ⟨hr3, h3, k3⟩
            have zs_k3 := k3.size
            rw [numV, hd] at hr3
            simp only [] at hr3
            rw [← hz] at hr3
            subst hr3
            have e3 : Ext w w3 := e12.step k3 fun i hi h => by omega
            have hrest : rest l = l' := by rw [rest, hd]
            rw [hrest] at h3
            refine l_v (v_move (t := .tuple _) rfl) ?_
            refine l_v (v_extract (t := .int _ _) rfl rfl) ?_
            refine l_v (v_extract (t := .int _ _) rfl rfl) ?_
            refine l_v (v_assign (t := .int _ _) rfl) ?_
            refine l_v (v_assign (t := .int _ _) rfl) ?_
            refine l_nil ?_
            refine n_then ?_
            refine c_seq ?_
            refine c_seq ?_
            refine wp_reg (by decide +kernel) ?_
            refine l_v (v_move (t := .int _ _) rfl) ?_
            refine l_v (v_eql rfl rfl) ?_
            refine l_v (v_move (t := .bool _) rfl) ?_
            refine l_g1 rfl rfl (fun hG => v_move (t := .int _ _) rfl) ?_
            refine l_g1 rfl rfl (fun hG => v_move (t := .int _ _) rfl) ?_
            refine l_g1 rfl rfl (fun hG => v_conv (ds := .int .i64) (by kernel_rfl) (by kernel_rfl) (gd hG rfl) (by first | exact wr_u64 (by omega) (by omega) | rfl)) ?_
            refine l_g1 rfl rfl (fun hG => v_gtr (gd hG rfl) (gd hG rfl)) ?_
            refine l_v (v_and rfl rfl) ?_
            refine l_nil ?_
            refine n_then ?_
            refine c_cond rfl rfl (fun hc3 => ?_) (fun hc3 => ?_)
            · skip
              simp at hc3; omega
            · skip
              refine c_skip ?_
              refine n_then ?_
              refine c_seq ?_
              refine c_seq ?_
              refine wp_reg (by decide +kernel) ?_
              refine l_v (v_move (t := .int _ _) rfl) ?_
              refine l_v (v_eql rfl rfl) ?_
              refine l_nil ?_
              refine n_then ?_
              refine c_cond rfl rfl (fun hc4 => ?_) (fun hc4 => ?_)
              · skip
                refine wp_reg (by decide +kernel) ?_
                refine l_v (v_move (t := .func _ _ _) rfl) ?_
                refine l_v (v_move (t := .pointer _) rfl) ?_
                refine l_v (v_move (t := .int _ _) rfl) ?_
                refine l_v (v_conv (ds := .int .u64) (by kernel_rfl) (by kernel_rfl) rfl (by first | exact wr_i64 (by omega) (by omega) | rfl)) ?_
                refine l_to (to_call2 hb rfl (show _ = (Value.pointer _) from rfl) (show _ = (Value.int _ _) from rfl) (CallsR.mono (hread w3 _ l' n e3 (by omega) h3 hll hnm) ?_))
                rintro r4 w4 ⟨hr4, k4⟩
                have zs_k4 := k4.size
                rw [hρ] at hr4
                obtain ⟨a4, c4, hr4, hx4, a5, c5, hb5, hv5⟩ := hr4
                subst hr4
                have e4 : Ext w w4 := e3.step k4 fun i hi h => by omega
                refine l_v (v_move (t := .tuple _) rfl) ?_
                refine l_v (v_extract (t := .slice _ _ _) rfl rfl) ?_
                refine l_v (v_extract (t := .int _ _) rfl rfl) ?_
                refine l_v (v_assign (t := .slice _ _ _) rfl) ?_
                refine l_v (v_assign (t := .int _ _) rfl) ?_
                refine l_nil ?_
                refine n_then ?_
                refine c_seq ?_
                refine c_seq ?_
                refine wp_reg (by decide +kernel) ?_
                refine l_v (v_move (t := .int _ _) rfl) ?_
                refine l_v (v_neq rfl rfl) ?_
                refine l_nil ?_
                refine n_then ?_
                refine c_cond rfl rfl (fun hc5 => ?_) (fun hc5 => ?_)
                · skip
                  simp at hc5
                · skip
                  refine c_skip ?_
                  refine n_then ?_
                  refine c_seq ?_
                  refine wp_reg (by decide +kernel) ?_
                  refine l_v (v_move (t := .pointer _) rfl) ?_
                  refine l_v (v_move (t := .pointer _) rfl) ?_
                  refine l_v (v_nilCheck rfl) ?_
                  refine l_v (v_loadA (by kernel_rfl) rfl hb5.pv rfl) ?_
                  refine l_v (v_nilCheck rfl) ?_
                  refine l_to (to_storeA (n := 1) rfl rfl (show _ = (Value.agg _) from rfl) (by kernel_rfl) rfl (by first | (simp [slice_one]; done) | (simp only [List.forall_mem_cons, List.cons_append, List.nil_append]; repeat' (first | exact rfl | apply And.intro | (intro u hu; cases hu; done)))) (hb0.ext e4) (by first | exact of_decide_eq_true rfl | (simp; done) | decide) ?_)
                  rintro w5 h5 k5 z5
                  have zs_k5 := k5.size
                  refine l_nil ?_
                  refine n_then ?_
                  refine c_seq ?_
                  refine wp_reg (by decide +kernel) ?_
                  refine l_v (v_move (t := .slice _ _ _) rfl) ?_
                  refine l_v (v_assign (t := .slice _ _ _) rfl) ?_
                  refine l_v (v_assign rfl) ?_
                  refine l_nil ?_
                  refine n_then ?_
                  refine c_ret ?_
                  refine ret2 rfl (by decide) (by decide) ?_
                  refine ⟨?_, e4.keep.trans k5⟩
                  rw [htr, hρ]
                  refine ⟨_, _, rfl, (hx4.base (by omega)).mono (F' := fun k => w.heap.size ≤ k) (fun i _ hi => by omega) |>.keep k5 (fun i hi h => ?_) (fun i _ hi _ h => by omega), a5, c5, h5, hv5.keep k5 fun i _ hi h => hnF (by subst h; exact hi)⟩
                  have := (hx4.own_lt hi).1
                  omega
              · skip
                have := dfalse hc4; omega
    · have htr : tryRd ρ most.toNat l = .error 3 := by rw [tryRd, hd]; simp only []; rw [if_neg (by omega)]
      refine enter 56 Try.func95 rfl rfl (by simp) ?_
      refine c_seq ?_
      refine wp_reg (by decide +kernel) ?_
      refine l_v (v_assign rfl) ?_
      refine l_v (v_assign rfl) ?_
      refine l_nil ?_
      refine n_then ?_
      refine c_seq ?_
      refine wp_reg (by decide +kernel) ?_
      refine l_v (v_assign rfl) ?_
      refine l_nil ?_
      refine n_then ?_
      refine c_seq ?_
      refine c_seq ?_
      refine wp_reg (by decide +kernel) ?_
      refine l_v (v_move (t := .pointer _) rfl) ?_
      refine l_to (to_f1 (by kernel_rfl) (show _ = (Value.pointer _) from rfl) (CallsR.mono (closed_c hb0) ?_))
      rintro _ w1 ⟨rfl, e1⟩
      have zs_e1 := e1.size
      refine l_nil ?_
      refine n_then ?_
      refine c_cond rfl rfl (fun hc => ?_) (fun hc => ?_)
      · skip
        cases hc
      · skip
        refine c_skip ?_
        refine n_then ?_
        refine c_seq ?_
        refine c_seq ?_
        refine wp_reg (by decide +kernel) ?_
        refine l_v (v_move (t := .int _ _) rfl) ?_
        refine l_v (v_lss rfl rfl) ?_
        refine l_nil ?_
        refine n_then ?_
        refine c_cond rfl rfl (fun hc2 => ?_) (fun hc2 => ?_)
        · skip
          have := dtrue hc2; omega
        · skip
          refine c_skip ?_
          refine n_then ?_
          refine c_seq ?_
          refine wp_reg (by decide +kernel) ?_
          refine l_v (v_move (t := .pointer _) rfl) ?_
          refine l_v (v_nilCheck rfl) ?_
          refine l_v (v_fieldAddr (off := 0) (ft := 35) (by kernel_rfl) rfl) ?_
          refine l_v (v_load (by kernel_rfl) rfl ((hb0.ext e1).pv 0 _ rfl)) ?_
          refine l_v (v_build (pl := [(0, 1)]) (z := .agg #[.slice none 0 0]) (zl := [.slice none 0 0]) (by kernel_rfl) (by unfold kZero; kernel_rfl) rfl rfl (cells := [_]) rfl) ?_
          refine l_to (to_box (show _ = (Value.agg _) from rfl) ?_)
          rintro b2 w2 rfl hb2 e2 z2
          have zs_e2 := e2.size
          have e12 := e1.trans e2
          refine l_v (v_assign (t := .pointer _) rfl) ?_
          refine l_nil ?_
          refine n_then ?_
          refine c_seq ?_
          refine wp_reg (by decide +kernel) ?_
          refine l_v (v_move (t := .pointer _) rfl) ?_
          refine l_to (to_f1 (by kernel_rfl) (show _ = (Value.pointer _) from rfl) (CallsR.mono (rNumber_c (b := w1.heap.size) (l := l) (F := F) ⟨a, c, hb2, hv.ext e12⟩ (fun h => by have := hF _ h; omega)) ?_))
          rintro r w3 ⟨hr3, h3, k3⟩
          have zs_k3 := k3.size
          rw [numV, hd] at hr3
          simp only [] at hr3
          rw [← hz] at hr3
          subst hr3
          have e3 : Ext w w3 := e12.step k3 fun i hi h => by omega
          refine l_v (v_move (t := .tuple _) rfl) ?_
          refine l_v (v_extract (t := .int _ _) rfl rfl) ?_
          refine l_v (v_extract (t := .int _ _) rfl rfl) ?_
          refine l_v (v_assign (t := .int _ _) rfl) ?_
          refine l_v (v_assign (t := .int _ _) rfl) ?_
          refine l_nil ?_
          refine n_then ?_
          refine c_seq ?_
          refine c_seq ?_
          refine wp_reg (by decide +kernel) ?_
          refine l_v (v_move (t := .int _ _) rfl) ?_
          refine l_v (v_eql rfl rfl) ?_
          refine l_v (v_move (t := .bool _) rfl) ?_
          refine l_g1 rfl rfl (fun hG => v_move (t := .int _ _) rfl) ?_
          refine l_g1 rfl rfl (fun hG => v_move (t := .int _ _) rfl) ?_
          refine l_g1 rfl rfl (fun hG => v_conv (ds := .int .i64) (by kernel_rfl) (by kernel_rfl) (gd hG rfl) (by first | exact wr_u64 (by omega) (by omega) | rfl)) ?_
          refine l_g1 rfl rfl (fun hG => v_gtr (gd hG rfl) (gd hG rfl)) ?_
          refine l_v (v_and rfl rfl) ?_
          refine l_nil ?_
          refine n_then ?_
          refine c_cond rfl rfl (fun hc3 => ?_) (fun hc3 => ?_)
          · skip
            refine wp_reg (by decide +kernel) ?_
            refine l_v (v_assign rfl) ?_
            refine l_nil ?_
            refine n_then ?_
            refine c_seq ?_
            refine c_seq ?_
            refine wp_reg (by decide +kernel) ?_
            refine l_v (v_move (t := .int _ _) rfl) ?_
            refine l_v (v_eql rfl rfl) ?_
            refine l_nil ?_
            refine n_then ?_
            refine c_cond rfl rfl (fun hc4 => ?_) (fun hc4 => ?_)
            · skip
              have := dtrue hc4; omega
            · skip
              refine c_skip ?_
              refine n_then ?_
              refine c_seq ?_
              refine c_seq ?_
              refine wp_reg (by decide +kernel) ?_
              refine l_v (v_move (t := .int _ _) rfl) ?_
              refine l_v (v_neq rfl rfl) ?_
              refine l_nil ?_
              refine n_then ?_
              refine c_cond rfl rfl (fun hc5 => ?_) (fun hc5 => ?_)
              · skip
                refine c_seq ?_
                refine wp_reg (by decide +kernel) ?_
                refine l_v (v_move (t := .slice _ _ _) rfl) ?_
                refine l_v (v_move (t := .int _ _) rfl) ?_
                refine l_v (v_assign (t := .slice _ _ _) rfl) ?_
                refine l_v (v_assign (t := .int _ _) rfl) ?_
                refine l_nil ?_
                refine n_then ?_
                refine c_ret ?_
                refine r_then ?_
                refine ret2 rfl (by decide) (by decide) ?_
                refine ⟨?_, e3.keep⟩
                rw [htr]
                exact ⟨by omega, rfl, ⟨a, c, hb0.ext e3, hv.ext e3⟩⟩
              · skip
                simp at hc5
          · skip
            simp at hc3; omega


theorem takeR_c {w : World} {b : Nat} {F : Nat → Prop} {l : List UInt8} {most : Int} {fr : Nat} {cap : Array Value} (hr : Rd nRd w b F l) (hF : ∀ k, F k → k < b) (hm : 0 ≤ most) (hm2 : most ≤ 9223372036854775807) (hl : l.length ≤ 1000000000000) (hb : kBody Try.prog fr = true)
    (ρ : List UInt8 → Except Int (RgV × List UInt8)) (hρ : ∀ l x l2, ρ l = .ok (x, l2) → l2.length < l.length)
    (hone : ∀ (w1 : World) (c : Nat) (l1 : List UInt8), Ext w w1 → w.heap.size ≤ c → Rd nRd w1 c F l1 → l1.length ≤ l.length → CallsR Try.prog fr (#[.pointer (some ⟨c, 0, none⟩)] ++ cap) w1 (fun r w2 => OneVR w1 w2 c F (ρ l1) r ∧ Keep (fun k => k = c) w1 w2)) :
    CallsR Try.prog 77 #[.pointer (some ⟨b, 0, none⟩), .int .i64 most, .func (.func fr) #[] cap] w (fun r w' => TryV (tRg) 37 nRd w w' b F l (tryRd (rdList ρ) most.toNat l) r ∧ Keep (fun k => k = b) w w') := by
  have hblt : b < w.heap.size := by obtain ⟨_, _, h, _⟩ := hr; exact h.lt
  cases hq : tryRd (rdList ρ) most.toNat l with
  | error er =>
    refine enter 16 Try.func77 rfl rfl (by simp) ?_
    refine c_seq ?_
    refine wp_reg (by decide +kernel) ?_
    refine l_to (to_box (show _ = (Value.func _ _ _) from rfl) ?_)
    rintro b1 w1 rfl hb1 e1 z1
    have zs_e1 := e1.size
    refine l_v (v_assign rfl) ?_
    refine l_v (v_assign rfl) ?_
    refine l_nil ?_
    refine n_then ?_
    refine c_seq ?_
    refine c_seq ?_
    refine wp_reg (by decide +kernel) ?_
    refine l_v (v_load (by kernel_rfl) rfl (hb1.pv 0 _ rfl)) ?_
    refine l_v (v_feqlnil (ps := #[84]) (rs := #[37, 25]) (v := false) (by kernel_rfl) rfl rfl) ?_
    refine l_nil ?_
    refine n_then ?_
    refine c_cond rfl rfl (fun hc => ?_) (fun hc => ?_)
    · skip
      cases hc
    · skip
      refine c_skip ?_
      refine n_then ?_
      refine c_seq ?_
      refine wp_reg (by decide +kernel) ?_
      refine l_v (v_move (t := .pointer _) rfl) ?_
      refine l_v (v_move (t := .int _ _) rfl) ?_
      refine l_v (v_makeFunc (by simp [ev]; rfl) (by simp [ev]; rfl)) ?_
      refine l_to (to_f3 (by kernel_rfl) (show _ = (Value.pointer _) from rfl) (show _ = (Value.int _ _) from rfl) (show _ = (Value.func _ _ _) from rfl) (CallsR.mono (tryR_c (cap := #[.pointer (some ⟨w.heap.size, 0, none⟩)]) (hr.ext e1) hF hm hm2 (by kernel_rfl) (rdList ρ) (fun w2 c l1 n e2 hc1 hr1 hl1 hn1 => by simpa using takeInR_c hr1 (fun k hk => by have := hF k hk; have := e2.size; omega) (fun h => by have := hF _ h; omega) (by omega) (by omega) hb (hb1.ext e2) (by omega) ρ hρ (fun w3 l3 k3 hr3 hl3 => hone w3 c l3 ((e1.trans e2).step k3 (fun i hi h => by omega)) (by omega) hr3 (by omega)))) ?_))
      rintro r w2 ⟨h2, k2⟩
      have zs_k2 := k2.size
      rw [hq] at h2
      obtain ⟨her, rfl, h3⟩ := h2
      refine l_v (v_extract (t := .slice _ _ _) rfl rfl) ?_
      refine l_v (v_extract (t := .int _ _) rfl rfl) ?_
      refine l_v (v_assign (t := .slice _ _ _) rfl) ?_
      refine l_v (v_assign (t := .int _ _) rfl) ?_
      refine l_nil ?_
      refine n_then ?_
      refine c_ret ?_
      refine ret2 rfl (by decide) (by decide) ?_
      exact ⟨⟨her, rfl, h3⟩, (e1.mono fun _ _ h => h.elim).trans k2⟩
  | ok xl =>
    obtain ⟨x, l2⟩ := xl
    refine enter 16 Try.func77 rfl rfl (by simp) ?_
    refine c_seq ?_
    refine wp_reg (by decide +kernel) ?_
    refine l_to (to_box (show _ = (Value.func _ _ _) from rfl) ?_)
    rintro b1 w1 rfl hb1 e1 z1
    have zs_e1 := e1.size
    refine l_v (v_assign rfl) ?_
    refine l_v (v_assign rfl) ?_
    refine l_nil ?_
    refine n_then ?_
    refine c_seq ?_
    refine c_seq ?_
    refine wp_reg (by decide +kernel) ?_
    refine l_v (v_load (by kernel_rfl) rfl (hb1.pv 0 _ rfl)) ?_
    refine l_v (v_feqlnil (ps := #[84]) (rs := #[37, 25]) (v := false) (by kernel_rfl) rfl rfl) ?_
    refine l_nil ?_
    refine n_then ?_
    refine c_cond rfl rfl (fun hc => ?_) (fun hc => ?_)
    · skip
      cases hc
    · skip
      refine c_skip ?_
      refine n_then ?_
      refine c_seq ?_
      refine wp_reg (by decide +kernel) ?_
      refine l_v (v_move (t := .pointer _) rfl) ?_
      refine l_v (v_move (t := .int _ _) rfl) ?_
      refine l_v (v_makeFunc (by simp [ev]; rfl) (by simp [ev]; rfl)) ?_
      refine l_to (to_f3 (by kernel_rfl) (show _ = (Value.pointer _) from rfl) (show _ = (Value.int _ _) from rfl) (show _ = (Value.func _ _ _) from rfl) (CallsR.mono (tryR_c (cap := #[.pointer (some ⟨w.heap.size, 0, none⟩)]) (hr.ext e1) hF hm hm2 (by kernel_rfl) (rdList ρ) (fun w2 c l1 n e2 hc1 hr1 hl1 hn1 => by simpa using takeInR_c hr1 (fun k hk => by have := hF k hk; have := e2.size; omega) (fun h => by have := hF _ h; omega) (by omega) (by omega) hb (hb1.ext e2) (by omega) ρ hρ (fun w3 l3 k3 hr3 hl3 => hone w3 c l3 ((e1.trans e2).step k3 (fun i hi h => by omega)) (by omega) hr3 (by omega)))) ?_))
      rintro r w2 ⟨h2, k2⟩
      have zs_k2 := k2.size
      rw [hq] at h2
      obtain ⟨a4, c4, rfl, o4, h4⟩ := h2
      refine l_v (v_extract (t := .slice _ _ _) rfl rfl) ?_
      refine l_v (v_extract (t := .int _ _) rfl rfl) ?_
      refine l_v (v_assign (t := .slice _ _ _) rfl) ?_
      refine l_v (v_assign (t := .int _ _) rfl) ?_
      refine l_nil ?_
      refine n_then ?_
      refine c_ret ?_
      refine ret2 rfl (by decide) (by decide) ?_
      exact ⟨⟨a4, c4, rfl, (o4.base (by omega)).mono (fun i _ h => by omega), h4⟩, (e1.mono fun _ _ h => h.elim).trans k2⟩

end Go.Proofs.Ytkaangdfpjkjpaa

namespace Go.Proofs.Ytkaangdfpjkjpaa
open Go.Vc
set_option linter.unusedVariables false
set_option linter.unusedSimpArgs false
set_option maxRecDepth 100000

theorem oneR_c {w : World} {b : Nat} {F : Nat → Prop} {l : List UInt8} (HR : Rd nRd w b F l) (hF : ∀ k, F k → k < b) (hl : l.length ≤ 100000) : CallsR Try.prog 78 (#[.pointer (some ⟨b, 0, none⟩)] ++ #[]) w (fun r w2 => OneVR w w2 b F (rdR l) r ∧ Keep (fun k => k = b) w w2) := by
  have hblt : b < w.heap.size := by obtain ⟨_, _, h, _⟩ := HR; exact h.lt
  have hnF : ¬ F b := fun h => absurd (hF b h) (Nat.lt_irrefl b)
  show CallsR _ _ #[_] _ _
  refine enter 33 Try.func78 rfl rfl (by simp) ?_
  refine c_seq ?_
  have E := Keep.refl (K := fun k => k = b) w
  refine wp_reg (by decide +kernel) ?_
  refine l_to (to_alloc (z := (.agg #[.slice none 0 0, .slice none 0 0, .bool false, .int .i64 0])) (by unfold kZero; kernel_rfl) ?_)
  rintro b2 w2 zb2 HB2 e2 z2
  have zs_e2 := e2.size
  replace E := E.trans (Ext.keep e2)
  replace HR := HR.ext e2
  try simp only [Value.cells] at HB2
  refine l_v (v_assign rfl) ?_
  refine l_nil ?_
  refine n_then ?_
  refine c_seq ?_
  refine wp_reg (by decide +kernel) ?_
  refine l_v (v_move (t := .pointer _) rfl) ?_
  refine l_to (to_f2 (by kernel_rfl) (show _ = (Value.pointer _) from rfl) (show _ = (Value.int _ _) from rfl) (CallsR.mono (Bytes2_c (most := 24) HR hF (by decide) (by decide) (by omega)) ?_))
  rintro r w3 ⟨hr3, k3⟩
  have zs_k3 := k3.size
  obtain ⟨a3, c3, er3, fr, l1, rfl, HO3, HR3, hx3⟩ := TryV_any hr3
  replace E := E.step k3 (by intro i hi he; (try dsimp only [NoK] at hi he ⊢); first | exact he.elim | omega | exact he)
  replace HB2 := HB2.keep k3 (by intro h; (try dsimp only at h); first | omega)
  have zo_HO3 := fun (b : Nat) h => HO3.own_lt (b := b) h
  refine l_v (v_move (t := .tuple _) rfl) ?_
  refine l_v (v_extract (t := .slice _ _ _) rfl rfl) ?_
  refine l_v (v_extract (t := .int _ _) rfl rfl) ?_
  refine l_v (v_assign (t := .slice _ _ _) rfl) ?_
  refine l_v (v_assign (t := .int _ _) rfl) ?_
  refine l_nil ?_
  refine n_then ?_
  refine c_seq ?_
  refine wp_reg (by decide +kernel) ?_
  refine l_v (v_move (t := .pointer _) rfl) ?_
  refine l_to (to_f1 (by kernel_rfl) (show _ = (Value.pointer _) from rfl) (CallsR.mono (rNumber_c HR3 hnF) ?_))
  rintro r w4 ⟨hr4, HR4, k4⟩
  have zs_k4 := k4.size
  obtain ⟨n, ne, hn, hnl, hnx⟩ := numV_any l1
  rw [hn] at hr4
  subst hr4
  replace E := E.step k4 (by intro i hi he; (try dsimp only [NoK] at hi he ⊢); first | exact he.elim | omega | exact he)
  replace HB2 := HB2.keep k4 (by intro h; (try dsimp only at h); first | omega)
  replace HO3 := HO3.keep k4 (by intro i ho he; have he0 := he; have ho0 := ho; (try dsimp only [NoK] at he); (try simp only [Value.ownBlock, Option.some.injEq, reduceCtorEq] at ho); (try simp only [Value.ownBlock, Option.some.injEq, reduceCtorEq] at he); first | exact he.elim | exact ho.elim | omega | (have := zo_HO3 _ ho0; omega)) (by intro i _ hi _ he; have he0 := he; have hi := hi; have he := he; (try dsimp only [NoK, AllB] at hi he); (try simp only [Value.ownBlock, Option.some.injEq, reduceCtorEq] at he); first | exact hi.elim | exact hi.1.elim | exact he.elim | omega | (rcases hi with hi | hi <;> omega) | (rcases he with he | he <;> omega))
  refine l_v (v_move (t := .tuple _) rfl) ?_
  refine l_v (v_extract (t := .int _ _) rfl rfl) ?_
  refine l_v (v_extract (t := .int _ _) rfl rfl) ?_
  refine l_v (v_assign (t := .int _ _) rfl) ?_
  refine l_v (v_assign (t := .int _ _) rfl) ?_
  refine l_nil ?_
  refine n_then ?_
  refine c_seq ?_
  refine c_seq ?_
  refine wp_reg (by decide +kernel) ?_
  refine l_v (v_move (t := .int _ _) rfl) ?_
  refine l_v (v_neq rfl rfl) ?_
  refine l_v (v_move (t := .bool _) rfl) ?_
  refine l_g1 rfl rfl (fun hG => v_move (t := .int _ _) rfl) ?_
  refine l_g1 rfl rfl (fun hG => v_neq (gd hG rfl) rfl) ?_
  refine l_v (v_or rfl rfl) ?_
  refine l_v (v_move (t := .bool _) rfl) ?_
  refine l_g1 rfl rfl (fun hG => v_move (t := .int _ _) rfl) ?_
  refine l_g1 rfl rfl (fun hG => v_geq (gd hG rfl) rfl) ?_
  refine l_v (v_or rfl rfl) ?_
  refine l_nil ?_
  refine n_then ?_
  refine c_cond rfl rfl (fun hc => ?_) (fun hc => ?_)
  · skip
    refine c_seq ?_
    refine wp_reg (by decide +kernel) ?_
    refine l_v (v_build (pl := [(0, 1), (1, 1), (2, 1), (3, 1)]) (z := .agg #[.slice none 0 0, .slice none 0 0, .bool false, .int .i64 0]) (zl := [.slice none 0 0, .slice none 0 0, .bool false, .int .i64 0]) (by kernel_rfl) (by unfold kZero; kernel_rfl) rfl rfl (cells := [_, _, _, _]) rfl) ?_
    refine l_to (to_storeA (n := 4) rfl rfl (show _ = (Value.agg _) from rfl) (by kernel_rfl) rfl (by first | (simp [slice_one]; done) | (simp only [List.forall_mem_cons, List.cons_append, List.nil_append]; repeat' (first | exact rfl | apply And.intro | (intro u hu; cases hu; done)))) HB2 (by first | exact of_decide_eq_true rfl | (simp; done) | decide) ?_)
    rintro w101 HX101 k101 z101
    have zs_k101 := k101.size
    replace E := E.step k101 (by intro i hi he; (try dsimp only [NoK] at hi he ⊢); first | exact he.elim | omega | exact he)
    replace HO3 := HO3.keep k101 (by intro i ho he; have he0 := he; have ho0 := ho; (try dsimp only [NoK] at he); (try simp only [Value.ownBlock, Option.some.injEq, reduceCtorEq] at ho); (try simp only [Value.ownBlock, Option.some.injEq, reduceCtorEq] at he); first | exact he.elim | exact ho.elim | omega | (have := zo_HO3 _ ho0; omega)) (by intro i _ hi _ he; have he0 := he; have hi := hi; have he := he; (try dsimp only [NoK, AllB] at hi he); (try simp only [Value.ownBlock, Option.some.injEq, reduceCtorEq] at he); first | exact hi.elim | exact hi.1.elim | exact he.elim | omega | (rcases hi with hi | hi <;> omega) | (rcases he with he | he <;> omega))
    replace HR4 := HR4.keep k101 (by intro h; have h := h; (try dsimp only [NoK] at h); first | exact h | omega | (rcases h with h | h <;> omega)) (by intro i hi he; have hi0 := hi; have hi := hi; have he := he; (try dsimp only [NoK] at hi he); first | exact he.elim | omega | (have := hF i hi0; omega))
    replace HB2 := HX101
    clear HX101
    try simp only [List.set_cons_zero, List.set_cons_succ, setAt, List.take_zero, List.take_succ_cons, List.drop_zero, List.drop_succ_cons, List.nil_append, List.cons_append, List.append_nil, List.length_cons, List.length_nil, Nat.zero_add, Nat.reduceAdd, List.drop_nil] at HB2
    refine l_v (v_assign rfl) ?_
    refine l_nil ?_
    refine n_then ?_
    refine c_ret ?_
    refine r_then ?_
    refine ret2cv (n := 4) rfl (by decide) (by decide) rfl (by kernel_rfl) HB2.pv rfl (show _ = (Value.int _ _) from rfl) ?_
    refine ⟨?_, E⟩
    have h : rdR l = .error 4 := by
      rw [rdR]
      rcases hx3 with ⟨he, hq⟩ | ⟨_, _, _, _, _, hq⟩
      · rw [show rdBytes 24 l = _ from hq]
        rcases hnx with ⟨hne, _, hd⟩ | ⟨_, _, _, hd⟩
        · simp only [hd]
          rw [if_neg]
          intro h5
          simp only [Bool.or_eq_true, decide_eq_true_eq, Bool.not_eq_true', decide_eq_false_iff_not, ne_eq] at hc
          omega
        · simp only [hd]
      · rw [show rdBytes 24 l = _ from hq]
    rw [h]
    exact ⟨by decide, _, ([], [], false, 0), rfl, tRg_mk (SlV.nil _ _ _) (SlV.nil _ _ _) (by decide)⟩
  · skip
    simp only [Bool.or_eq_false_iff, decide_eq_false_iff_not, Bool.not_eq_false', decide_eq_true_eq, ne_eq, Decidable.not_not] at hc
    refine c_skip ?_
    refine n_then ?_
    refine c_seq ?_
    refine wp_reg (by decide +kernel) ?_
    refine l_v (v_move (t := .slice _ _ _) rfl) ?_
    refine l_v (v_move (t := .int _ _) rfl) ?_
    refine l_v (v_conv (ds := .int .u64) (by kernel_rfl) (by kernel_rfl) rfl (by first | exact wr_i64 (by omega) (by omega) | rfl)) ?_
    refine l_v (v_build (pl := [(0, 1), (1, 1), (2, 1), (3, 1)]) (z := .agg #[.slice none 0 0, .slice none 0 0, .bool false, .int .i64 0]) (zl := [.slice none 0 0, .slice none 0 0, .bool false, .int .i64 0]) (by kernel_rfl) (by unfold kZero; kernel_rfl) rfl rfl (cells := [_, _, _, _]) rfl) ?_
    refine l_to (to_storeA (n := 4) rfl rfl (show _ = (Value.agg _) from rfl) (by kernel_rfl) rfl (by first | (simp [slice_one]; done) | (simp only [List.forall_mem_cons, List.cons_append, List.nil_append]; repeat' (first | exact rfl | apply And.intro | (intro u hu; cases hu; done)))) HB2 (by first | exact of_decide_eq_true rfl | (simp; done) | decide) ?_)
    rintro w102 HX102 k102 z102
    have zs_k102 := k102.size
    replace E := E.step k102 (by intro i hi he; (try dsimp only [NoK] at hi he ⊢); first | exact he.elim | omega | exact he)
    replace HO3 := HO3.keep k102 (by intro i ho he; have he0 := he; have ho0 := ho; (try dsimp only [NoK] at he); (try simp only [Value.ownBlock, Option.some.injEq, reduceCtorEq] at ho); (try simp only [Value.ownBlock, Option.some.injEq, reduceCtorEq] at he); first | exact he.elim | exact ho.elim | omega | (have := zo_HO3 _ ho0; omega)) (by intro i _ hi _ he; have he0 := he; have hi := hi; have he := he; (try dsimp only [NoK, AllB] at hi he); (try simp only [Value.ownBlock, Option.some.injEq, reduceCtorEq] at he); first | exact hi.elim | exact hi.1.elim | exact he.elim | omega | (rcases hi with hi | hi <;> omega) | (rcases he with he | he <;> omega))
    replace HR4 := HR4.keep k102 (by intro h; have h := h; (try dsimp only [NoK] at h); first | exact h | omega | (rcases h with h | h <;> omega)) (by intro i hi he; have hi0 := hi; have hi := hi; have he := he; (try dsimp only [NoK] at hi he); first | exact he.elim | omega | (have := hF i hi0; omega))
    replace HB2 := HX102
    clear HX102
    try simp only [List.set_cons_zero, List.set_cons_succ, setAt, List.take_zero, List.take_succ_cons, List.drop_zero, List.drop_succ_cons, List.nil_append, List.cons_append, List.append_nil, List.length_cons, List.length_nil, Nat.zero_add, Nat.reduceAdd, List.drop_nil] at HB2
    refine l_v (v_assign rfl) ?_
    refine l_nil ?_
    refine n_then ?_
    refine c_ret ?_
    refine ret2cv (n := 4) rfl (by decide) (by decide) rfl (by kernel_rfl) HB2.pv rfl (show _ = (Value.int _ _) from rfl) ?_
    refine ⟨?_, E⟩
    rcases hx3 with ⟨he, hq⟩ | ⟨he, _, _, _, _, hq⟩
    · rcases hnx with ⟨hne, _, hd⟩ | ⟨hne, _, _, hd⟩
      · have h : rdR l = .ok ((fr, [], false, (n : Int)), rest l1) := by
          rw [rdR, show rdBytes 24 l = _ from hq]
          simp only [hd]
          rw [if_pos (by omega)]
        rw [h, he]
        exact ⟨_, rfl, tRg_mk (HO3.view.mono fun b _ h => by rcases h with h | h <;> omega) (SlV.nil _ _ _) (by omega), HR4⟩
      · omega
    · omega
/-- what the ranges' ends are: the beginnings of those behind them -/
def fixL : List RgV → List RgV
  | r :: s :: t => (r.1, s.1, true, r.2.2.2) :: fixL (s :: t)
  | l => l
theorem fixL_len : ∀ l, (fixL l).length = l.length
  | [] => rfl
  | [_] => rfl
  | r :: s :: t => by rw [fixL, List.length_cons, fixL_len (s :: t)]; rfl
theorem fixL_snoc : ∀ (l : List RgV) (p x : RgV), fixL (l ++ [p] ++ [x]) = (fixL (l ++ [p])).set l.length (p.1, x.1, true, p.2.2.2) ++ [x]
  | [], p, x => rfl
  | [r], p, x => rfl
  | r :: s :: t, p, x => by
    have h := fixL_snoc (s :: t) p x
    simp only [List.cons_append] at h ⊢
    rw [fixL, fixL, h]; rfl
theorem fixL_last : ∀ (l : List RgV) (p : RgV), (fixL (l ++ [p]))[l.length]? = some p
  | [], p => rfl
  | [r], p => rfl
  | r :: s :: t, p => by
    have h := fixL_last (s :: t) p
    simp only [List.cons_append] at h ⊢
    rw [fixL, List.length_cons, List.getElem?_cons_succ]; exact h
/-- so many of them -/
def fixN (i : Nat) (l : List RgV) : List RgV := fixL (l.take i) ++ l.drop i
theorem fixN_len (i : Nat) (l : List RgV) : (fixN i l).length = l.length := by
  rw [fixN, List.length_append, fixL_len, ← List.length_append, List.take_append_drop]
theorem fixN_zero (l : List RgV) : fixN 0 l = l := by simp [fixN, fixL]
theorem fixN_one (l : List RgV) : fixN 1 l = l := by
  cases l with
  | nil => rfl
  | cons r l => simp [fixN, fixL]
theorem fixN_all {l : List RgV} {i : Nat} (h : l.length ≤ i) : fixN i l = fixL l := by
  rw [fixN, List.take_of_length_le h, List.drop_eq_nil_of_le h, List.append_nil]
theorem fixN_parts {l : List RgV} {i : Nat} {p x : RgV} (hp : l[i]? = some p) (hx : l[i + 1]? = some x) :
    (fixN (i + 1) l)[i]? = some p ∧ (fixN (i + 1) l)[i + 1]? = some x ∧ fixN (i + 2) l = (fixN (i + 1) l).set i (p.1, x.1, true, p.2.2.2) := by
  have hlt := (List.getElem?_eq_some_iff.1 hx).1
  have e1 : l.take (i + 1) = l.take i ++ [p] := by rw [List.take_add_one, hp]; rfl
  have e2 : l.take (i + 1 + 1) = l.take i ++ [p] ++ [x] := by rw [List.take_add_one, hx, e1]; rfl
  have e3 : l.drop (i + 1) = x :: l.drop (i + 1 + 1) := by rw [List.drop_eq_getElem?_toList_append, hx]; rfl
  have e4 : (l.take i).length = i := by rw [List.length_take]; omega
  have h1 := fixL_last (l.take i) p
  have h2 := fixL_snoc (l.take i) p x
  rw [e4] at h1 h2
  have e5 : (fixL (l.take i ++ [p])).length = i + 1 := by rw [fixL_len, List.length_append, e4]; rfl
  refine ⟨?_, ?_, ?_⟩
  · rw [fixN, e1, List.getElem?_append_left (by omega)]; exact h1
  · rw [fixN, e1, List.getElem?_append_right (by omega), e5, e3, Nat.sub_self]; rfl
  · rw [fixN, fixN, show i + 2 = i + 1 + 1 from rfl, e2, h2, e1, List.set_append_left _ _ (by omega), List.append_assoc]
    congr 1
    rw [e3]; rfl
/-- what bytes are read as -/
def readM (l : List UInt8) : MpV × Int := match rdNum l with
  | none => (mp0, 4)
  | some (n, l1) => match tryRd (rdList rdR) 16 l1 with
    | .error _ => (mp0, 4)
    | .ok (rs, l2) => if l2 = [] ∧ n ≤ 2147483647 ∧ mayM ((n : Int), fixL rs) = true then (((n : Int), fixL rs), 0) else (mp0, 4)
theorem rdList_all {α : Type} {ρ : List UInt8 → Except Int (α × List UInt8)} {p : α → Prop} (h : ∀ l x r, ρ l = .ok (x, r) → p x) : ∀ (n : Nat) (l : List UInt8) (xs : List α) (r : List UInt8), rdList ρ n l = .ok (xs, r) → xs.length = n ∧ ∀ x ∈ xs, p x
  | 0, l, xs, r, h1 => by cases h1; exact ⟨rfl, fun x hx => by cases hx⟩
  | n + 1, l, xs, r, h1 => by
    rw [rdList] at h1
    rcases hq : ρ l with e | ⟨x, l2⟩
    · rw [hq] at h1; cases h1
    · rw [hq] at h1
      simp only [] at h1
      rcases hq2 : rdList ρ n l2 with e | ⟨ys, l3⟩
      · rw [hq2] at h1; cases h1
      · rw [hq2] at h1
        cases h1
        obtain ⟨h2, h3⟩ := rdList_all h n l2 ys _ hq2
        exact ⟨by rw [List.length_cons, h2], fun y hy => by rcases List.mem_cons.1 hy with rfl | hy; exact h _ _ _ hq; exact h3 y hy⟩
theorem rdR_small : ∀ l x r, rdR l = .ok (x, r) → x.1.length ≤ 24 := by
  intro l x r h
  rw [rdR] at h
  rcases hd : rdBytes 24 l with e | ⟨fr, l1⟩
  · rw [hd] at h; cases h
  · rw [hd] at h; simp only [] at h
    have h1 := (rdBytes_le hd).2.1
    rcases hd2 : rdNum l1 with _ | ⟨n, l2⟩
    · rw [hd2] at h; cases h
    · rw [hd2] at h; simp only [] at h
      by_cases h5 : n < 5
      · rw [if_pos h5] at h; cases h; exact h1
      · rw [if_neg h5] at h; cases h
theorem tryRd_small {m : Nat} {l : List UInt8} {rs : List RgV} {l2 : List UInt8} (h : tryRd (rdList rdR) m l = .ok (rs, l2)) : rs.length ≤ m ∧ ∀ r ∈ rs, r.1.length ≤ 24 := by
  rw [tryRd] at h
  rcases hd : rdNum l with _ | ⟨k, l'⟩
  · rw [hd] at h; cases h
  · rw [hd] at h; simp only [] at h
    by_cases hm : k ≤ m
    · rw [if_pos hm] at h
      obtain ⟨h1, h2⟩ := rdList_all rdR_small _ _ _ _ h
      exact ⟨by omega, h2⟩
    · rw [if_neg hm] at h; cases h
theorem wrap_rng (n : Int) : -9223372036854775808 ≤ IntKind.i64.wrap n ∧ IntKind.i64.wrap n ≤ 9223372036854775807 := by rw [IntKind.wrap_i64]; omega
theorem rRead_c {w : World} {F0 : Nat → Prop} {v : Value} {l : List UInt8} (HS1 : Bv w F0 v l) (hl : l.length ≤ 100000) : CallsR Try.prog 43 #[v] w (fun o w' => (∃ x, o = .tuple #[x, .int .i64 (readM l).2] ∧ AgV tMp w' (fun b => w.heap.size ≤ b) x (readM l).1) ∧ Ext w w') := by
  obtain ⟨a1, c1, rfl⟩ := HS1.shape
  refine enter 73 Try.func43 rfl rfl (by simp) ?_
  refine c_seq ?_
  have E := Keep.refl (K := NoK) w
  replace HS1 := HS1.all
  refine wp_reg (by decide +kernel) ?_
  refine l_to (to_alloc (z := (.agg #[.int .i64 0, .slice none 0 0])) (by unfold kZero; kernel_rfl) ?_)
  rintro b2 w2 zb2 HB2 e2 z2
  have zs_e2 := e2.size
  replace E := E.trans (Ext.keep e2)
  replace HS1 := HS1.ext e2
  try simp only [Value.cells] at HB2
  refine l_v (v_assign rfl) ?_
  refine l_nil ?_
  refine n_then ?_
  refine c_seq ?_
  refine wp_reg (by decide +kernel) ?_
  refine l_v (v_move (t := .slice _ _ _) rfl) ?_
  refine l_to (to_f1 (by kernel_rfl) (show _ = (Value.slice _ _ _) from rfl) (CallsR.mono (Open_c HS1 (by omega)) ?_))
  rintro _ w3 ⟨b4, rfl, HR4, hb4, e4, hlt4⟩
  have zs_e4 := e4.size
  have hF : ∀ k, (w2.heap.size ≤ k ∧ k < b4) → k < b4 := fun k h => h.2
  replace E := E.trans (Ext.keep e4)
  replace HB2 := HB2.ext e4
  refine l_v (v_assign (t := .pointer _) rfl) ?_
  refine l_nil ?_
  refine n_then ?_
  refine c_seq ?_
  refine wp_reg (by decide +kernel) ?_
  refine l_v (v_move (t := .pointer _) rfl) ?_
  refine l_to (to_f1 (by kernel_rfl) (show _ = (Value.pointer _) from rfl) (CallsR.mono (rNumber_c HR4 (fun h => by omega)) ?_))
  rintro r w5 ⟨hr5, HR5, k5⟩
  have zs_k5 := k5.size
  obtain ⟨n, ne, hn, hnl, hnx⟩ := numV_any l
  rw [hn] at hr5
  subst hr5
  have hrl : (rest l).length ≤ l.length := by
    rcases hnx with ⟨_, h, _⟩ | ⟨_, _, h, _⟩
    · have := congrArg List.length h; rw [List.length_append] at this; omega
    · rw [h]; omega
  replace E := E.step k5 (by intro i hi he; (try dsimp only [NoK] at hi he ⊢); first | exact he.elim | omega | exact he)
  replace HB2 := HB2.keep k5 (by intro h; (try dsimp only at h); first | omega)
  refine l_v (v_move (t := .tuple _) rfl) ?_
  refine l_v (v_extract (t := .int _ _) rfl rfl) ?_
  refine l_v (v_extract (t := .int _ _) rfl rfl) ?_
  refine l_v (v_assign (t := .int _ _) rfl) ?_
  refine l_v (v_assign (t := .int _ _) rfl) ?_
  refine l_nil ?_
  refine n_then ?_
  refine c_seq ?_
  refine wp_reg (by decide +kernel) ?_
  refine l_v (v_move (t := .pointer _) rfl) ?_
  refine l_to (to_f3 (by kernel_rfl) (show _ = (Value.pointer _) from rfl) (show _ = (Value.int _ _) from rfl) rfl (CallsR.mono (takeR_c (cap := #[]) (most := 16) HR5 hF (by decide) (by decide) (by omega) (by kernel_rfl) rdR rdR_short (fun w1 c l1 e1 hc1 hr1 hl1 => oneR_c hr1 (fun k h => by have := h.2; omega) (by omega))) ?_))
  rintro r w6 ⟨hr6, k6⟩
  have zs_k6 := k6.size
  obtain ⟨a6, c6, er6, rs, l2, rfl, HO6, HR6, hx6⟩ := TryV_any hr6
  have hlen : rs.length ≤ 16 ∧ ∀ r ∈ rs, r.1.length ≤ 24 := by
    rcases hx6 with ⟨_, hq⟩ | ⟨_, h, _⟩
    · exact tryRd_small hq
    · rw [h]; simp
  obtain ⟨hlen, hfl⟩ := hlen
  have HOx0 : OwV tRg 37 w6 w5.heap.size (fun b => w5.heap.size ≤ b ∧ b < w6.heap.size) (.slice a6 rs.length c6) (fixN 0 rs) := by rw [fixN_zero]; exact (HO6.mono fun b hb h => ⟨by omega, hb⟩).base (by omega)
  replace E := E.step k6 (by intro i hi he; (try dsimp only [NoK] at hi he ⊢); first | exact he.elim | omega | exact he)
  replace HB2 := HB2.keep k6 (by intro h; (try dsimp only at h); first | omega)
  have zo_HO6 := fun (b : Nat) h => HO6.own_lt (b := b) h
  have zo_HOx0 := fun (b : Nat) h => HOx0.own_lt (b := b) h
  refine l_v (v_move (t := .tuple _) rfl) ?_
  refine l_v (v_extract (t := .slice _ _ _) rfl rfl) ?_
  refine l_v (v_extract (t := .int _ _) rfl rfl) ?_
  refine l_v (v_assign (t := .slice _ _ _) rfl) ?_
  refine l_v (v_assign (t := .int _ _) rfl) ?_
  refine l_nil ?_
  refine n_then ?_
  refine c_seq ?_
  refine c_seq ?_
  refine wp_reg (by decide +kernel) ?_
  refine l_v (v_move (t := .slice _ _ _) rfl) ?_
  refine l_v (v_len (et := 37) (by kernel_rfl) rfl) ?_
  refine l_v (v_move rfl) ?_
  refine l_nil ?_
  refine n_then ?_
  refine c_block ?_
  refine c_loop (τ := Nat) [9, 25, 26, 27, 28, 29, 30, 31, 32, 33, 34, 35, 36, 37, 38, 39, 40, 41, 42, 43, 44, 45, 46] (fun i => [(25, .int .i64 i)]) (fun i W => Ext w W ∧ Keep (fun b => w5.heap.size ≤ b) w6 W ∧ i ≤ rs.length ∧ OwV tRg 37 W w5.heap.size (fun b => w5.heap.size ≤ b ∧ b < W.heap.size) (.slice a6 rs.length c6) (fixN i rs)) (fun i => rs.length - i) 0 (by exact ⟨rfl, trivial⟩) (by exact ⟨E, Keep.refl _, Nat.zero_le _, HOx0⟩) ?_
  rintro i w101 j ⟨E, EL1, h1, HOx⟩
  have zs_EL1 := EL1.size
  replace HB2 := HB2.keep EL1 (by intro h; (try dsimp only at h); first | omega)
  replace HR6 := HR6.keep EL1 (by intro h; have h := h; (try dsimp only [NoK] at h); first | exact h | omega | (rcases h with h | h <;> omega)) (by intro i hi he; have hi0 := hi; have hi := hi; have he := he; (try dsimp only [NoK] at hi he); first | exact he.elim | omega | (have := hF i hi0; omega))
  have zo_HOx := fun (b : Nat) h => HOx.own_lt (b := b) h
  refine c_seq ?_
  refine wp_reg (by decide +kernel) ?_
  refine l_v (v_lss rfl rfl) ?_
  refine l_nil ?_
  refine n_then ?_
  refine c_seq ?_
  refine c_cond rfl rfl (fun hlt => ?_) (fun hlt => ?_)
  · skip
    have hlt := dtrue hlt
    refine c_skip ?_
    refine n_then ?_
    refine c_seq ?_
    refine c_block ?_
    refine c_seq ?_
    refine wp_reg (by decide +kernel) ?_
    refine l_v (v_move (t := .int _ _) rfl) ?_
    refine l_v (v_assign (t := .int _ _) rfl) ?_
    refine l_nil ?_
    refine n_then ?_
    refine c_seq ?_
    refine wp_reg (by decide +kernel) ?_
    refine l_v (v_move (t := .int _ _) rfl) ?_
    refine l_v (v_gtr rfl rfl) ?_
    refine l_nil ?_
    refine n_then ?_
    refine c_cond rfl rfl (fun hi => ?_) (fun hi => ?_)
    · skip
      have hi := dtrue hi
      obtain ⟨j, rfl⟩ : ∃ j, i = j + 1 := ⟨i - 1, by omega⟩
      obtain ⟨p, hp, _⟩ := getE (l := rs) (i := j) (by omega)
      obtain ⟨x, hx, _⟩ := getE (l := rs) (i := j + 1) (by omega)
      obtain ⟨hfp, hfx, hfs⟩ := fixN_parts hp hx
      have hx1 := hfl x (List.mem_of_getElem? hx)
      obtain ⟨bo, rfl, hbo1, hbo2⟩ := HOx.addr (fun h => by have := congrArg List.length h; rw [fixN_len, List.length_nil] at this; omega)
      obtain ⟨q, cs, hq, hFq, hqb, HPq, hrx⟩ := HOx.view.el hfx
      cases hq
      obtain ⟨b7, d7, b8, d8, rfl, HSf, _, hgx⟩ := tRg_cells hrx
      refine wp_reg (by decide +kernel) ?_
      refine l_v (v_move (t := .slice _ _ _) rfl) ?_
      refine l_v (v_move (t := .int _ _) rfl) ?_
      refine l_v (v_sub rfl rfl (by first | exact wr_i64 (by omega) (by omega) | rfl)) ?_
      refine l_v (v_move (t := .slice _ _ _) rfl) ?_
      refine l_v (v_move (t := .int _ _) rfl) ?_
      refine l_v (v_sub rfl rfl (by first | exact wr_i64 (by omega) (by omega) | rfl)) ?_
      refine l_v (v_move (t := .slice _ _ _) rfl) ?_
      refine l_v (v_move (t := .int _ _) rfl) ?_
      refine l_v (v_indexAddr (et := 37) (sz := 4) (k := j + 1) (by kernel_rfl) (by kernel_rfl) rfl rfl (by first | rfl | omega) (by omega)) ?_
      refine l_v (v_fieldAddr (off := 0) (ft := 35) (by kernel_rfl) rfl) ?_
      refine l_v (v_load (by kernel_rfl) rfl (by first | exact HPq 0 _ rfl | exact HB2.pv 0 _ rfl | assumption)) ?_
      refine l_to (to_f1 (by kernel_rfl) (show _ = (Value.slice _ _ _) from rfl) (CallsR.mono (Clone_c HSf (by omega)) ?_))
      rintro _ w41 ⟨HO41, e41⟩
      have zs_e41 := e41.size
      obtain ⟨a41, c41, rfl⟩ := HO41.shape
      replace E := E.trans (Ext.keep e41)
      replace HB2 := HB2.ext e41
      replace HR6 := HR6.ext e41
      replace HOx := HOx.ext e41
      replace EL1 := EL1.trans (Ext.keep e41)
      replace HPq := HPq.ext e41
      replace HSf := HSf.ext e41
      have zo_HO41 := fun (b : Nat) h => HO41.own_lt (b := b) h
      have HOy := HOx.mono (F' := fun b => w5.heap.size ≤ b) (fun b _ h => h.1)
      refine l_v (v_indexAddr (et := 37) (sz := 4) (k := j) (by kernel_rfl) (by kernel_rfl) rfl rfl (by first | rfl | omega) (by omega)) ?_
      refine l_v (v_fieldAddr (off := 1) (ft := 35) (by kernel_rfl) rfl) ?_
      refine l_to (to_storeO (k := j) (off := 1) rfl (by rw [show tRg.sz = 4 from rfl]; simp [add_lit]) (by decide) (show _ = (Value.slice _ _ _) from rfl) rfl (by kernel_rfl) HOy (x1 := (p.1, x.1, p.2.2.1, p.2.2.2)) hfp (fun cs h => by obtain ⟨y1, d1, y2, d2, rfl, h1, h2, h3⟩ := tRg_cells h; exact tRg_mk h1 (HO41.view.mono fun b hb hF => ⟨by have h5 := hF.resolve_right (fun h => h); (try dsimp only at h5); omega, by have h5 := hF.resolve_right (fun h => h); (try dsimp only at h5); omega⟩) h3) ?_)
      rintro w43 HOz k43 z43
      have zs_k43 := k43.size
      replace E := E.step k43 (by intro i hi he; (try dsimp only [NoK] at hi he ⊢); first | exact he.elim | omega | exact he)
      replace HB2 := HB2.keep k43 (by intro h; (try dsimp only at h); first | omega)
      replace HR6 := HR6.keep k43 (by intro h; have h := h; (try dsimp only [NoK] at h); first | exact h | omega | (rcases h with h | h <;> omega)) (by intro i hi he; have hi0 := hi; have hi := hi; have he := he; (try dsimp only [NoK] at hi he); first | exact he.elim | omega | (have := hF i hi0; omega))
      replace EL1 := EL1.step k43 (by intro i hi he; (try dsimp only [NoK] at hi he ⊢); first | exact he.elim | omega | exact he)
      have zo_HOz := fun (b : Nat) h => HOz.own_lt (b := b) h
      refine l_v (v_indexAddr (et := 37) (sz := 4) (k := j) (by kernel_rfl) (by kernel_rfl) rfl rfl (by first | rfl | omega) (by omega)) ?_
      refine l_v (v_fieldAddr (off := 2) (ft := 4) (by kernel_rfl) rfl) ?_
      refine l_to (to_storeO (k := j) (off := 2) rfl (by rw [show tRg.sz = 4 from rfl]; simp [add_lit]) (by decide) (show _ = (Value.bool _) from rfl) rfl (by kernel_rfl) HOz (x1 := (p.1, x.1, true, p.2.2.2)) (List.getElem?_set_self (by have := (List.getElem?_eq_some_iff.1 hfp).1; exact this)) (fun cs h => by obtain ⟨y1, d1, y2, d2, rfl, h1, h2, h3⟩ := tRg_cells h; exact tRg_mk h1 h2 h3) ?_)
      rintro w45 HO45 k45 z45
      have zs_k45 := k45.size
      replace E := E.step k45 (by intro i hi he; (try dsimp only [NoK] at hi he ⊢); first | exact he.elim | omega | exact he)
      replace HB2 := HB2.keep k45 (by intro h; (try dsimp only at h); first | omega)
      replace HR6 := HR6.keep k45 (by intro h; have h := h; (try dsimp only [NoK] at h); first | exact h | omega | (rcases h with h | h <;> omega)) (by intro i hi he; have hi0 := hi; have hi := hi; have he := he; (try dsimp only [NoK] at hi he); first | exact he.elim | omega | (have := hF i hi0; omega))
      replace EL1 := EL1.step k45 (by intro i hi he; (try dsimp only [NoK] at hi he ⊢); first | exact he.elim | omega | exact he)
      have zo_HO45 := fun (b : Nat) h => HO45.own_lt (b := b) h
      refine l_nil ?_
      refine n_blk ?_
      refine n_then ?_
      refine wp_reg (by decide +kernel) ?_
      refine l_v (v_add rfl rfl (by first | exact wr_i64 (by omega) (by omega) | rfl)) ?_
      refine l_v (v_move (t := .int _ _) rfl) ?_
      refine l_nil ?_
      refine n_then ?_
      refine ⟨j + 1 + 1, _, rfl, by (repeat (first | exact Off.of_over _ _ _ | refine Off.upd ?_ (by decide) _)), ⟨by first | rfl | exact congrArg (Value.int _) (by omega) | (simp; done), trivial⟩, ⟨E, EL1, ?_⟩, ?_⟩
      · skip
        refine ⟨by omega, ?_⟩
        rw [show j + 1 + 1 = j + 2 from rfl, hfs]
        rw [List.set_set] at HO45
        exact HO45.mono fun b hb h => ⟨h, hb⟩
      · (dsimp only; omega)
    · skip
      have hi0 : i = 0 := by have := dfalse hi; omega
      subst hi0
      refine c_skip ?_
      refine n_blk ?_
      refine n_then ?_
      refine wp_reg (by decide +kernel) ?_
      refine l_v (v_add rfl rfl (by first | exact wr_i64 (by omega) (by omega) | rfl)) ?_
      refine l_v (v_move (t := .int _ _) rfl) ?_
      refine l_nil ?_
      refine n_then ?_
      refine ⟨0 + 1, _, rfl, by (repeat (first | exact Off.of_over _ _ _ | refine Off.upd ?_ (by decide) _)), ⟨by first | rfl | exact congrArg (Value.int _) (by omega) | (simp; done), trivial⟩, ⟨E, EL1, ?_⟩, ?_⟩
      · skip
        refine ⟨by omega, ?_⟩
        rw [fixN_one]; rw [fixN_zero] at HOx; exact HOx.mono fun b hb h => ⟨h.1, hb⟩
      · (dsimp only; omega)
  · skip
    have h2 := dfalse hlt
    have hall : fixN i rs = fixL rs := fixN_all (by omega)
    rw [hall] at HOx
    have HGm := AgV.mkMp (HOx.view.mono (F' := fun b => w5.heap.size ≤ b ∧ b < _) fun b hb h => ⟨by rcases h with h | h <;> omega, hb⟩) (wrap_rng n)
    refine c_exit ?_
    refine x_then ?_
    refine x_then ?_
    refine x_hit ?_
    refine n_then ?_
    refine c_seq ?_
    refine wp_reg (by decide +kernel) ?_
    refine l_v (v_move (t := .int _ _) rfl) ?_
    refine l_v (v_conv (t := IntKind.i64.wrap n) (ds := .int .u64) (by kernel_rfl) (by kernel_rfl) rfl (rfl)) ?_
    refine l_v (v_move (t := .slice _ _ _) rfl) ?_
    refine l_v (v_build (pl := [(0, 1), (1, 1)]) (z := .agg #[.int .i64 0, .slice none 0 0]) (zl := [.int .i64 0, .slice none 0 0]) (by kernel_rfl) (by unfold kZero; kernel_rfl) rfl rfl (cells := [_, _]) rfl) ?_
    refine l_to (to_alloc (z := (.agg #[.int .i64 0, .slice none 0 0])) (by unfold kZero; kernel_rfl) ?_)
    rintro b10 w10 zb10 HB10 e10 z10
    have zs_e10 := e10.size
    replace E := E.trans (Ext.keep e10)
    replace HB2 := HB2.ext e10
    replace HR6 := HR6.ext e10
    replace HOx := HOx.ext e10
    replace HGm := HGm.ext e10
    try simp only [Value.cells] at HB10
    refine l_to (to_storeA (n := 2) rfl rfl (show _ = (Value.agg _) from rfl) (by kernel_rfl) rfl (by first | (simp [slice_one]; done) | (simp only [List.forall_mem_cons, List.cons_append, List.nil_append]; repeat' (first | exact rfl | apply And.intro | (intro u hu; cases hu; done)))) HB10 (by first | exact of_decide_eq_true rfl | (simp; done) | decide) ?_)
    rintro w102 HX102 k102 z102
    have zs_k102 := k102.size
    replace E := E.step k102 (by intro i hi he; (try dsimp only [NoK] at hi he ⊢); first | exact he.elim | omega | exact he)
    replace HB2 := HB2.keep k102 (by intro h; (try dsimp only at h); first | omega)
    replace HR6 := HR6.keep k102 (by intro h; have h := h; (try dsimp only [NoK] at h); first | exact h | omega | (rcases h with h | h <;> omega)) (by intro i hi he; have hi0 := hi; have hi := hi; have he := he; (try dsimp only [NoK] at hi he); first | exact he.elim | omega | (have := hF i hi0; omega))
    replace HOx := HOx.keep k102 (by intro i ho he; have he0 := he; have ho0 := ho; (try dsimp only [NoK] at he); (try simp only [Value.ownBlock, Option.some.injEq, reduceCtorEq] at ho); (try simp only [Value.ownBlock, Option.some.injEq, reduceCtorEq] at he); first | exact he.elim | exact ho.elim | omega | (have := zo_HOx _ ho0; omega)) (by intro i _ hi _ he; have he0 := he; have hi := hi; have he := he; (try dsimp only [NoK, AllB] at hi he); (try simp only [Value.ownBlock, Option.some.injEq, reduceCtorEq] at he); first | exact hi.elim | exact hi.1.elim | exact he.elim | omega | (rcases hi with hi | hi <;> omega) | (rcases he with he | he <;> omega))
    replace HGm := HGm.keep k102 (by intro i _ hi he; (try dsimp only [NoK, AllB] at hi he); first | exact hi.elim | exact he.elim | omega | (rcases hi with hi | hi <;> omega) | (rcases he with he | he <;> omega))
    replace HB10 := HX102
    clear HX102
    try simp only [List.set_cons_zero, List.set_cons_succ, setAt, List.take_zero, List.take_succ_cons, List.drop_zero, List.drop_succ_cons, List.nil_append, List.cons_append, List.append_nil, List.length_cons, List.length_nil, Nat.zero_add, Nat.reduceAdd, List.drop_nil] at HB10
    refine l_nil ?_
    refine n_then ?_
    refine c_seq ?_
    refine c_seq ?_
    refine wp_reg (by decide +kernel) ?_
    refine l_v (v_move (t := .int _ _) rfl) ?_
    refine l_v (v_neq rfl rfl) ?_
    refine l_v (v_move (t := .bool _) rfl) ?_
    refine l_g1 rfl rfl (fun hG => v_move (t := .int _ _) rfl) ?_
    refine l_g1 rfl rfl (fun hG => v_neq (gd hG rfl) rfl) ?_
    refine l_v (v_or rfl rfl) ?_
    refine l_v (v_move (t := .bool _) rfl) ?_
    refine l_g1 rfl rfl (fun hG => v_move (t := .pointer _) rfl) ?_
    refine l_g1f rfl rfl (fun hG => to_f1 (by kernel_rfl) (gd hG rfl) (End_c HR6)) ?_
    rintro w103 e103
    have zs_e103 := e103.size
    replace E := E.trans (Ext.keep e103)
    replace HB2 := HB2.ext e103
    replace HR6 := HR6.ext e103
    replace HOx := HOx.ext e103
    replace HGm := HGm.ext e103
    replace HB10 := HB10.ext e103
    refine l_g1 rfl rfl (fun hG => v_neq (gd hG rfl) rfl) ?_
    refine l_v (v_or rfl rfl) ?_
    refine l_v (v_move (t := .bool _) rfl) ?_
    refine l_g1 rfl rfl (fun hG => v_move (t := .int _ _) rfl) ?_
    refine l_g1 rfl rfl (fun hG => v_gtr (gd hG rfl) rfl) ?_
    refine l_v (v_or rfl rfl) ?_
    refine l_v (v_move (t := .bool _) rfl) ?_
    refine l_g1 rfl rfl (fun hG => v_loadA (by kernel_rfl) rfl (by first | exact HB10.pv | exact HB2.pv | assumption) rfl) ?_
    refine l_g1f rfl rfl (fun hG => to_f1 (by kernel_rfl) (gd hG rfl) (May_c HGm)) ?_
    rintro w104 e104
    have zs_e104 := e104.size
    replace E := E.trans (Ext.keep e104)
    replace HB2 := HB2.ext e104
    replace HR6 := HR6.ext e104
    replace HOx := HOx.ext e104
    replace HGm := HGm.ext e104
    replace HB10 := HB10.ext e104
    refine l_g1 rfl rfl (fun hG => v_not (gd hG rfl)) ?_
    refine l_v (v_or rfl rfl) ?_
    refine l_nil ?_
    refine n_then ?_
    refine c_cond rfl rfl (fun hc => ?_) (fun hc => ?_)
    · skip
      refine c_seq ?_
      refine wp_reg (by decide +kernel) ?_
      refine l_v (v_build (pl := [(0, 1), (1, 1)]) (z := .agg #[.int .i64 0, .slice none 0 0]) (zl := [.int .i64 0, .slice none 0 0]) (by kernel_rfl) (by unfold kZero; kernel_rfl) rfl rfl (cells := [_, _]) rfl) ?_
      refine l_to (to_storeA (n := 2) rfl rfl (show _ = (Value.agg _) from rfl) (by kernel_rfl) rfl (by first | (simp [slice_one]; done) | (simp only [List.forall_mem_cons, List.cons_append, List.nil_append]; repeat' (first | exact rfl | apply And.intro | (intro u hu; cases hu; done)))) HB2 (by first | exact of_decide_eq_true rfl | (simp; done) | decide) ?_)
      rintro w105 HX105 k105 z105
      have zs_k105 := k105.size
      replace E := E.step k105 (by intro i hi he; (try dsimp only [NoK] at hi he ⊢); first | exact he.elim | omega | exact he)
      replace HR6 := HR6.keep k105 (by intro h; have h := h; (try dsimp only [NoK] at h); first | exact h | omega | (rcases h with h | h <;> omega)) (by intro i hi he; have hi0 := hi; have hi := hi; have he := he; (try dsimp only [NoK] at hi he); first | exact he.elim | omega | (have := hF i hi0; omega))
      replace HOx := HOx.keep k105 (by intro i ho he; have he0 := he; have ho0 := ho; (try dsimp only [NoK] at he); (try simp only [Value.ownBlock, Option.some.injEq, reduceCtorEq] at ho); (try simp only [Value.ownBlock, Option.some.injEq, reduceCtorEq] at he); first | exact he.elim | exact ho.elim | omega | (have := zo_HOx _ ho0; omega)) (by intro i _ hi _ he; have he0 := he; have hi := hi; have he := he; (try dsimp only [NoK, AllB] at hi he); (try simp only [Value.ownBlock, Option.some.injEq, reduceCtorEq] at he); first | exact hi.elim | exact hi.1.elim | exact he.elim | omega | (rcases hi with hi | hi <;> omega) | (rcases he with he | he <;> omega))
      replace HGm := HGm.keep k105 (by intro i _ hi he; (try dsimp only [NoK, AllB] at hi he); first | exact hi.elim | exact he.elim | omega | (rcases hi with hi | hi <;> omega) | (rcases he with he | he <;> omega))
      replace HB10 := HB10.keep k105 (by intro h; (try dsimp only at h); first | omega)
      replace HB2 := HX105
      clear HX105
      try simp only [List.set_cons_zero, List.set_cons_succ, setAt, List.take_zero, List.take_succ_cons, List.drop_zero, List.drop_succ_cons, List.nil_append, List.cons_append, List.append_nil, List.length_cons, List.length_nil, Nat.zero_add, Nat.reduceAdd, List.drop_nil] at HB2
      refine l_v (v_assign rfl) ?_
      refine l_nil ?_
      refine n_then ?_
      refine c_ret ?_
      refine r_then ?_
      refine ret2cv (n := 2) rfl (by decide) (by decide) rfl (by kernel_rfl) HB2.pv rfl (show _ = (Value.int _ _) from rfl) ?_
      have h : readM l = (mp0, 4) := by
        rw [readM]
        rcases hnx with ⟨hne, _, hd⟩ | ⟨_, _, _, hd⟩
        · simp only [hd]
          rcases hx6 with ⟨he, hq⟩ | ⟨_, _, _, _, _, hq⟩
          · rw [show tryRd (rdList rdR) 16 (rest l) = _ from hq]
            simp only []
            rw [if_neg]
            rintro ⟨h1, h2, h3⟩
            have hw : IntKind.i64.wrap n = n := wr_i64 (by omega) (by omega)
            rw [hne, he, h1, hw, h3, decide_eq_false (by omega : ¬ (2147483647 : Int) < (n : Int))] at hc
            simp at hc
          · rw [show tryRd (rdList rdR) 16 (rest l) = _ from hq]
        · simp only [hd]
      rw [h]
      exact ⟨⟨_, rfl, AgV.mkMp (SlV.nil _ _ _) (by decide)⟩, E⟩
    · skip
      simp only [Bool.or_eq_false_iff, decide_eq_false_iff_not, Bool.not_eq_false', decide_eq_true_eq] at hc
      obtain ⟨⟨⟨⟨hc1, hc2⟩, hc3⟩, hc4⟩, hc5⟩ := hc
      have hw : IntKind.i64.wrap n = n := wr_i64 (by omega) (by omega)
      rw [hw] at hc5 HGm HB10
      rw [hw]
      refine c_skip ?_
      refine n_then ?_
      refine c_seq ?_
      refine wp_reg (by decide +kernel) ?_
      refine l_v (v_loadA (by kernel_rfl) rfl (by first | exact HB10.pv | exact HB2.pv | assumption) rfl) ?_
      refine l_to (to_storeA (n := 2) rfl rfl (show _ = (Value.agg _) from rfl) (by kernel_rfl) rfl (by first | (simp [slice_one]; done) | (simp only [List.forall_mem_cons, List.cons_append, List.nil_append]; repeat' (first | exact rfl | apply And.intro | (intro u hu; cases hu; done)))) HB2 (by first | exact of_decide_eq_true rfl | (simp; done) | decide) ?_)
      rintro w106 HX106 k106 z106
      have zs_k106 := k106.size
      replace E := E.step k106 (by intro i hi he; (try dsimp only [NoK] at hi he ⊢); first | exact he.elim | omega | exact he)
      replace HR6 := HR6.keep k106 (by intro h; have h := h; (try dsimp only [NoK] at h); first | exact h | omega | (rcases h with h | h <;> omega)) (by intro i hi he; have hi0 := hi; have hi := hi; have he := he; (try dsimp only [NoK] at hi he); first | exact he.elim | omega | (have := hF i hi0; omega))
      replace HOx := HOx.keep k106 (by intro i ho he; have he0 := he; have ho0 := ho; (try dsimp only [NoK] at he); (try simp only [Value.ownBlock, Option.some.injEq, reduceCtorEq] at ho); (try simp only [Value.ownBlock, Option.some.injEq, reduceCtorEq] at he); first | exact he.elim | exact ho.elim | omega | (have := zo_HOx _ ho0; omega)) (by intro i _ hi _ he; have he0 := he; have hi := hi; have he := he; (try dsimp only [NoK, AllB] at hi he); (try simp only [Value.ownBlock, Option.some.injEq, reduceCtorEq] at he); first | exact hi.elim | exact hi.1.elim | exact he.elim | omega | (rcases hi with hi | hi <;> omega) | (rcases he with he | he <;> omega))
      replace HGm := HGm.keep k106 (by intro i _ hi he; (try dsimp only [NoK, AllB] at hi he); first | exact hi.elim | exact he.elim | omega | (rcases hi with hi | hi <;> omega) | (rcases he with he | he <;> omega))
      replace HB10 := HB10.keep k106 (by intro h; (try dsimp only at h); first | omega)
      replace HB2 := HX106
      clear HX106
      try simp only [List.set_cons_zero, List.set_cons_succ, setAt, List.take_zero, List.take_succ_cons, List.drop_zero, List.drop_succ_cons, List.nil_append, List.cons_append, List.append_nil, List.length_cons, List.length_nil, Nat.zero_add, Nat.reduceAdd, List.drop_nil] at HB2
      refine l_v (v_assign rfl) ?_
      refine l_nil ?_
      refine n_then ?_
      refine c_ret ?_
      refine ret2cv (n := 2) rfl (by decide) (by decide) rfl (by kernel_rfl) HB2.pv rfl (show _ = (Value.int _ _) from rfl) ?_
      have h : readM l = (((n : Int), fixL rs), 0) := by
        rw [readM]
        rcases hnx with ⟨hne, _, hd⟩ | ⟨_, _, _, hd⟩
        · simp only [hd]
          rcases hx6 with ⟨he, hq⟩ | ⟨_, _, _, _, _, hq⟩
          · rw [show tryRd (rdList rdR) 16 (rest l) = _ from hq]
            simp only []
            rw [if_pos ⟨by by_cases h0 : l2 = []; exact h0; (rw [if_neg h0] at hc3; omega), by omega, hc5⟩]
          · omega
        · omega
      rw [h]
      exact ⟨⟨_, rfl, HGm.mono fun b _ h => by omega⟩, E⟩
end Go.Proofs.Ytkaangdfpjkjpaa

namespace Go.Proofs.Ytkaangdfpjkjpaa
open Go.Vc
set_option linter.unusedVariables false
set_option linter.unusedSimpArgs false
set_option maxRecDepth 100000

theorem readM_err {l : List UInt8} {e : Int} (h : tryRd (rdList rdR) 16 (rest l) = .error e) : readM l = (mp0, 4) := by
  rw [readM]
  rcases hd : rdNum l with _ | ⟨n, l1⟩
  · rfl
  · have : rest l = l1 := by rw [rest, hd]
    rw [this] at h
    simp only [h]
theorem refRead_c {w : World} {F0 : Nat → Prop} {v : Value} {l : List UInt8} (HS1 : Bv w F0 v l) (hl : l.length ≤ 100000) : CallsR Try.prog 44 #[v] w (fun o w' => (∃ x, o = .tuple #[x, .int .i64 (readM l).2] ∧ AgV tMp w' AllB x (readM l).1) ∧ Ext w w') := by
  obtain ⟨a1, c1, rfl⟩ := HS1.shape
  refine enter 107 Try.func44 rfl rfl (by simp) ?_
  refine c_seq ?_
  have E := Keep.refl (K := NoK) w
  replace HS1 := HS1.all
  refine wp_reg (by decide +kernel) ?_
  refine l_to (to_alloc (z := (.agg #[.int .i64 0, .slice none 0 0])) (by unfold kZero; kernel_rfl) ?_)
  rintro b2 w2 zb2 HB2 e2 z2
  have zs_e2 := e2.size
  replace E := E.trans (Ext.keep e2)
  replace HS1 := HS1.ext e2
  try simp only [Value.cells] at HB2
  refine l_v (v_assign rfl) ?_
  refine l_nil ?_
  refine n_then ?_
  refine c_seq ?_
  refine wp_reg (by decide +kernel) ?_
  refine l_v (v_move (t := .slice _ _ _) rfl) ?_
  refine l_v (v_build (pl := [(0, 1)]) (z := .agg #[.slice none 0 0]) (zl := [.slice none 0 0]) (by kernel_rfl) (by unfold kZero; kernel_rfl) rfl rfl (cells := [_]) rfl) ?_
  refine l_to (to_box (show _ = (Value.agg _) from rfl) ?_)
  rintro b4 w4 zb4 HB4 e4 z4
  have zs_e4 := e4.size
  replace E := E.trans (Ext.keep e4)
  replace HS1 := HS1.ext e4
  replace HB2 := HB2.ext e4
  try simp only [Value.cells] at HB4
  have HR4 : Rf _ b4 (fun k => k < w.heap.size) l := ⟨_, HB4, HS1⟩
  have hF : ∀ k, k < w.heap.size → k < b4 := fun k h => by omega
  refine l_v (v_assign (t := .pointer _) rfl) ?_
  refine l_nil ?_
  refine n_then ?_
  refine c_seq ?_
  refine wp_reg (by decide +kernel) ?_
  refine l_v (v_move (t := .pointer _) rfl) ?_
  refine l_to (to_f1 (by kernel_rfl) (show _ = (Value.pointer _) from rfl) (CallsR.mono (refRNumber_c HR4 (by omega)) ?_))
  rintro r w5 ⟨hr5, HR5, k5⟩
  have zs_k5 := k5.size
  obtain ⟨n, ne, hn, hnl, hnx⟩ := numV_any l
  rw [hn] at hr5
  subst hr5
  replace E := E.step k5 (by intro i hi he; (try dsimp only [NoK] at hi he ⊢); first | exact he.elim | omega | exact he)
  replace HB2 := HB2.keep k5 (by intro h; (try dsimp only at h); first | omega)
  refine l_v (v_move (t := .tuple _) rfl) ?_
  refine l_v (v_extract (t := .int _ _) rfl rfl) ?_
  refine l_v (v_extract (t := .int _ _) rfl rfl) ?_
  refine l_v (v_assign (t := .int _ _) rfl) ?_
  refine l_v (v_assign (t := .int _ _) rfl) ?_
  refine l_nil ?_
  refine n_then ?_
  refine c_seq ?_
  refine wp_reg (by decide +kernel) ?_
  refine l_v (v_move (t := .pointer _) rfl) ?_
  refine l_to (to_f1 (by kernel_rfl) (show _ = (Value.pointer _) from rfl) (CallsR.mono (refRNumber_c HR5 (by omega)) ?_))
  rintro r w6 ⟨hr6, HR6, k6⟩
  have zs_k6 := k6.size
  obtain ⟨m, me, hm, hml, hmx⟩ := numV_any (rest l)
  rw [hm] at hr6
  subst hr6
  replace E := E.step k6 (by intro i hi he; (try dsimp only [NoK] at hi he ⊢); first | exact he.elim | omega | exact he)
  replace HB2 := HB2.keep k6 (by intro h; (try dsimp only at h); first | omega)
  refine l_v (v_move (t := .tuple _) rfl) ?_
  refine l_v (v_extract (t := .int _ _) rfl rfl) ?_
  refine l_v (v_extract (t := .int _ _) rfl rfl) ?_
  refine l_v (v_assign (t := .int _ _) rfl) ?_
  refine l_v (v_assign (t := .int _ _) rfl) ?_
  refine l_nil ?_
  refine n_then ?_
  refine c_seq ?_
  refine c_seq ?_
  refine wp_reg (by decide +kernel) ?_
  refine l_v (v_move (t := .int _ _) rfl) ?_
  refine l_v (v_neq rfl rfl) ?_
  refine l_v (v_move (t := .bool _) rfl) ?_
  refine l_g1 rfl rfl (fun hG => v_move (t := .int _ _) rfl) ?_
  refine l_g1 rfl rfl (fun hG => v_neq (gd hG rfl) rfl) ?_
  refine l_v (v_or rfl rfl) ?_
  refine l_v (v_move (t := .bool _) rfl) ?_
  refine l_g1 rfl rfl (fun hG => v_move (t := .int _ _) rfl) ?_
  refine l_g1 rfl rfl (fun hG => v_gtr (gd hG rfl) rfl) ?_
  refine l_v (v_or rfl rfl) ?_
  refine l_v (v_move (t := .bool _) rfl) ?_
  refine l_g1 rfl rfl (fun hG => v_move (t := .int _ _) rfl) ?_
  refine l_g1 rfl rfl (fun hG => v_gtr (gd hG rfl) rfl) ?_
  refine l_v (v_or rfl rfl) ?_
  refine l_nil ?_
  refine n_then ?_
  refine c_cond rfl rfl (fun hc => ?_) (fun hc => ?_)
  · skip
    refine c_seq ?_
    refine wp_reg (by decide +kernel) ?_
    refine l_v (v_build (pl := [(0, 1), (1, 1)]) (z := .agg #[.int .i64 0, .slice none 0 0]) (zl := [.int .i64 0, .slice none 0 0]) (by kernel_rfl) (by unfold kZero; kernel_rfl) rfl rfl (cells := [_, _]) rfl) ?_
    refine l_to (to_storeA (n := 2) rfl rfl (show _ = (Value.agg _) from rfl) (by kernel_rfl) rfl (by first | (simp [slice_one]; done) | (simp only [List.forall_mem_cons, List.cons_append, List.nil_append]; repeat' (first | exact rfl | apply And.intro | (intro u hu; cases hu; done)))) HB2 (by first | exact of_decide_eq_true rfl | (simp; done) | decide) ?_)
    rintro w101 HX101 k101 z101
    have zs_k101 := k101.size
    replace E := E.step k101 (by intro i hi he; (try dsimp only [NoK] at hi he ⊢); first | exact he.elim | omega | exact he)
    replace HR6 := HR6.keep k101 (by intro h; have h := h; (try dsimp only [NoK] at h); first | exact h | omega | (rcases h with h | h <;> omega)) (by intro i hi he; have hi0 := hi; have hi := hi; have he := he; (try dsimp only [NoK] at hi he); first | exact he.elim | omega | (have := hF i hi0; omega))
    replace HB2 := HX101
    clear HX101
    try simp only [List.set_cons_zero, List.set_cons_succ, setAt, List.take_zero, List.take_succ_cons, List.drop_zero, List.drop_succ_cons, List.nil_append, List.cons_append, List.append_nil, List.length_cons, List.length_nil, Nat.zero_add, Nat.reduceAdd, List.drop_nil] at HB2
    refine l_v (v_assign rfl) ?_
    refine l_nil ?_
    refine n_then ?_
    refine c_ret ?_
    refine r_then ?_
    refine ret2cv (n := 2) rfl (by decide) (by decide) rfl (by kernel_rfl) HB2.pv rfl (show _ = (Value.int _ _) from rfl) ?_
    have h : readM l = (mp0, 4) := by
      rcases hmx with ⟨hme, _, hdm⟩ | ⟨_, _, _, hdm⟩
      · by_cases h16 : m ≤ 16
        · rw [readM]
          rcases hnx with ⟨hne, _, hd⟩ | ⟨_, _, _, hd⟩
          · simp only [hd]
            cases tryRd (rdList rdR) 16 (rest l) with
            | error e => rfl
            | ok p =>
              simp only []
              rw [if_neg]
              rintro ⟨_, h2, _⟩
              rw [hne, hme, decide_eq_false (by omega : ¬ (2147483647 : Int) < (n : Int)), decide_eq_false (by omega : ¬ (16 : Int) < (m : Int))] at hc
              simp at hc
          · simp only [hd]
        · exact readM_err (e := 3) (by rw [tryRd]; simp only [hdm]; rw [if_neg h16])
      · exact readM_err (e := 4) (by rw [tryRd]; simp only [hdm])
    rw [h]
    exact ⟨⟨_, rfl, AgV.mkMp (SlV.nil _ _ _) (by decide)⟩, E⟩
  · skip
    simp only [Bool.or_eq_false_iff, decide_eq_false_iff_not, Bool.not_eq_false', decide_eq_true_eq] at hc
    obtain ⟨⟨⟨hc1, hc2⟩, hc3⟩, hc4⟩ := hc
    have hdn : rdNum l = some (n, rest l) := hnx.elim (fun h => h.2.2) (fun h => by omega)
    have hdm : rdNum (rest l) = some (m, rest (rest l)) := hmx.elim (fun h => h.2.2) (fun h => by omega)
    have hll : (rest (rest l)).length ≤ l.length := by
      have h1 := congrArg List.length (rdNum_form hdn)
      have h2 := congrArg List.length (rdNum_form hdm)
      rw [List.length_append] at h1 h2; omega
    have htr : tryRd (rdList rdR) 16 (rest l) = rdList rdR m (rest (rest l)) := by rw [tryRd]; simp only [hdm]; rw [if_pos (by omega)]
    refine c_skip ?_
    refine n_then ?_
    refine c_seq ?_
    refine wp_reg (by decide +kernel) ?_
    refine l_v (v_move (t := .int _ _) rfl) ?_
    refine l_v (v_conv (ds := .int .u64) (by kernel_rfl) (by kernel_rfl) rfl (by first | exact wr_i64 (by omega) (by omega) | rfl)) ?_
    refine l_v (v_build (pl := [(0, 1), (1, 1)]) (z := .agg #[.int .i64 0, .slice none 0 0]) (zl := [.int .i64 0, .slice none 0 0]) (by kernel_rfl) (by unfold kZero; kernel_rfl) rfl rfl (cells := [_, _]) rfl) ?_
    refine l_to (to_alloc (z := (.agg #[.int .i64 0, .slice none 0 0])) (by unfold kZero; kernel_rfl) ?_)
    rintro b9 w9 zb9 HB9 e9 z9
    have zs_e9 := e9.size
    replace E := E.trans (Ext.keep e9)
    replace HB2 := HB2.ext e9
    replace HR6 := HR6.ext e9
    try simp only [Value.cells] at HB9
    refine l_to (to_storeA (n := 2) rfl rfl (show _ = (Value.agg _) from rfl) (by kernel_rfl) rfl (by first | (simp [slice_one]; done) | (simp only [List.forall_mem_cons, List.cons_append, List.nil_append]; repeat' (first | exact rfl | apply And.intro | (intro u hu; cases hu; done)))) HB9 (by first | exact of_decide_eq_true rfl | (simp; done) | decide) ?_)
    rintro w102 HX102 k102 z102
    have zs_k102 := k102.size
    replace E := E.step k102 (by intro i hi he; (try dsimp only [NoK] at hi he ⊢); first | exact he.elim | omega | exact he)
    replace HB2 := HB2.keep k102 (by intro h; (try dsimp only at h); first | omega)
    replace HR6 := HR6.keep k102 (by intro h; have h := h; (try dsimp only [NoK] at h); first | exact h | omega | (rcases h with h | h <;> omega)) (by intro i hi he; have hi0 := hi; have hi := hi; have he := he; (try dsimp only [NoK] at hi he); first | exact he.elim | omega | (have := hF i hi0; omega))
    replace HB9 := HX102
    clear HX102
    try simp only [List.set_cons_zero, List.set_cons_succ, setAt, List.take_zero, List.take_succ_cons, List.drop_zero, List.drop_succ_cons, List.nil_append, List.cons_append, List.append_nil, List.length_cons, List.length_nil, Nat.zero_add, Nat.reduceAdd, List.drop_nil] at HB9
    refine l_nil ?_
    refine n_then ?_
    refine c_seq ?_
    refine c_seq ?_
    refine wp_reg (by decide +kernel) ?_
    refine l_v (v_assign rfl) ?_
    refine l_nil ?_
    refine n_then ?_
    refine c_block ?_
    refine c_loop (τ := Nat × Value × List RgV × List UInt8) [3, 10, 11, 12, 13, 14, 46, 47, 48, 49, 50, 51, 52, 53, 54, 55, 56, 57, 58, 59, 60, 61, 62, 63, 64, 65, 66, 67, 68, 69, 70, 71, 72, 73, 74, 75, 76, 77, 78, 79, 80, 81, 82, 83, 84, 85, 86, 87, 88, 89, 90, 91, 92, 93, 94, 95, 96] (fun (i, x, xs, lr) => [(10, .int .i64 i)]) (fun (i, x, xs, lr) W => Ext w W ∧ Keep (fun b => b = b4 ∨ b9 ≤ b) w102 W ∧ i ≤ m ∧ xs.length = i ∧ Blk W b9 [.int .i64 n, x] 24 ∧ OwV tRg 37 W w9.heap.size (fun b => b9 < b ∧ b < W.heap.size) x (fixL xs) ∧ Rf W b4 (fun k => k < w.heap.size) lr ∧ lr.length ≤ l.length ∧ rdList rdR m (rest (rest l)) = bindL xs (rdList rdR (m - i) lr)) (fun (i, x, xs, lr) => m - i) (0, .slice none 0 0, [], rest (rest l)) (by exact ⟨rfl, trivial⟩) (by exact ⟨E, Keep.refl _, Nat.zero_le _, rfl, HB9, OwV.nil _ _ _ _ _, HR6, hll, (bindL_nil _).symm⟩) ?_
    rintro ⟨i, x, xs, lr⟩ w103 j ⟨E, EL1, h1, hxl, HB9, HOx, HR6, hlr, hrd⟩
    have zs_EL1 := EL1.size
    replace HB2 := HB2.keep EL1 (by intro h; (try dsimp only at h); first | omega)
    have zo_HOx := fun (b : Nat) h => HOx.own_lt (b := b) h
    refine c_seq ?_
    refine c_seq ?_
    refine wp_reg (by decide +kernel) ?_
    refine l_v (v_move (t := .int _ _) rfl) ?_
    refine l_v (v_move (t := .int _ _) rfl) ?_
    refine l_v (v_conv (ds := .int .u64) (by kernel_rfl) (by kernel_rfl) rfl (by first | exact wr_i64 (by omega) (by omega) | rfl)) ?_
    refine l_v (v_lss rfl rfl) ?_
    refine l_nil ?_
    refine n_then ?_
    refine c_cond rfl rfl (fun hlt => ?_) (fun hlt => ?_)
    · skip
      have hlt := dtrue hlt
      obtain ⟨Bh, hBh⟩ : ∃ Bh, Bh = w103.heap.size := ⟨_, rfl⟩
      obtain ⟨ax, cx, rfl⟩ := HOx.shape
      refine c_skip ?_
      refine n_then ?_
      refine c_seq ?_
      refine c_block ?_
      refine c_seq ?_
      refine wp_reg (by decide +kernel) ?_
      refine l_v (v_move (t := .pointer _) rfl) ?_
      refine l_to (to_f2 (by kernel_rfl) (show _ = (Value.pointer _) from rfl) (show _ = (Value.int _ _) from rfl) (CallsR.mono (refRBytes_c (most := 24) HR6 (fun k h => by omega) (by omega) (by decide) (by decide) (by omega)) ?_))
      rintro r w11 ⟨hr11, k11⟩
      have zs_k11 := k11.size
      obtain ⟨a11, c11, er11, fr, l1, rfl, HS11, HR11, hx11⟩ := TryF_any hr11
      replace E := E.step k11 (by intro i hi he; (try dsimp only [NoK] at hi he ⊢); first | exact he.elim | omega | exact he)
      replace HB2 := HB2.keep k11 (by intro h; (try dsimp only at h); first | omega)
      replace HB9 := HB9.keep k11 (by intro h; (try dsimp only at h); first | omega)
      replace HOx := HOx.keep k11 (by intro i ho he; have he0 := he; have ho0 := ho; (try dsimp only [NoK] at he); (try simp only [Value.ownBlock, Option.some.injEq, reduceCtorEq] at ho); (try simp only [Value.ownBlock, Option.some.injEq, reduceCtorEq] at he); first | exact he.elim | exact ho.elim | omega | (have := zo_HOx _ ho0; omega)) (by intro i _ hi _ he; have he0 := he; have hi := hi; have he := he; (try dsimp only [NoK, AllB] at hi he); (try simp only [Value.ownBlock, Option.some.injEq, reduceCtorEq] at he); first | exact hi.elim | exact hi.1.elim | exact he.elim | omega | (rcases hi with hi | hi <;> omega) | (rcases he with he | he <;> omega))
      replace EL1 := EL1.step k11 (by intro i hi he; (try dsimp only [NoK] at hi he ⊢); first | exact he.elim | omega | exact he)
      refine l_v (v_move (t := .tuple _) rfl) ?_
      refine l_v (v_extract (t := .slice _ _ _) rfl rfl) ?_
      refine l_v (v_extract (t := .int _ _) rfl rfl) ?_
      refine l_v (v_assign (t := .slice _ _ _) rfl) ?_
      refine l_v (v_assign (t := .int _ _) rfl) ?_
      refine l_nil ?_
      refine n_then ?_
      refine c_seq ?_
      refine wp_reg (by decide +kernel) ?_
      refine l_v (v_move (t := .pointer _) rfl) ?_
      refine l_to (to_f1 (by kernel_rfl) (show _ = (Value.pointer _) from rfl) (CallsR.mono (refRNumber_c HR11 (by omega)) ?_))
      rintro r w13 ⟨hr13, HR13, k13⟩
      have zs_k13 := k13.size
      obtain ⟨q, qe, hq, hql, hqx⟩ := numV_any l1
      rw [hq] at hr13
      subst hr13
      have hsub : m - i = (m - (i + 1)) + 1 := by omega
      replace E := E.step k13 (by intro i hi he; (try dsimp only [NoK] at hi he ⊢); first | exact he.elim | omega | exact he)
      replace HB2 := HB2.keep k13 (by intro h; (try dsimp only at h); first | omega)
      replace HB9 := HB9.keep k13 (by intro h; (try dsimp only at h); first | omega)
      replace HOx := HOx.keep k13 (by intro i ho he; have he0 := he; have ho0 := ho; (try dsimp only [NoK] at he); (try simp only [Value.ownBlock, Option.some.injEq, reduceCtorEq] at ho); (try simp only [Value.ownBlock, Option.some.injEq, reduceCtorEq] at he); first | exact he.elim | exact ho.elim | omega | (have := zo_HOx _ ho0; omega)) (by intro i _ hi _ he; have he0 := he; have hi := hi; have he := he; (try dsimp only [NoK, AllB] at hi he); (try simp only [Value.ownBlock, Option.some.injEq, reduceCtorEq] at he); first | exact hi.elim | exact hi.1.elim | exact he.elim | omega | (rcases hi with hi | hi <;> omega) | (rcases he with he | he <;> omega))
      replace EL1 := EL1.step k13 (by intro i hi he; (try dsimp only [NoK] at hi he ⊢); first | exact he.elim | omega | exact he)
      replace HS11 := HS11.keep k13 (by intro i _ hi he; (try dsimp only [NoK, AllB] at hi he); first | exact hi.elim | exact he.elim | omega | (rcases hi with hi | hi <;> omega) | (rcases he with he | he <;> omega))
      refine l_v (v_move (t := .tuple _) rfl) ?_
      refine l_v (v_extract (t := .int _ _) rfl rfl) ?_
      refine l_v (v_extract (t := .int _ _) rfl rfl) ?_
      refine l_v (v_assign (t := .int _ _) rfl) ?_
      refine l_v (v_assign (t := .int _ _) rfl) ?_
      refine l_nil ?_
      refine n_then ?_
      refine c_seq ?_
      refine c_seq ?_
      refine wp_reg (by decide +kernel) ?_
      refine l_v (v_move (t := .int _ _) rfl) ?_
      refine l_v (v_neq rfl rfl) ?_
      refine l_v (v_move (t := .bool _) rfl) ?_
      refine l_g1 rfl rfl (fun hG => v_move (t := .int _ _) rfl) ?_
      refine l_g1 rfl rfl (fun hG => v_neq (gd hG rfl) rfl) ?_
      refine l_v (v_or rfl rfl) ?_
      refine l_v (v_move (t := .bool _) rfl) ?_
      refine l_g1 rfl rfl (fun hG => v_move (t := .int _ _) rfl) ?_
      refine l_g1 rfl rfl (fun hG => v_geq (gd hG rfl) rfl) ?_
      refine l_v (v_or rfl rfl) ?_
      refine l_nil ?_
      refine n_then ?_
      refine c_cond rfl rfl (fun hc5 => ?_) (fun hc5 => ?_)
      · skip
        refine c_seq ?_
        refine wp_reg (by decide +kernel) ?_
        refine l_v (v_build (pl := [(0, 1), (1, 1)]) (z := .agg #[.int .i64 0, .slice none 0 0]) (zl := [.int .i64 0, .slice none 0 0]) (by kernel_rfl) (by unfold kZero; kernel_rfl) rfl rfl (cells := [_, _]) rfl) ?_
        refine l_to (to_storeA (n := 2) rfl rfl (show _ = (Value.agg _) from rfl) (by kernel_rfl) rfl (by first | (simp [slice_one]; done) | (simp only [List.forall_mem_cons, List.cons_append, List.nil_append]; repeat' (first | exact rfl | apply And.intro | (intro u hu; cases hu; done)))) HB2 (by first | exact of_decide_eq_true rfl | (simp; done) | decide) ?_)
        rintro w104 HX104 k104 z104
        have zs_k104 := k104.size
        replace E := E.step k104 (by intro i hi he; (try dsimp only [NoK] at hi he ⊢); first | exact he.elim | omega | exact he)
        replace HB9 := HB9.keep k104 (by intro h; (try dsimp only at h); first | omega)
        replace HOx := HOx.keep k104 (by intro i ho he; have he0 := he; have ho0 := ho; (try dsimp only [NoK] at he); (try simp only [Value.ownBlock, Option.some.injEq, reduceCtorEq] at ho); (try simp only [Value.ownBlock, Option.some.injEq, reduceCtorEq] at he); first | exact he.elim | exact ho.elim | omega | (have := zo_HOx _ ho0; omega)) (by intro i _ hi _ he; have he0 := he; have hi := hi; have he := he; (try dsimp only [NoK, AllB] at hi he); (try simp only [Value.ownBlock, Option.some.injEq, reduceCtorEq] at he); first | exact hi.elim | exact hi.1.elim | exact he.elim | omega | (rcases hi with hi | hi <;> omega) | (rcases he with he | he <;> omega))
        replace HS11 := HS11.keep k104 (by intro i _ hi he; (try dsimp only [NoK, AllB] at hi he); first | exact hi.elim | exact he.elim | omega | (rcases hi with hi | hi <;> omega) | (rcases he with he | he <;> omega))
        replace HR13 := HR13.keep k104 (by intro h; have h := h; (try dsimp only [NoK] at h); first | exact h | omega | (rcases h with h | h <;> omega)) (by intro i hi he; have hi0 := hi; have hi := hi; have he := he; (try dsimp only [NoK] at hi he); first | exact he.elim | omega | (have := hF i hi0; omega))
        replace HB2 := HX104
        clear HX104
        try simp only [List.set_cons_zero, List.set_cons_succ, setAt, List.take_zero, List.take_succ_cons, List.drop_zero, List.drop_succ_cons, List.nil_append, List.cons_append, List.append_nil, List.length_cons, List.length_nil, Nat.zero_add, Nat.reduceAdd, List.drop_nil] at HB2
        refine l_v (v_assign rfl) ?_
        refine l_nil ?_
        refine n_then ?_
        refine c_ret ?_
        refine r_then ?_
        refine r_blk ?_
        refine r_then ?_
        refine r_then ?_
        refine r_blk ?_
        refine r_then ?_
        refine ret2cv (n := 2) rfl (by decide) (by decide) rfl (by kernel_rfl) HB2.pv rfl (show _ = (Value.int _ _) from rfl) ?_
        have h : rdR lr = .error 4 := by
          rw [rdR]
          rcases hx11 with ⟨he, hq2⟩ | ⟨_, _, _, hq2⟩
          · rw [show rdBytes 24 lr = _ from hq2]
            rcases hqx with ⟨hne, _, hd⟩ | ⟨_, _, _, hd⟩
            · simp only [hd]
              rw [if_neg]
              intro h5
              rw [he, hne, decide_eq_false (by omega : ¬ (5 : Int) ≤ (q : Int))] at hc5
              simp at hc5
            · simp only [hd]
          · rw [show rdBytes 24 lr = _ from hq2]
        have h2 : readM l = (mp0, 4) := readM_err (e := 4) (by rw [htr, hrd, hsub]; exact rdList_err h)
        rw [h2]
        exact ⟨⟨_, rfl, AgV.mkMp (SlV.nil _ _ _) (by decide)⟩, E⟩
      · skip
        simp only [Bool.or_eq_false_iff, decide_eq_false_iff_not, Bool.not_eq_false', decide_eq_true_eq] at hc5
        have hok : rdR lr = .ok ((fr, [], false, (q : Int)), rest l1) := by
          rcases hx11 with ⟨he, hq2⟩ | ⟨he, _, _, hq2⟩
          · rcases hqx with ⟨hne, _, hd⟩ | ⟨hne, _, _, hd⟩
            · rw [rdR, show rdBytes 24 lr = _ from hq2]; simp only [hd]; rw [if_pos (by omega)]
            · omega
          · omega
        have hsh := rdR_short _ _ _ hok
        rw [hsub] at hrd
        have hrd2 := hrd.trans (rdList_ok (xs := xs) (n := m - (i + 1)) hok)
        have hfr : fr.length ≤ 24 := rdR_small _ _ _ hok
        have hfl : (fixL xs).length = i := by rw [fixL_len]; exact hxl
        have HOy := HOx.mono (F' := fun b => b9 < b) fun b _ h => h.1
        have zo_HOy := zo_HOx
        have zo_HOy := fun (b : Nat) h => HOy.own_lt (b := b) h
        refine c_skip ?_
        refine n_then ?_
        refine c_seq ?_
        refine c_seq ?_
        refine wp_reg (by decide +kernel) ?_
        refine l_v (v_move (t := .int _ _) rfl) ?_
        refine l_v (v_gtr rfl rfl) ?_
        refine l_nil ?_
        refine n_then ?_
        refine c_cond rfl rfl (fun hi => ?_) (fun hi => ?_)
        · skip
          have hi := dtrue hi
          obtain ⟨j, rfl⟩ : ∃ j, i = j + 1 := ⟨i - 1, by omega⟩
          obtain ⟨ys, p, rfl⟩ : ∃ ys p, xs = ys ++ [p] := ⟨xs.dropLast, xs.getLast (fun h => by rw [h] at hxl; cases hxl), (List.dropLast_concat_getLast _).symm⟩
          have hyl : ys.length = j := by rw [List.length_append] at hxl; simpa using hxl
          have hfp := fixL_last ys p
          have hsn := fixL_snoc ys p (fr, [], false, (q : Int))
          rw [hyl] at hfp hsn
          obtain ⟨bo, rfl, hbo1, hbo2⟩ := HOy.addr (fun h => by have := congrArg List.length h; rw [hfl, List.length_nil] at this; omega)
          have hbo3 := (zo_HOx bo rfl).2
          refine wp_any (by kernel_rfl) ?_
          have e105 : Ext w13 { w13 with drawn := w13.drawn + 1 } := Keep.drawn _ _
          generalize hw105 : ({ w13 with drawn := w13.drawn + 1 } : World) = w105 at e105 ⊢
          clear hw105
          have zs_e105 := e105.size
          replace E := E.trans (Ext.keep e105)
          replace HB2 := HB2.ext e105
          replace HB9 := HB9.ext e105
          replace EL1 := EL1.trans (Ext.keep e105)
          replace HS11 := HS11.ext e105
          replace HR13 := HR13.ext e105
          replace HOy := HOy.ext e105
          refine r_cut 12 rfl (by decide +kernel) (by decide +kernel) (by decide +kernel) ?_
          refine wp_regJW (fun k => k = bo) (OneJ 11 (fun W => OwV tRg 37 W w9.heap.size (fun b => b9 < b) (.slice (some ⟨bo, 0, none⟩) (fixL (ys ++ [p])).length cx) (fixL (ys ++ [p]))) (fun W => OwV tRg 37 W w9.heap.size (fun b => b9 < b) (.slice (some ⟨bo, 0, none⟩) (fixL (ys ++ [p])).length cx) ((fixL (ys ++ [p])).set j (p.1, fr, p.2.2.1, p.2.2.2)))) (by decide +kernel) (by decide +kernel) (fun vals done hd => OneJ.start HOy (hd 11 (by decide))) ?_
          refine rj_v OneJ.on (by decide) (fun done vals w hR hJ hdn hd => v_fieldAddr (off := 1) (ft := 22) (by kernel_rfl) rfl) ?_
          refine rj_v OneJ.on (by decide) (fun done vals w hR hJ hdn hd => v_load (by kernel_rfl) (hd 0 rfl) (by first | exact (HB9.keep hR (by intro h; (try dsimp only at h); first | omega)).pv 1 _ rfl | exact (HB2.keep hR (by intro h; (try dsimp only at h); first | omega)).pv 1 _ rfl | assumption)) ?_
          refine rj_v OneJ.on (by decide) (fun done vals w hR hJ hdn hd => v_move (t := .int _ _) rfl) ?_
          refine rj_v OneJ.on (by decide) (fun done vals w hR hJ hdn hd => v_sub (hd 2 rfl) rfl (by first | exact wr_i64 (by omega) (by omega) | rfl)) ?_
          refine rj_v OneJ.on (by decide) (fun done vals w hR hJ hdn hd => v_fieldAddr (off := 1) (ft := 22) (by kernel_rfl) rfl) ?_
          refine rj_v OneJ.on (by decide) (fun done vals w hR hJ hdn hd => v_load (by kernel_rfl) (hd 4 rfl) (by first | exact (HB9.keep hR (by intro h; (try dsimp only at h); first | omega)).pv 1 _ rfl | exact (HB2.keep hR (by intro h; (try dsimp only at h); first | omega)).pv 1 _ rfl | assumption)) ?_
          refine rj_v OneJ.on (by decide) (fun done vals w hR hJ hdn hd => v_move (t := .int _ _) rfl) ?_
          refine rj_v OneJ.on (by decide) (fun done vals w hR hJ hdn hd => v_sub (hd 6 rfl) rfl (by first | exact wr_i64 (by omega) (by omega) | rfl)) ?_
          refine rj_v OneJ.on (by decide) (fun done vals w hR hJ hdn hd => v_move (t := .slice _ _ _) rfl) ?_
          refine rj_v OneJ.on (by decide) (fun done vals w hR hJ hdn hd => v_indexAddr (et := 37) (sz := 4) (k := j) (by kernel_rfl) (by kernel_rfl) (hd 1 rfl) (hd 3 rfl) (by first | rfl | omega) (by omega)) ?_
          refine rj_v OneJ.on (by decide) (fun done vals w hR hJ hdn hd => v_fieldAddr (off := 1) (ft := 35) (by kernel_rfl) (hd 9 rfl)) ?_
          refine rj_d (fun done vals w hR hcl hdk hJ hdn hd => to_storeO (k := j) (off := 1) (hd 10 rfl) (by rw [show tRg.sz = 4 from rfl]; simp [add_lit]) (by decide) (hd 8 rfl) rfl (by kernel_rfl) (hJ.2 hdk) (x1 := (p.1, fr, p.2.2.1, p.2.2.2)) hfp (fun cs h => by obtain ⟨y1, d1, y2, d2, rfl, h1, h2, h3⟩ := tRg_cells h; exact tRg_mk h1 ((HS11.keep hR (by first | exact fun h => h | (intro h; have he0 := h; have h := h; (try dsimp only at h); (try simp only [Value.ownBlock, Option.some.injEq] at h); (try simp only [add_block] at h); (try simp only [add_block] at he0); first | omega) | (intro i _ hi he; have he0 := he; have hi := hi; have he := he; (try dsimp only [NoK, AllB] at hi he); (try simp only [Value.ownBlock, Option.some.injEq] at he); first | exact hi.elim | exact he.elim | omega | (rcases hi with hi | hi <;> omega) | (rcases he with he | he <;> omega)))).mono fun b hb hF => ⟨by have h5 := hF; (try dsimp only at h5); omega, by have h5 := hF; (try dsimp only at h5); omega⟩) h3) (fun w1 hO1 k1 z1 => ⟨k1, OneJ.step hO1⟩)) ?_
          refine rj_nil (fun vals w106 k106 J106 => ?_)
          rintro _ - rfl _ - rfl _ - rfl _ - rfl _ - rfl _ - rfl _ - rfl _ - rfl _ - rfl _ - rfl _ - rfl _ - -
          have zs_k106 := k106.size
          have HOz := J106.1 rfl
          dsimp only at HOz
          replace E := E.step k106 (by intro i hi he; (try dsimp only [NoK] at hi he ⊢); first | exact he.elim | omega | exact he)
          replace HB2 := HB2.keep k106 (by intro h; (try dsimp only at h); first | omega)
          replace HB9 := HB9.keep k106 (by intro h; (try dsimp only at h); first | omega)
          replace EL1 := EL1.step k106 (by intro i hi he; (try dsimp only [NoK] at hi he ⊢); first | exact he.elim | omega | exact he)
          replace HS11 := HS11.keep k106 (by intro i _ hi he; (try dsimp only [NoK, AllB] at hi he); first | exact hi.elim | exact he.elim | omega | (rcases hi with hi | hi <;> omega) | (rcases he with he | he <;> omega))
          replace HR13 := HR13.keep k106 (by intro h; have h := h; (try dsimp only [NoK] at h); first | exact h | omega | (rcases h with h | h <;> omega)) (by intro i hi he; have hi0 := hi; have hi := hi; have he := he; (try dsimp only [NoK] at hi he); first | exact he.elim | omega | (have := hF i hi0; omega))
          have zo_HOz := fun (b : Nat) h => HOz.own_lt (b := b) h
          refine fin_nilJ ?_
          refine n_then ?_
          refine r_cut 2 rfl (by decide +kernel) (by decide +kernel) (by decide +kernel) ?_
          refine wp_regdW (NoK) (by decide +kernel) (by decide +kernel) ?_
          refine rt_v (fun vals w hR hd => v_indexAddr (et := 37) (sz := 4) (k := j) (by kernel_rfl) (by kernel_rfl) rfl rfl (by first | rfl | omega) (by omega)) ?_
          refine rt_v (fun vals w hR hd => v_fieldAddr (off := 2) (ft := 4) (by kernel_rfl) (hd 0 rfl)) ?_
          refine rt_nil (fun w107 e107 => ?_)
          rintro _ rfl _ rfl
          have zs_e107 := e107.size
          replace E := E.trans (Ext.keep e107)
          replace HB2 := HB2.ext e107
          replace HB9 := HB9.ext e107
          replace EL1 := EL1.trans (Ext.keep e107)
          replace HS11 := HS11.ext e107
          replace HR13 := HR13.ext e107
          replace HOz := HOz.ext e107
          refine fin_nil ?_
          refine n_then ?_
          refine r_one (by decide +kernel) rfl ?_
          refine l_to (to_storeO (k := j) (off := 2) rfl (by rw [show tRg.sz = 4 from rfl]; simp [add_lit]) (by decide) (show _ = (Value.bool _) from rfl) rfl (by kernel_rfl) HOz (x1 := (p.1, fr, true, p.2.2.2)) (List.getElem?_set_self (by have := (List.getElem?_eq_some_iff.1 hfp).1; exact this)) (fun cs h => by obtain ⟨y1, d1, y2, d2, rfl, h1, h2, h3⟩ := tRg_cells h; exact tRg_mk h1 h2 h3) ?_)
          rintro w45 HO45 k45 z45
          have zs_k45 := k45.size
          rw [List.set_set] at HO45
          replace E := E.step k45 (by intro i hi he; (try dsimp only [NoK] at hi he ⊢); first | exact he.elim | omega | exact he)
          replace HB2 := HB2.keep k45 (by intro h; (try dsimp only at h); first | omega)
          replace HB9 := HB9.keep k45 (by intro h; (try dsimp only at h); first | omega)
          replace EL1 := EL1.step k45 (by intro i hi he; (try dsimp only [NoK] at hi he ⊢); first | exact he.elim | omega | exact he)
          replace HS11 := HS11.keep k45 (by intro i _ hi he; (try dsimp only [NoK, AllB] at hi he); first | exact hi.elim | exact he.elim | omega | (rcases hi with hi | hi <;> omega) | (rcases he with he | he <;> omega))
          replace HR13 := HR13.keep k45 (by intro h; have h := h; (try dsimp only [NoK] at h); first | exact h | omega | (rcases h with h | h <;> omega)) (by intro i hi he; have hi0 := hi; have hi := hi; have he := he; (try dsimp only [NoK] at hi he); first | exact he.elim | omega | (have := hF i hi0; omega))
          have zo_HO45 := fun (b : Nat) h => HO45.own_lt (b := b) h
          refine l_nil ?_
          refine n_then ?_
          refine wp_reg (by decide +kernel) ?_
          refine l_v (v_fieldAddr (off := 1) (ft := 22) (by kernel_rfl) rfl) ?_
          refine l_v (v_load (by kernel_rfl) rfl (by first | exact HB9.pv 1 _ rfl | exact HB2.pv 1 _ rfl | assumption)) ?_
          refine l_v (v_move (t := .slice _ _ _) rfl) ?_
          refine l_v (v_move (t := .int _ _) rfl) ?_
          refine l_v (v_conv (ds := .int .u64) (by kernel_rfl) (by kernel_rfl) rfl (by first | exact wr_i64 (by omega) (by omega) | rfl)) ?_
          refine l_v (v_build (pl := [(0, 1), (1, 1), (2, 1), (3, 1)]) (z := .agg #[.slice none 0 0, .slice none 0 0, .bool false, .int .i64 0]) (zl := [.slice none 0 0, .slice none 0 0, .bool false, .int .i64 0]) (by kernel_rfl) (by unfold kZero; kernel_rfl) rfl rfl (cells := [_, _, _, _]) rfl) ?_
          refine l_to (to_slice1 (t := tRg) (et := 37) (bytes := 64) (by kernel_rfl) (by decide) (show _ = (Value.agg _) from rfl) (tRg_mk HS11 (SlV.nil tU8 _ _) (by omega)) ?_)
          rintro b50 w50 zb50 HO50 e50 z50
          have zs_e50 := e50.size
          replace E := E.trans (Ext.keep e50)
          replace HB2 := HB2.ext e50
          replace HB9 := HB9.ext e50
          replace EL1 := EL1.trans (Ext.keep e50)
          replace HS11 := HS11.ext e50
          replace HR13 := HR13.ext e50
          replace HO45 := HO45.ext e50
          have zo_HO50 := fun (b : Nat) h => HO50.own_lt (b := b) h
          refine l_to (to_append (et := 37) (bytes := 64) (by kernel_rfl) (show _ = (Value.slice _ _ _) from rfl) HO45 (show _ = (Value.slice _ _ _) from rfl) (HO50.view.mono (F' := fun b => Bh ≤ b) (fun i _ hi => hi.elim (fun h => by omega) (fun h => by have := h.1; (try dsimp only at this); omega))) (deepF fun b hb hb2 => ⟨by omega, fun ho => by have := zo_HOx _ ho; omega⟩) (by first | omega | (simp; done) | (simp; omega)) (by simp only [maxLen]; first | omega | (simp; done) | (simp; omega)) (by omega) ?_)
          rintro a51 n51 c51 w51 HO51 hn51 k51 h51 i51
          have zs_k51 := k51.size
          replace E := E.step k51 (by intro i hi he; have he0 := he; (try dsimp only [NoK] at hi he ⊢); (try simp only [Value.ownBlock, Option.some.injEq] at he); first | exact he.elim | omega | exact he | (have := (HO45).own_lt he0; omega) | (have := zo_HO45 _ he0; omega) | (have := (HO45).own_lt he0; rcases hi with hi | hi <;> omega))
          replace HB2 := HB2.keep k51 (by intro h; have he0 := h; (try dsimp only at h); (try simp only [Value.ownBlock, Option.some.injEq] at h); first | omega | (have := (HO45).own_lt he0; omega) | (have := zo_HO45 _ he0; omega))
          replace HB9 := HB9.keep k51 (by intro h; have he0 := h; (try dsimp only at h); (try simp only [Value.ownBlock, Option.some.injEq] at h); first | omega | (have := (HO45).own_lt he0; omega) | (have := zo_HO45 _ he0; omega))
          replace EL1 := EL1.step k51 (by intro i hi he; have he0 := he; (try dsimp only [NoK] at hi he ⊢); (try simp only [Value.ownBlock, Option.some.injEq] at he); first | exact he.elim | omega | exact he | (have := (HO45).own_lt he0; omega) | (have := zo_HO45 _ he0; omega) | (have := (HO45).own_lt he0; rcases hi with hi | hi <;> omega))
          replace HR13 := HR13.keep k51 (by intro h; have h := h; (try dsimp only [NoK] at h); first | exact h | omega | (rcases h with h | h <;> omega) | (have := (HO45).own_lt h; omega) | (have := zo_HO45 _ h; omega) | (have := (HO45).own_lt h; rcases hi with hi | hi <;> omega)) (by intro i hi he; have hi0 := hi; have hi := hi; have he := he; (try dsimp only [NoK] at hi he); first | exact he.elim | omega | (have := hF i hi0; omega) | (have := (HO45).own_lt he; omega) | (have := zo_HO45 _ he; omega) | (have := (HO45).own_lt he; rcases hi with hi | hi <;> omega))
          have zo_HO51 := fun (b : Nat) h => HO51.own_lt (b := b) h
          refine l_v (v_fieldAddr (off := 1) (ft := 22) (by kernel_rfl) rfl) ?_
          refine l_to (to_store rfl rfl (show _ = (Value.slice _ _ _) from rfl) rfl (by kernel_rfl) HB9 (by first | exact of_decide_eq_true rfl | (simp; done) | decide) ?_)
          rintro w108 HX108 k108 z108
          have zs_k108 := k108.size
          replace E := E.step k108 (by intro i hi he; (try dsimp only [NoK] at hi he ⊢); first | exact he.elim | omega | exact he)
          replace HB2 := HB2.keep k108 (by intro h; (try dsimp only at h); first | omega)
          replace EL1 := EL1.step k108 (by intro i hi he; (try dsimp only [NoK] at hi he ⊢); first | exact he.elim | omega | exact he)
          replace HR13 := HR13.keep k108 (by intro h; have h := h; (try dsimp only [NoK] at h); first | exact h | omega | (rcases h with h | h <;> omega)) (by intro i hi he; have hi0 := hi; have hi := hi; have he := he; (try dsimp only [NoK] at hi he); first | exact he.elim | omega | (have := hF i hi0; omega))
          replace HO51 := HO51.keep k108 (by intro i ho he; have he0 := he; have ho0 := ho; (try dsimp only [NoK] at he); (try simp only [Value.ownBlock, Option.some.injEq, reduceCtorEq] at ho); (try simp only [Value.ownBlock, Option.some.injEq, reduceCtorEq] at he); first | exact he.elim | exact ho.elim | omega | (have := zo_HO51 _ ho0; omega)) (by intro i _ hi _ he; have he0 := he; have hi := hi; have he := he; (try dsimp only [NoK, AllB] at hi he); (try simp only [Value.ownBlock, Option.some.injEq, reduceCtorEq] at he); first | exact hi.elim | exact hi.1.elim | exact he.elim | omega | (rcases hi with hi | hi <;> omega) | (rcases he with he | he <;> omega))
          replace HB9 := HX108
          clear HX108
          try simp only [List.set_cons_zero, List.set_cons_succ, setAt, List.take_zero, List.take_succ_cons, List.drop_zero, List.drop_succ_cons, List.nil_append, List.cons_append, List.append_nil, List.length_cons, List.length_nil, Nat.zero_add, Nat.reduceAdd, List.drop_nil] at HB9
          refine l_nil ?_
          refine n_blk ?_
          refine n_then ?_
          refine wp_reg (by decide +kernel) ?_
          refine l_v (v_move (t := .int _ _) rfl) ?_
          refine l_v (v_add rfl rfl (by first | exact wr_i64 (by omega) (by omega) | rfl)) ?_
          refine l_v (v_assign (t := .int _ _) rfl) ?_
          refine l_nil ?_
          refine n_then ?_
          refine ⟨(j + 1 + 1, .slice a51 n51 c51, ys ++ [p] ++ [(fr, [], false, (q : Int))], rest l1), _, rfl, by (repeat (first | exact Off.of_over _ _ _ | refine Off.upd ?_ (by decide) _)), ⟨by first | rfl | exact congrArg (Value.int _) (by omega) | (simp; done), trivial⟩, ⟨E, EL1, ?_⟩, ?_⟩
          · skip
            have hne : fixL (ys ++ [p] ++ [(fr, [], false, (q : Int))]) = (fixL (ys ++ [p])).set j (p.1, fr, true, p.2.2.2) ++ [(fr, [], false, (q : Int))] := hsn
            exact ⟨by omega, by rw [List.length_append, hxl]; rfl, HB9, by rw [hne]; exact HO51.mono fun b hb h => ⟨h, hb⟩, HR13, by omega, hrd2⟩
          · (dsimp only; omega)
        · skip
          have hi0 : i = 0 := by have := dfalse hi; omega
          subst hi0
          obtain rfl : xs = [] := List.eq_nil_of_length_eq_zero hxl
          refine c_skip ?_
          refine n_then ?_
          refine wp_reg (by decide +kernel) ?_
          refine l_v (v_fieldAddr (off := 1) (ft := 22) (by kernel_rfl) rfl) ?_
          refine l_v (v_load (by kernel_rfl) rfl (by first | exact HB9.pv 1 _ rfl | exact HB2.pv 1 _ rfl | assumption)) ?_
          refine l_v (v_move (t := .slice _ _ _) rfl) ?_
          refine l_v (v_move (t := .int _ _) rfl) ?_
          refine l_v (v_conv (ds := .int .u64) (by kernel_rfl) (by kernel_rfl) rfl (by first | exact wr_i64 (by omega) (by omega) | rfl)) ?_
          refine l_v (v_build (pl := [(0, 1), (1, 1), (2, 1), (3, 1)]) (z := .agg #[.slice none 0 0, .slice none 0 0, .bool false, .int .i64 0]) (zl := [.slice none 0 0, .slice none 0 0, .bool false, .int .i64 0]) (by kernel_rfl) (by unfold kZero; kernel_rfl) rfl rfl (cells := [_, _, _, _]) rfl) ?_
          refine l_to (to_slice1 (t := tRg) (et := 37) (bytes := 64) (by kernel_rfl) (by decide) (show _ = (Value.agg _) from rfl) (tRg_mk HS11 (SlV.nil tU8 _ _) (by omega)) ?_)
          rintro b50 w50 zb50 HO50 e50 z50
          have zs_e50 := e50.size
          replace E := E.trans (Ext.keep e50)
          replace HB2 := HB2.ext e50
          replace HB9 := HB9.ext e50
          replace EL1 := EL1.trans (Ext.keep e50)
          replace HS11 := HS11.ext e50
          replace HR13 := HR13.ext e50
          replace HOy := HOy.ext e50
          have zo_HO50 := fun (b : Nat) h => HO50.own_lt (b := b) h
          refine l_to (to_append (et := 37) (bytes := 64) (by kernel_rfl) (show _ = (Value.slice _ _ _) from rfl) HOy (show _ = (Value.slice _ _ _) from rfl) (HO50.view.mono (F' := fun b => Bh ≤ b) (fun i _ hi => hi.elim (fun h => by omega) (fun h => by have := h.1; (try dsimp only at this); omega))) (deepF fun b hb hb2 => ⟨by omega, fun ho => by have := zo_HOx _ ho; omega⟩) (by first | omega | (simp; done) | (simp; omega)) (by simp only [maxLen]; first | omega | (simp; done) | (simp; omega)) (by omega) ?_)
          rintro a51 n51 c51 w51 HO51 hn51 k51 h51 i51
          have zs_k51 := k51.size
          replace E := E.step k51 (by intro i hi he; have he0 := he; (try dsimp only [NoK] at hi he ⊢); (try simp only [Value.ownBlock, Option.some.injEq] at he); first | exact he.elim | omega | exact he | (have := (HOy).own_lt he0; omega) | (have := zo_HOy _ he0; omega) | (have := (HOy).own_lt he0; rcases hi with hi | hi <;> omega))
          replace HB2 := HB2.keep k51 (by intro h; have he0 := h; (try dsimp only at h); (try simp only [Value.ownBlock, Option.some.injEq] at h); first | omega | (have := (HOy).own_lt he0; omega) | (have := zo_HOy _ he0; omega))
          replace HB9 := HB9.keep k51 (by intro h; have he0 := h; (try dsimp only at h); (try simp only [Value.ownBlock, Option.some.injEq] at h); first | omega | (have := (HOy).own_lt he0; omega) | (have := zo_HOy _ he0; omega))
          replace EL1 := EL1.step k51 (by intro i hi he; have he0 := he; (try dsimp only [NoK] at hi he ⊢); (try simp only [Value.ownBlock, Option.some.injEq] at he); first | exact he.elim | omega | exact he | (have := (HOy).own_lt he0; omega) | (have := zo_HOy _ he0; omega) | (have := (HOy).own_lt he0; rcases hi with hi | hi <;> omega))
          replace HR13 := HR13.keep k51 (by intro h; have h := h; (try dsimp only [NoK] at h); first | exact h | omega | (rcases h with h | h <;> omega) | (have := (HOy).own_lt h; omega) | (have := zo_HOy _ h; omega) | (have := (HOy).own_lt h; rcases hi with hi | hi <;> omega)) (by intro i hi he; have hi0 := hi; have hi := hi; have he := he; (try dsimp only [NoK] at hi he); first | exact he.elim | omega | (have := hF i hi0; omega) | (have := (HOy).own_lt he; omega) | (have := zo_HOy _ he; omega) | (have := (HOy).own_lt he; rcases hi with hi | hi <;> omega))
          have zo_HO51 := fun (b : Nat) h => HO51.own_lt (b := b) h
          refine l_v (v_fieldAddr (off := 1) (ft := 22) (by kernel_rfl) rfl) ?_
          refine l_to (to_store rfl rfl (show _ = (Value.slice _ _ _) from rfl) rfl (by kernel_rfl) HB9 (by first | exact of_decide_eq_true rfl | (simp; done) | decide) ?_)
          rintro w109 HX109 k109 z109
          have zs_k109 := k109.size
          replace E := E.step k109 (by intro i hi he; (try dsimp only [NoK] at hi he ⊢); first | exact he.elim | omega | exact he)
          replace HB2 := HB2.keep k109 (by intro h; (try dsimp only at h); first | omega)
          replace EL1 := EL1.step k109 (by intro i hi he; (try dsimp only [NoK] at hi he ⊢); first | exact he.elim | omega | exact he)
          replace HR13 := HR13.keep k109 (by intro h; have h := h; (try dsimp only [NoK] at h); first | exact h | omega | (rcases h with h | h <;> omega)) (by intro i hi he; have hi0 := hi; have hi := hi; have he := he; (try dsimp only [NoK] at hi he); first | exact he.elim | omega | (have := hF i hi0; omega))
          replace HO51 := HO51.keep k109 (by intro i ho he; have he0 := he; have ho0 := ho; (try dsimp only [NoK] at he); (try simp only [Value.ownBlock, Option.some.injEq, reduceCtorEq] at ho); (try simp only [Value.ownBlock, Option.some.injEq, reduceCtorEq] at he); first | exact he.elim | exact ho.elim | omega | (have := zo_HO51 _ ho0; omega)) (by intro i _ hi _ he; have he0 := he; have hi := hi; have he := he; (try dsimp only [NoK, AllB] at hi he); (try simp only [Value.ownBlock, Option.some.injEq, reduceCtorEq] at he); first | exact hi.elim | exact hi.1.elim | exact he.elim | omega | (rcases hi with hi | hi <;> omega) | (rcases he with he | he <;> omega))
          replace HB9 := HX109
          clear HX109
          try simp only [List.set_cons_zero, List.set_cons_succ, setAt, List.take_zero, List.take_succ_cons, List.drop_zero, List.drop_succ_cons, List.nil_append, List.cons_append, List.append_nil, List.length_cons, List.length_nil, Nat.zero_add, Nat.reduceAdd, List.drop_nil] at HB9
          refine l_nil ?_
          refine n_blk ?_
          refine n_then ?_
          refine wp_reg (by decide +kernel) ?_
          refine l_v (v_move (t := .int _ _) rfl) ?_
          refine l_v (v_add rfl rfl (by first | exact wr_i64 (by omega) (by omega) | rfl)) ?_
          refine l_v (v_assign (t := .int _ _) rfl) ?_
          refine l_nil ?_
          refine n_then ?_
          refine ⟨(0 + 1, .slice a51 n51 c51, [] ++ [(fr, [], false, (q : Int))], rest l1), _, rfl, by (repeat (first | exact Off.of_over _ _ _ | refine Off.upd ?_ (by decide) _)), ⟨by first | rfl | exact congrArg (Value.int _) (by omega) | (simp; done), trivial⟩, ⟨E, EL1, ?_⟩, ?_⟩
          · skip
            exact ⟨by omega, rfl, HB9, HO51.mono fun b hb h => ⟨h, hb⟩, HR13, by omega, hrd2⟩
          · (dsimp only; omega)
    · skip
      have h2 := dfalse hlt
      obtain rfl : i = m := by omega
      obtain ⟨ax, cx, rfl⟩ := HOx.shape
      rw [Nat.sub_self] at hrd
      have htr2 : tryRd (rdList rdR) 16 (rest l) = .ok (xs, lr) := by rw [htr, hrd]; (try simp [rdList, bindL])
      have HGm := AgV.mkMp (HOx.view.mono (F' := fun b => b9 < b) fun b hb h => by rcases h with h | h <;> omega) (show -9223372036854775808 ≤ (n : Int) ∧ (n : Int) ≤ 9223372036854775807 by omega)
      refine c_exit ?_
      refine x_then ?_
      refine x_then ?_
      refine x_hit ?_
      refine n_then ?_
      refine c_seq ?_
      refine c_seq ?_
      refine wp_reg (by decide +kernel) ?_
      refine l_v (v_move (t := .pointer _) rfl) ?_
      refine l_to (to_f1 (by kernel_rfl) (show _ = (Value.pointer _) from rfl) (CallsR.mono (refLeft_c HR6) ?_))
      rintro _ w110 ⟨rfl, e110⟩
      have zs_e110 := e110.size
      replace E := E.trans (Ext.keep e110)
      replace HB2 := HB2.ext e110
      replace HB9 := HB9.ext e110
      replace HOx := HOx.ext e110
      replace HR6 := HR6.ext e110
      replace HGm := HGm.ext e110
      refine l_v (v_gtr rfl rfl) ?_
      refine l_v (v_move (t := .bool _) rfl) ?_
      refine l_g1 rfl rfl (fun hG => v_loadA (by kernel_rfl) rfl (by first | exact HB9.pv | exact HB2.pv | assumption) rfl) ?_
      refine l_g1f rfl rfl (fun hG => to_f1 (by kernel_rfl) (gd hG rfl) (refMay_c HGm)) ?_
      rintro w111 e111
      have zs_e111 := e111.size
      replace E := E.trans (Ext.keep e111)
      replace HB2 := HB2.ext e111
      replace HB9 := HB9.ext e111
      replace HOx := HOx.ext e111
      replace HR6 := HR6.ext e111
      replace HGm := HGm.ext e111
      refine l_g1 rfl rfl (fun hG => v_not (gd hG rfl)) ?_
      refine l_v (v_or rfl rfl) ?_
      refine l_nil ?_
      refine n_then ?_
      refine c_cond rfl rfl (fun hc7 => ?_) (fun hc7 => ?_)
      · skip
        refine c_seq ?_
        refine wp_reg (by decide +kernel) ?_
        refine l_v (v_build (pl := [(0, 1), (1, 1)]) (z := .agg #[.int .i64 0, .slice none 0 0]) (zl := [.int .i64 0, .slice none 0 0]) (by kernel_rfl) (by unfold kZero; kernel_rfl) rfl rfl (cells := [_, _]) rfl) ?_
        refine l_to (to_storeA (n := 2) rfl rfl (show _ = (Value.agg _) from rfl) (by kernel_rfl) rfl (by first | (simp [slice_one]; done) | (simp only [List.forall_mem_cons, List.cons_append, List.nil_append]; repeat' (first | exact rfl | apply And.intro | (intro u hu; cases hu; done)))) HB2 (by first | exact of_decide_eq_true rfl | (simp; done) | decide) ?_)
        rintro w112 HX112 k112 z112
        have zs_k112 := k112.size
        replace E := E.step k112 (by intro i hi he; (try dsimp only [NoK] at hi he ⊢); first | exact he.elim | omega | exact he)
        replace HB9 := HB9.keep k112 (by intro h; (try dsimp only at h); first | omega)
        replace HOx := HOx.keep k112 (by intro i ho he; have he0 := he; have ho0 := ho; (try dsimp only [NoK] at he); (try simp only [Value.ownBlock, Option.some.injEq, reduceCtorEq] at ho); (try simp only [Value.ownBlock, Option.some.injEq, reduceCtorEq] at he); first | exact he.elim | exact ho.elim | omega | (have := zo_HOx _ ho0; omega)) (by intro i _ hi _ he; have he0 := he; have hi := hi; have he := he; (try dsimp only [NoK, AllB] at hi he); (try simp only [Value.ownBlock, Option.some.injEq, reduceCtorEq] at he); first | exact hi.elim | exact hi.1.elim | exact he.elim | omega | (rcases hi with hi | hi <;> omega) | (rcases he with he | he <;> omega))
        replace HR6 := HR6.keep k112 (by intro h; have h := h; (try dsimp only [NoK] at h); first | exact h | omega | (rcases h with h | h <;> omega)) (by intro i hi he; have hi0 := hi; have hi := hi; have he := he; (try dsimp only [NoK] at hi he); first | exact he.elim | omega | (have := hF i hi0; omega))
        replace HGm := HGm.keep k112 (by intro i _ hi he; (try dsimp only [NoK, AllB] at hi he); first | exact hi.elim | exact he.elim | omega | (rcases hi with hi | hi <;> omega) | (rcases he with he | he <;> omega))
        replace HB2 := HX112
        clear HX112
        try simp only [List.set_cons_zero, List.set_cons_succ, setAt, List.take_zero, List.take_succ_cons, List.drop_zero, List.drop_succ_cons, List.nil_append, List.cons_append, List.append_nil, List.length_cons, List.length_nil, Nat.zero_add, Nat.reduceAdd, List.drop_nil] at HB2
        refine l_v (v_assign rfl) ?_
        refine l_nil ?_
        refine n_then ?_
        refine c_ret ?_
        refine r_then ?_
        refine ret2cv (n := 2) rfl (by decide) (by decide) rfl (by kernel_rfl) HB2.pv rfl (show _ = (Value.int _ _) from rfl) ?_
        have h : readM l = (mp0, 4) := by
          rw [readM]; simp only [hdn, htr2]
          rw [if_neg]
          rintro ⟨h1, _, h3⟩
          rw [h1, h3] at hc7; simp at hc7
        rw [h]
        exact ⟨⟨_, rfl, AgV.mkMp (SlV.nil _ _ _) (by decide)⟩, E⟩
      · skip
        refine c_skip ?_
        refine n_then ?_
        refine c_seq ?_
        refine wp_reg (by decide +kernel) ?_
        refine l_v (v_loadA (by kernel_rfl) rfl (by first | exact HB9.pv | exact HB2.pv | assumption) rfl) ?_
        refine l_to (to_storeA (n := 2) rfl rfl (show _ = (Value.agg _) from rfl) (by kernel_rfl) rfl (by first | (simp [slice_one]; done) | (simp only [List.forall_mem_cons, List.cons_append, List.nil_append]; repeat' (first | exact rfl | apply And.intro | (intro u hu; cases hu; done)))) HB2 (by first | exact of_decide_eq_true rfl | (simp; done) | decide) ?_)
        rintro w113 HX113 k113 z113
        have zs_k113 := k113.size
        replace E := E.step k113 (by intro i hi he; (try dsimp only [NoK] at hi he ⊢); first | exact he.elim | omega | exact he)
        replace HB9 := HB9.keep k113 (by intro h; (try dsimp only at h); first | omega)
        replace HOx := HOx.keep k113 (by intro i ho he; have he0 := he; have ho0 := ho; (try dsimp only [NoK] at he); (try simp only [Value.ownBlock, Option.some.injEq, reduceCtorEq] at ho); (try simp only [Value.ownBlock, Option.some.injEq, reduceCtorEq] at he); first | exact he.elim | exact ho.elim | omega | (have := zo_HOx _ ho0; omega)) (by intro i _ hi _ he; have he0 := he; have hi := hi; have he := he; (try dsimp only [NoK, AllB] at hi he); (try simp only [Value.ownBlock, Option.some.injEq, reduceCtorEq] at he); first | exact hi.elim | exact hi.1.elim | exact he.elim | omega | (rcases hi with hi | hi <;> omega) | (rcases he with he | he <;> omega))
        replace HR6 := HR6.keep k113 (by intro h; have h := h; (try dsimp only [NoK] at h); first | exact h | omega | (rcases h with h | h <;> omega)) (by intro i hi he; have hi0 := hi; have hi := hi; have he := he; (try dsimp only [NoK] at hi he); first | exact he.elim | omega | (have := hF i hi0; omega))
        replace HGm := HGm.keep k113 (by intro i _ hi he; (try dsimp only [NoK, AllB] at hi he); first | exact hi.elim | exact he.elim | omega | (rcases hi with hi | hi <;> omega) | (rcases he with he | he <;> omega))
        replace HB2 := HX113
        clear HX113
        try simp only [List.set_cons_zero, List.set_cons_succ, setAt, List.take_zero, List.take_succ_cons, List.drop_zero, List.drop_succ_cons, List.nil_append, List.cons_append, List.append_nil, List.length_cons, List.length_nil, Nat.zero_add, Nat.reduceAdd, List.drop_nil] at HB2
        refine l_v (v_assign rfl) ?_
        refine l_nil ?_
        refine n_then ?_
        refine c_ret ?_
        refine ret2cv (n := 2) rfl (by decide) (by decide) rfl (by kernel_rfl) HB2.pv rfl (show _ = (Value.int _ _) from rfl) ?_
        have h : readM l = (((n : Int), fixL xs), 0) := by
          rw [readM]; simp only [hdn, htr2]
          have h3 : lr = [] ∧ mayM ((n : Int), fixL xs) = true := by
            cases lr with
            | nil => exact ⟨rfl, by revert hc7; cases mayM ((n : Int), fixL xs) <;> simp⟩
            | cons y ys => exfalso; simp at hc7; (try omega)
          rw [if_pos ⟨h3.1, by omega, h3.2⟩]
        rw [h]
        exact ⟨⟨_, rfl, HGm.mono fun _ _ _ => trivial⟩, E⟩
theorem RangesReads_c {w : World} {F : Nat → Prop} {v : Value} {l : List UInt8} (HS1 : Bv w F v l) : CallsR Try.prog 14 #[v] w (fun o w' => o = .bool true ∧ Ext w w') := by
  obtain ⟨a1, c1, rfl⟩ := HS1.shape
  refine enter 33 Try.func14 rfl rfl (by simp) ?_
  refine c_seq ?_
  have E := Keep.refl (K := NoK) w
  replace HS1 := HS1.all
  refine wp_reg (by decide +kernel) ?_
  refine l_v (v_assign rfl) ?_
  refine l_nil ?_
  refine n_then ?_
  refine c_seq ?_
  refine c_seq ?_
  refine wp_reg (by decide +kernel) ?_
  refine l_v (v_move (t := .slice _ _ _) rfl) ?_
  refine l_v (v_len (et := 5) (by kernel_rfl) rfl) ?_
  refine l_v (v_gtr rfl rfl) ?_
  refine l_nil ?_
  refine n_then ?_
  refine c_cond rfl rfl (fun hc => ?_) (fun hc => ?_)
  · skip
    refine c_seq ?_
    refine wp_reg (by decide +kernel) ?_
    refine l_to (to_f0 (by kernel_rfl) (CallsR.mono (known_c) ?_))
    rintro _ w101 ⟨rfl, e101⟩
    have zs_e101 := e101.size
    replace E := E.trans (Ext.keep e101)
    replace HS1 := HS1.ext e101
    refine l_v (v_assign (t := .bool _) rfl) ?_
    refine l_nil ?_
    refine n_then ?_
    refine c_ret ?_
    refine r_then ?_
    refine ret1v rfl (by decide) (show _ = (Value.bool _) from rfl) ?_
    exact ⟨rfl, E⟩
  · skip
    have hc := dfalse hc
    refine c_skip ?_
    refine n_then ?_
    refine c_seq ?_
    refine wp_reg (by decide +kernel) ?_
    refine l_v (v_move (t := .slice _ _ _) rfl) ?_
    refine l_to (to_f1 (by kernel_rfl) (show _ = (Value.slice _ _ _) from rfl) (CallsR.mono (rRead_c HS1 (by omega)) ?_))
    rintro _ w2 ⟨⟨x, rfl, HG2⟩, e2⟩
    have zs_e2 := e2.size
    replace HG2 := HG2.all
    obtain ⟨a2, c2, rfl, HS2, _⟩ := HG2.mp
    replace E := E.trans (Ext.keep e2)
    replace HS1 := HS1.ext e2
    refine l_v (v_move (t := .tuple _) rfl) ?_
    refine l_v (v_extract (t := .agg _) rfl rfl) ?_
    refine l_v (v_extract (t := .int _ _) rfl rfl) ?_
    refine l_to (to_alloc (z := (.agg #[.int .i64 0, .slice none 0 0])) (by unfold kZero; kernel_rfl) ?_)
    rintro b5 w5 zb5 HB5 e5 z5
    have zs_e5 := e5.size
    replace E := E.trans (Ext.keep e5)
    replace HS1 := HS1.ext e5
    replace HG2 := HG2.ext e5
    try simp only [Value.cells] at HB5
    refine l_to (to_storeA (n := 2) rfl rfl (show _ = (Value.agg _) from rfl) (by kernel_rfl) rfl (by first | (simp [slice_one]; done) | (simp only [List.forall_mem_cons, List.cons_append, List.nil_append]; repeat' (first | exact rfl | apply And.intro | (intro u hu; cases hu; done)))) HB5 (by first | exact of_decide_eq_true rfl | (simp; done) | decide) ?_)
    rintro w102 HX102 k102 z102
    have zs_k102 := k102.size
    replace E := E.step k102 (by intro i hi he; (try dsimp only [NoK] at hi he ⊢); first | exact he.elim | omega | exact he)
    replace HS1 := HS1.keep k102 (by intro i _ hi he; (try dsimp only [NoK, AllB] at hi he); first | exact hi.elim | exact he.elim | omega | (rcases hi with hi | hi <;> omega) | (rcases he with he | he <;> omega))
    replace HG2 := HG2.keep k102 (by intro i _ hi he; (try dsimp only [NoK, AllB] at hi he); first | exact hi.elim | exact he.elim | omega | (rcases hi with hi | hi <;> omega) | (rcases he with he | he <;> omega))
    replace HB5 := HX102
    clear HX102
    try simp only [List.set_cons_zero, List.set_cons_succ, setAt, List.take_zero, List.take_succ_cons, List.drop_zero, List.drop_succ_cons, List.nil_append, List.cons_append, List.append_nil, List.length_cons, List.length_nil, Nat.zero_add, Nat.reduceAdd, List.drop_nil] at HB5
    refine l_v (v_assign (t := .int _ _) rfl) ?_
    refine l_nil ?_
    refine n_then ?_
    refine c_seq ?_
    refine wp_reg (by decide +kernel) ?_
    refine l_v (v_move (t := .slice _ _ _) rfl) ?_
    refine l_to (to_f1 (by kernel_rfl) (show _ = (Value.slice _ _ _) from rfl) (CallsR.mono (refRead_c HS1 (by omega)) ?_))
    rintro _ w3 ⟨⟨y, rfl, HG3⟩, e3⟩
    have zs_e3 := e3.size
    replace HG3 := HG3.all
    obtain ⟨a3, c3, rfl, HS3, _⟩ := HG3.mp
    replace E := E.trans (Ext.keep e3)
    replace HS1 := HS1.ext e3
    replace HG2 := HG2.ext e3
    replace HB5 := HB5.ext e3
    refine l_v (v_move (t := .tuple _) rfl) ?_
    refine l_v (v_extract (t := .agg _) rfl rfl) ?_
    refine l_v (v_extract (t := .int _ _) rfl rfl) ?_
    refine l_to (to_alloc (z := (.agg #[.int .i64 0, .slice none 0 0])) (by unfold kZero; kernel_rfl) ?_)
    rintro b6 w6 zb6 HB6 e6 z6
    have zs_e6 := e6.size
    replace E := E.trans (Ext.keep e6)
    replace HG2 := HG2.ext e6
    replace HB5 := HB5.ext e6
    replace HG3 := HG3.ext e6
    try simp only [Value.cells] at HB6
    refine l_to (to_storeA (n := 2) rfl rfl (show _ = (Value.agg _) from rfl) (by kernel_rfl) rfl (by first | (simp [slice_one]; done) | (simp only [List.forall_mem_cons, List.cons_append, List.nil_append]; repeat' (first | exact rfl | apply And.intro | (intro u hu; cases hu; done)))) HB6 (by first | exact of_decide_eq_true rfl | (simp; done) | decide) ?_)
    rintro w103 HX103 k103 z103
    have zs_k103 := k103.size
    replace E := E.step k103 (by intro i hi he; (try dsimp only [NoK] at hi he ⊢); first | exact he.elim | omega | exact he)
    replace HG2 := HG2.keep k103 (by intro i _ hi he; (try dsimp only [NoK, AllB] at hi he); first | exact hi.elim | exact he.elim | omega | (rcases hi with hi | hi <;> omega) | (rcases he with he | he <;> omega))
    replace HB5 := HB5.keep k103 (by intro h; (try dsimp only at h); first | omega)
    replace HG3 := HG3.keep k103 (by intro i _ hi he; (try dsimp only [NoK, AllB] at hi he); first | exact hi.elim | exact he.elim | omega | (rcases hi with hi | hi <;> omega) | (rcases he with he | he <;> omega))
    replace HB6 := HX103
    clear HX103
    try simp only [List.set_cons_zero, List.set_cons_succ, setAt, List.take_zero, List.take_succ_cons, List.drop_zero, List.drop_succ_cons, List.nil_append, List.cons_append, List.append_nil, List.length_cons, List.length_nil, Nat.zero_add, Nat.reduceAdd, List.drop_nil] at HB6
    refine l_v (v_assign (t := .int _ _) rfl) ?_
    refine l_nil ?_
    refine n_then ?_
    refine c_seq ?_
    refine wp_reg (by decide +kernel) ?_
    refine l_v (v_loadA (by kernel_rfl) rfl (by first | exact HB6.pv | exact HB5.pv | assumption) rfl) ?_
    refine l_v (v_loadA (by kernel_rfl) rfl (by first | exact HB6.pv | exact HB5.pv | assumption) rfl) ?_
    refine l_to (to_f2 (by kernel_rfl) (show _ = (Value.agg _) from rfl) (show _ = (Value.agg _) from rfl) (CallsR.mono (refSame_c HG2 HG3) ?_))
    rintro _ w104 ⟨rfl, e104⟩
    have zs_e104 := e104.size
    replace E := E.trans (Ext.keep e104)
    replace HG2 := HG2.ext e104
    replace HB5 := HB5.ext e104
    replace HG3 := HG3.ext e104
    replace HB6 := HB6.ext e104
    refine l_v (v_move (t := .bool _) rfl) ?_
    refine l_g1 rfl rfl (fun hG => v_move (t := .int _ _) rfl) ?_
    refine l_g1f rfl rfl (fun hG => to_f1 (by kernel_rfl) (gd hG rfl) (num_c)) ?_
    rintro w105 e105
    have zs_e105 := e105.size
    replace E := E.trans (Ext.keep e105)
    replace HG2 := HG2.ext e105
    replace HB5 := HB5.ext e105
    replace HG3 := HG3.ext e105
    replace HB6 := HB6.ext e105
    refine l_g1 rfl rfl (fun hG => v_move (t := .int _ _) rfl) ?_
    refine l_g1 rfl rfl (fun hG => v_eql (gd hG rfl) (gd hG rfl)) ?_
    refine l_v (v_and rfl rfl) ?_
    refine l_v (v_move (t := .bool _) rfl) ?_
    refine l_g1f rfl rfl (fun hG => to_f0 (by kernel_rfl) (known_c)) ?_
    rintro w106 e106
    have zs_e106 := e106.size
    replace E := E.trans (Ext.keep e106)
    replace HG2 := HG2.ext e106
    replace HB5 := HB5.ext e106
    replace HG3 := HG3.ext e106
    replace HB6 := HB6.ext e106
    refine l_v (v_and rfl rfl) ?_
    refine l_v (v_assign (t := .bool _) rfl) ?_
    refine l_nil ?_
    refine n_then ?_
    refine c_ret ?_
    refine ret1v rfl (by decide) (show _ = (Value.bool _) from rfl) ?_
    refine ⟨?_, E⟩
    rw [sameM_self]; simp
end Go.Proofs.Ytkaangdfpjkjpaa
