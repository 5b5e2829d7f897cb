/- A part of the proof: steps and lemmas for the walks through the given program. -/
import Derived.Test.YtkaangdfpjkjpaaR17
import Derived.Test.YtkaangdfpjkjpaaVc29
namespace Go.Proofs.Ytkaangdfpjkjpaa
open Go.Vc
set_option linter.unusedVariables false
set_option linter.unusedSimpArgs false
set_option maxRecDepth 100000

def fromG : List RgV → Int → Nat → Int
  | [], _, _ => -1
  | r :: l, g, i => if r.2.2.2 = g then (i : Int) else fromG l g (i + 1)
def nxG (m : MpV) (g : Int) (p : Nat) : Int := if mayM m then fromG (m.2.drop p) g p else -1
def prv (pre : List (Nat × List Value)) : Nat := match pre.getLast? with | none => 0 | some x => x.1 + 1
theorem prv_snoc (pre : List (Nat × List Value)) (x : Nat × List Value) : prv (pre ++ [x]) = x.1 + 1 := by simp [prv]
theorem lnext_c {w : World} {F : Nat → Prop} {v : Value} {e g : Int} {rs : List RgV} {p : Nat} (HG1 : AgV tMp w F v (e, rs)) (hp : p ≤ rs.length) : CallsR Try.prog 67 #[v, .int .i64 g, .int .i64 ((p : Int) - 1)] w (fun o w' => o = .int .i64 (nxG (e, rs) g p) ∧ Ext w w') := by
  obtain ⟨a, c, rfl, HSr, he⟩ := HG1.mp
  simp only at HSr he
  have hmx := HSr.len_max
  refine enter 30 Try.func67 rfl rfl (by simp) ?_
  refine c_seq ?_
  have E := Keep.refl (K := NoK) w
  replace HG1 := HG1.all
  replace HSr := HSr.all
  refine wp_reg (by decide +kernel) ?_
  refine l_to (to_box (show _ = (Value.agg _) from rfl) ?_)
  rintro b2 w2 zb2 HB2 e2 z2
  have zs_e2 := e2.size
  replace E := E.trans (Ext.keep e2)
  replace HG1 := HG1.ext e2
  replace HSr := HSr.ext e2
  try simp only [Value.cells] at HB2
  refine l_v (v_assign rfl) ?_
  refine l_nil ?_
  refine n_then ?_
  refine c_seq ?_
  refine c_seq ?_
  refine wp_reg (by decide +kernel) ?_
  refine l_v (v_move (t := .int _ _) rfl) ?_
  refine l_v (v_add rfl rfl (by first | exact wr_i64 (by omega) (by omega) | rfl)) ?_
  refine l_v (v_assign (t := .int _ _) rfl) ?_
  refine l_nil ?_
  refine n_then ?_
  refine c_block ?_
  refine c_loop (τ := Nat) [6, 7, 10, 11, 12, 13, 14, 15, 16, 17, 18, 19, 20, 21, 22, 23, 24, 25, 26, 27, 28, 29] (fun i => [(7, .int .i64 i)]) (fun i W => Ext w W ∧ Keep (NoK) w2 W ∧ i ≤ rs.length ∧ (mayM (e, rs) = true → nxG (e, rs) g p = fromG (rs.drop i) g i)) (fun i => rs.length - i) p (by exact ⟨congrArg (Value.int _) (by omega), trivial⟩) (by exact ⟨E, Keep.refl _, hp, fun hm => by rw [nxG, if_pos hm]⟩) ?_
  rintro i w101 j ⟨E, EL1, h1, h2⟩
  have zs_EL1 := EL1.size
  replace HG1 := HG1.ext EL1
  replace HSr := HSr.ext EL1
  replace HB2 := HB2.ext EL1
  refine c_seq ?_
  refine c_seq ?_
  refine wp_reg (by decide +kernel) ?_
  refine l_v (v_move (t := .int _ _) rfl) ?_
  refine l_v (v_fieldAddr (off := 1) (ft := 22) (by kernel_rfl) rfl) ?_
  refine l_v (v_load (by kernel_rfl) rfl (by first | exact HB2.pv 1 _ rfl | assumption)) ?_
  refine l_v (v_len (et := 37) (by kernel_rfl) rfl) ?_
  refine l_v (v_lss rfl rfl) ?_
  refine l_v (v_move (t := .bool _) rfl) ?_
  refine l_g1 rfl rfl (fun hG => v_loadA (by kernel_rfl) rfl (by first | exact HB2.pv | assumption) rfl) ?_
  refine l_g1f rfl rfl (fun hG => to_f1 (by kernel_rfl) (gd hG rfl) (refMay_c HG1)) ?_
  rintro w102 e102
  have zs_e102 := e102.size
  replace E := E.trans (Ext.keep e102)
  replace HG1 := HG1.ext e102
  replace HSr := HSr.ext e102
  replace HB2 := HB2.ext e102
  replace EL1 := EL1.trans (Ext.keep e102)
  refine l_v (v_and rfl rfl) ?_
  refine l_nil ?_
  refine n_then ?_
  refine c_cond rfl rfl (fun hlt => ?_) (fun hlt => ?_)
  · skip
    have hlt2 : i < rs.length ∧ mayM (e, rs) = true := by simpa only [Bool.and_eq_true, decide_eq_true_eq, Int.ofNat_lt] using hlt
    obtain ⟨r, hx, hdr⟩ := getE (l := rs) (i := i) (by omega)
    obtain ⟨q, cs, hq, hF, _, HPq, hr⟩ := HSr.el hx
    subst hq
    obtain ⟨b3, d3, b5, d5, rfl, _, _, hg⟩ := tRg_cells hr
    refine c_skip ?_
    refine n_then ?_
    refine c_seq ?_
    refine c_block ?_
    refine c_seq ?_
    refine wp_reg (by decide +kernel) ?_
    refine l_v (v_fieldAddr (off := 1) (ft := 22) (by kernel_rfl) rfl) ?_
    refine l_v (v_load (by kernel_rfl) rfl (by first | exact HPq 1 _ rfl | exact HB2.pv 1 _ rfl | assumption)) ?_
    refine l_v (v_move (t := .int _ _) rfl) ?_
    refine l_v (v_indexAddr (et := 37) (sz := 4) (k := i) (by kernel_rfl) (by kernel_rfl) rfl rfl (by first | rfl | omega) (by omega)) ?_
    refine l_v (v_fieldAddr (off := 3) (ft := 3) (by kernel_rfl) rfl) ?_
    refine l_v (v_load (by kernel_rfl) rfl (by first | exact HPq 3 _ rfl | exact HB2.pv 3 _ rfl | assumption)) ?_
    refine l_v (v_move (t := .int _ _) rfl) ?_
    refine l_v (v_eql rfl rfl) ?_
    refine l_nil ?_
    refine n_then ?_
    refine c_cond rfl rfl (fun hh => ?_) (fun hh => ?_)
    · skip
      refine c_seq ?_
      refine wp_reg (by decide +kernel) ?_
      refine l_v (v_move (t := .int _ _) rfl) ?_
      refine l_v (v_assign (t := .int _ _) rfl) ?_
      refine l_nil ?_
      refine n_then ?_
      refine c_ret ?_
      refine r_blk ?_
      refine r_then ?_
      refine r_then ?_
      refine r_blk ?_
      refine r_then ?_
      refine ret1v rfl (by decide) (show _ = (Value.int _ _) from rfl) ?_
      refine ⟨?_, E⟩
      rw [h2 hlt2.2, hdr, fromG, if_pos (dtrue hh)]
    · skip
      refine c_skip ?_
      refine n_blk ?_
      refine n_then ?_
      refine wp_reg (by decide +kernel) ?_
      refine l_v (v_move (t := .int _ _) rfl) ?_
      refine l_v (v_add rfl rfl (by first | exact wr_i64 (by omega) (by omega) | rfl)) ?_
      refine l_v (v_assign (t := .int _ _) rfl) ?_
      refine l_nil ?_
      refine n_then ?_
      refine ⟨i + 1, _, rfl, by (repeat (first | exact Off.of_over _ _ _ | refine Off.upd ?_ (by decide) _)), ⟨by first | rfl | exact congrArg (Value.int _) (by omega) | (simp; done), trivial⟩, ⟨E, EL1, ?_⟩, ?_⟩
      · skip
        refine ⟨by omega, fun hm => ?_⟩
        rw [h2 hm, hdr, fromG, if_neg (dfalse hh)]
      · (dsimp only; omega)
  · skip
    refine c_exit ?_
    refine x_then ?_
    refine x_then ?_
    refine x_hit ?_
    refine n_then ?_
    refine c_seq ?_
    refine wp_reg (by decide +kernel) ?_
    refine l_v (v_assign rfl) ?_
    refine l_nil ?_
    refine n_then ?_
    refine c_ret ?_
    refine ret1v rfl (by decide) (show _ = (Value.int _ _) from rfl) ?_
    refine ⟨?_, E⟩
    by_cases hm : mayM (e, rs) = true
    · have h3 : ¬ i < rs.length := by rw [hm, Bool.and_true] at hlt; have := dfalse hlt; omega
      rw [h2 hm, List.drop_eq_nil_of_le (by omega)]; rfl
    · rw [nxG, if_neg hm]
theorem Of_c {w : World} {u : Array Value} {g : Int} : CallsR Try.prog 66 #[.agg u, .int .i64 g] w (fun o w' => ∃ b c, b = w.heap.size ∧ c = b + 1 ∧ o = .func (.func 90) #[] #[.pointer (some ⟨b, 0, none⟩), .pointer (some ⟨c, 0, none⟩)] ∧ Blk w' b u.toList 24 ∧ Blk w' c [.int .i64 g] 3 ∧ Ext w w') := by
  refine enter 6 Try.func66 rfl rfl (by simp) ?_
  refine c_seq ?_
  have E := Keep.refl (K := NoK) w
  refine wp_reg (by decide +kernel) ?_
  refine l_to (to_box (show _ = (Value.agg _) from rfl) ?_)
  rintro b1 w1 zb1 HB1 e1 z1
  have zs_e1 := e1.size
  replace E := E.trans (Ext.keep e1)
  try simp only [Value.cells] at HB1
  refine l_to (to_box (show _ = (Value.int _ _) from rfl) ?_)
  rintro b2 w2 zb2 HB2 e2 z2
  have zs_e2 := e2.size
  replace E := E.trans (Ext.keep e2)
  replace HB1 := HB1.ext e2
  try simp only [Value.cells] at HB2
  refine l_v (v_assign rfl) ?_
  refine l_nil ?_
  refine n_then ?_
  refine c_seq ?_
  refine wp_reg (by decide +kernel) ?_
  refine l_v (v_makeFunc (by simp [ev]; rfl) (by simp [ev]; rfl)) ?_
  refine l_v (v_assign rfl) ?_
  refine l_nil ?_
  refine n_then ?_
  refine c_ret ?_
  refine ret1v rfl (by decide) rfl ?_
  exact ⟨b1, b2, by omega, by omega, rfl, HB1, HB2, E⟩
def yOf (n : Nat) (e : Int) (rs : List RgV) (g : Int) (pre : List (Nat × List Value)) (x : Nat × List Value) (W : World) : Prop :=
  mayM (e, rs) = true ∧ nxG (e, rs) g (prv pre) = (x.1 : Int) ∧ n + 2 ≤ W.heap.size ∧ ∃ r, rs[x.1]? = some r ∧ tRg.rep W (fun b => n + 2 ≤ b) x.2 r
theorem Of1_seq {w0 : World} {F K : Nat → Prop} {a : Option Addr} {c b2 b3 : Nat} {e g : Int} {rs : List RgV} (HG1 : AgV tMp w0 F (.agg #[.int .i64 e, .slice a rs.length c]) (e, rs)) (hb2 : Blk w0 b2 [.int .i64 e, .slice a rs.length c] 24) (hb3 : Blk w0 b3 [.int .i64 g] 3)
    (hF : ∀ i, F i → ¬ K i) (hK2 : ¬ K b2) (hK3 : ¬ K b3) : SeqY Try.prog 90 #[.pointer (some ⟨b2, 0, none⟩), .pointer (some ⟨b3, 0, none⟩)] (fun x => [.int .i64 (x.1 : Int), .agg x.2.toArray]) (yOf w0.heap.size e rs g) K (fun xs => nxG (e, rs) g (prv xs) = -1) (fun _ => True) w0 := by
  refine fun l J Jx W hx hz hJ hJx hY h0 => ?_
  obtain ⟨a', c', ha, HSr, he⟩ := HG1.mp
  cases ha
  simp only at HSr he
  have hmx := HSr.len_max
  obtain ⟨css, hcss⟩ := HSr.pick
  refine CallsR.mono (R := fun _ W' => (∃ xs, nxG (e, rs) g (prv xs) = -1 ∧ J xs W') ∨ ∃ pre, True ∧ Jx pre W') ?_ fun _ _ h => h
  show CallsR _ _ (#[.func (.yield l) #[] #[], .pointer (some ⟨b2, 0, none⟩), .pointer (some ⟨b3, 0, none⟩)]) W _
  refine enter 30 Try.func90 rfl rfl (by simp) ?_
  refine c_seq ?_
  refine c_seq ?_
  refine wp_reg (by decide +kernel) ?_
  refine l_v (v_loadA (n := 2) (by kernel_rfl) rfl ((hb2.ext hx).pv) (rfl)) ?_
  refine l_to (to_f1 (by kernel_rfl) (show _ = (Value.agg _) from rfl) (CallsR.mono (May_c (HG1.ext hx)) ?_))
  rintro _ w1 ⟨rfl, e1⟩
  have zs_e1 := e1.size
  refine l_v (v_not rfl) ?_
  refine l_nil ?_
  refine n_then ?_
  refine c_cond rfl rfl (fun hc => ?_) (fun hc => ?_)
  · skip
    refine c_ret ?_
    refine r_then ?_
    refine ret0 rfl ?_
    refine .inl ⟨[], ?_, hJ _ _ _ e1 h0⟩
    rw [nxG, if_neg (by simpa using hc)]
  · skip
    have hm : mayM (e, rs) = true := by simpa using hc
    have hlens := mayM_lens hm
    have hx1 := hx.trans e1
    refine c_skip ?_
    refine n_then ?_
    refine c_seq ?_
    refine wp_reg (by decide +kernel) ?_
    refine l_v (v_fieldAddr (off := 1) (ft := 22) (by kernel_rfl) rfl) ?_
    refine l_v (v_load (by kernel_rfl) rfl ((hb2.ext hx1).cell rfl)) ?_
    refine l_v (v_len (et := 37) (by kernel_rfl) rfl) ?_
    refine l_v (v_move rfl) ?_
    refine l_nil ?_
    refine n_then ?_
    refine c_block ?_
    refine c_loop (τ := Nat × List (Nat × List Value)) [4, 5, 12, 13, 14, 15, 16, 17, 18, 19, 20, 21, 22, 23, 24, 25, 26, 27, 28, 29] (fun t => [(12, .int .i64 t.1)]) (fun t w => t.1 ≤ rs.length ∧ Keep K w0 w ∧ w0.heap.size + 2 ≤ w.heap.size ∧ J t.2 w ∧ nxG (e, rs) g (prv t.2) = fromG (rs.drop t.1) g t.1) (fun t => rs.length - t.1) (0, []) (by exact ⟨rfl, trivial⟩) (by exact ⟨Nat.zero_le _, hx1.keep, by have := e1.size; omega, hJ _ _ _ e1 h0, by rw [nxG, if_pos hm]; rfl⟩) ?_
    rintro ⟨i, pre⟩ w2 j ⟨h1, k1, hz1, hj, hn⟩
    refine c_seq ?_
    simp only at h1 hn hj
    refine wp_reg (by decide +kernel) ?_
    refine l_v (v_lss rfl rfl) ?_
    refine l_nil ?_
    refine n_then ?_
    refine c_seq ?_
    refine c_cond rfl rfl (fun hlt => ?_) (fun hlt => ?_)
    · skip
      have hlt : i < rs.length := by have := dtrue hlt; simp only at this; omega
      obtain ⟨r, hx1', hdr⟩ := getE hlt
      obtain ⟨q, rfl, hFq, hql, hp, hr⟩ := hcss i r hx1'
      have hrl := hlens r (List.mem_of_getElem? hx1')
      obtain ⟨a1, c1, a2, c2, hcs, _, _, _⟩ := tRg_cells hr
      refine c_skip ?_
      refine n_then ?_
      refine c_seq ?_
      refine c_block ?_
      refine c_seq ?_
      refine wp_reg (by decide +kernel) ?_
      refine l_v (v_move (t := .int _ _) rfl) ?_
      refine l_v (v_indexAddr (et := 37) (sz := 4) (k := i) (by kernel_rfl) (by kernel_rfl) rfl rfl (by first | rfl | omega) (hlt)) ?_
      refine l_v (v_loadA (n := 4) (by kernel_rfl) rfl (hp.keep k1 (by rw [add_block]; exact hF _ hFq)) (tRg.len hr)) ?_
      refine l_to (to_alloc (z := (.agg #[.slice none 0 0, .slice none 0 0, .bool false, .int .i64 0])) (by unfold kZero; kernel_rfl) ?_)
      rintro b4 w4 zb4 hb4 e4 z4
      have zs_e4 := e4.size
      refine l_v (v_assign (t := .int _ _) rfl) ?_
      refine l_to (to_storeA (n := 4) rfl rfl (show _ = (Value.agg _) from rfl) (by kernel_rfl) (tRg.len hr) (tRg.one hr) hb4 (by first | exact of_decide_eq_true rfl | (simp; done) | decide) ?_)
      rintro w5 hb5 k5 z5
      have zs_k5 := k5.size
      rw [show (css i).toArray.toList = css i from rfl, setAt_all (by rw [hcs]; rfl)] at hb5
      have e5 : Ext w2 w5 := e4.step k5 (by intro i hi he; dsimp only [NoK] at he ⊢; omega)
      have hr5 := tRg.keep (tRg.keep hr k1 (fun b _ hf => hF _ hf)) e5 (fun _ _ _ h => h)
      rw [hcs] at hb5 hr5
      have HG5 : AgV tRg w5 F _ r := ⟨_, rfl, hr5⟩
      refine l_nil ?_
      refine n_then ?_
      by_cases hgg : r.2.2.2 = g
      · skip
        refine c_seq ?_
        refine wp_reg (by decide +kernel) ?_
        refine l_v (v_fieldAddr (off := 3) (ft := 3) (by kernel_rfl) rfl) ?_
        refine l_v (v_load (by kernel_rfl) rfl (hb5.cell rfl)) ?_
        refine l_v (v_load (by kernel_rfl) rfl (((hb3.keep k1 hK3).ext e5).cell rfl)) ?_
        refine l_v (OpVat.as (b := true) (v_eql rfl rfl) (decide_eq_true hgg)) ?_
        refine l_v (v_move (t := .bool _) rfl) ?_
        refine l_gt rfl rfl (OpTo.of_v (v_move (t := .func _ _ _) rfl) ?_)
        refine l_gt rfl rfl (OpTo.of_v (v_move (t := .int _ _) rfl) ?_)
        refine l_gt rfl rfl (OpTo.of_v (v_loadA (n := 4) (by kernel_rfl) rfl ((hb5).pv) (rfl)) ?_)
        refine l_gt rfl rfl (to_f1 (by kernel_rfl) (show _ = (Value.agg _) from rfl) (CallsR.mono (clone_c HG5 (by omega) (by omega)) ?_))
        rintro x6 w6 ⟨⟨cs6, rfl, hr6⟩, e6⟩
        have zs_e6 := e6.size
        have e26 := e5.trans e6
        refine l_gt rfl rfl (to_yield2 rfl (show _ = (Value.int _ _) from rfl) (show _ = (Value.agg _) from rfl) (YieldAt.mono (hY pre (i, cs6) w6 (hJ _ _ _ e26 hj) ⟨hm, by rw [hn, hdr, fromG, if_pos hgg], by have := e26.size; omega, r, hx1', tRg.mono hr6 fun b _ hb => by have := e5.size; omega⟩) ?_))
        rintro en w7 ⟨v, rfl, hv⟩
        refine ⟨v, rfl, ?_⟩
        obtain ⟨bb, rfl, hb1, hb2'⟩ := yb hv
        refine l_gt rfl rfl (OpTo.of_v (v_not rfl) ?_)
        refine l_v (v_andT rfl rfl) ?_
        refine l_nil ?_
        refine n_then ?_
        refine c_cond rfl rfl (fun hc2 => ?_) (fun hc2 => ?_)
        · skip
          refine c_ret ?_
          refine r_blk ?_
          refine r_then ?_
          refine r_then ?_
          refine r_blk ?_
          refine ret0 rfl ?_
          obtain rfl : bb = false := by cases bb <;> simp_all
          exact .inr ⟨_, trivial, hb2' rfl⟩
        · skip
          obtain rfl : bb = true := by cases bb <;> simp_all
          obtain ⟨hj7, k7⟩ := hb1 rfl
          refine c_skip ?_
          refine n_blk ?_
          refine n_then ?_
          refine wp_reg (by decide +kernel) ?_
          refine l_v (v_add rfl rfl (by first | exact wr_i64 (by omega) (by omega) | rfl)) ?_
          refine l_v (v_move (t := .int _ _) rfl) ?_
          refine l_nil ?_
          refine n_then ?_
          refine ⟨(i + 1, pre ++ [(i, cs6)]), _, rfl, by (repeat (first | exact Off.of_over _ _ _ | refine Off.upd ?_ (by decide) _)), ⟨by first | rfl | exact congrArg (Value.int _) (by omega) | (simp; done), trivial⟩, ?_, ?_⟩
          · exact ⟨by dsimp only; omega, k1.trans ((Ext.keep e26).trans k7), by have := e26.size; have := k7.size; omega, hj7, by rw [prv_snoc, nxG, if_pos hm]⟩
          · dsimp only; omega
      · skip
        refine c_seq ?_
        refine wp_reg (by decide +kernel) ?_
        refine l_v (v_fieldAddr (off := 3) (ft := 3) (by kernel_rfl) rfl) ?_
        refine l_v (v_load (by kernel_rfl) rfl (hb5.cell rfl)) ?_
        refine l_v (v_load (by kernel_rfl) rfl (((hb3.keep k1 hK3).ext e5).cell rfl)) ?_
        refine l_v (OpVat.as (b := false) (v_eql rfl rfl) (decide_eq_false hgg)) ?_
        refine l_v (v_move (t := .bool _) rfl) ?_
        refine l_skip (u := .bool false) rfl rfl rfl ?_
        refine l_skip (u := .bool false) rfl rfl rfl ?_
        refine l_skip (u := .bool false) rfl rfl rfl ?_
        refine l_skip (u := .bool false) rfl rfl rfl ?_
        refine l_skip (u := .bool false) rfl rfl rfl ?_
        refine l_skip (u := .bool false) rfl rfl rfl ?_
        refine l_v (v_andC rfl) ?_
        refine l_nil ?_
        refine n_then ?_
        refine c_cond rfl rfl (fun hc2 => ?_) (fun hc2 => ?_)
        · skip
          cases hc2
        · skip
          refine c_skip ?_
          refine n_blk ?_
          refine n_then ?_
          refine wp_reg (by decide +kernel) ?_
          refine l_v (v_add rfl rfl (by first | exact wr_i64 (by omega) (by omega) | rfl)) ?_
          refine l_v (v_move (t := .int _ _) rfl) ?_
          refine l_nil ?_
          refine n_then ?_
          refine ⟨(i + 1, pre), _, rfl, by (repeat (first | exact Off.of_over _ _ _ | refine Off.upd ?_ (by decide) _)), ⟨by first | rfl | exact congrArg (Value.int _) (by omega) | (simp; done), trivial⟩, ?_, ?_⟩
          · exact ⟨by dsimp only; omega, k1.trans (Ext.keep e5), by have := e5.size; omega, hJ _ _ _ e5 hj, by rw [hn, hdr, fromG, if_neg hgg]⟩
          · dsimp only; omega
    · skip
      refine c_exit ?_
      refine x_then ?_
      refine x_then ?_
      refine x_hit ?_
      refine end0 rfl ?_
      exact .inl ⟨_, by rw [hn, List.drop_eq_nil_of_le (by have := dfalse hlt; simp only at this; omega)]; rfl, hj⟩
end Go.Proofs.Ytkaangdfpjkjpaa
