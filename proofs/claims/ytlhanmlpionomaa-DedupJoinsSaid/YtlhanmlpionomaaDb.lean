/- A part of the proof: steps and lemmas for the walks through the given program. -/
import Derived.Test.YtlhanmlpionomaaDa
import Derived.Test.YtlhanmlpionomaaGz
namespace Go.Proofs.Ytlhanmlpionomaa
open Go.Vc
set_option linter.unusedVariables false
set_option linter.unusedSimpArgs false
set_option maxRecDepth 100000

theorem New_c {w : World} : CallsR Try.prog 28 #[] w (fun o w' => ∃ b bm, o = .pointer (some ⟨b, 0, none⟩) ∧ w.heap.size ≤ bm ∧ w.heap.size ≤ b ∧ b ≠ bm ∧ Blk w' b [.map (some bm)] 65 ∧ TbI w' NoK bm (fun _ => none) ∧ Ext w w') := by
  refine enter 4 Try.func28 rfl rfl (by simp) ?_
  refine c_seq ?_
  have E := Keep.refl (K := NoK) w
  refine wp_reg (by decide +kernel) ?_
  refine l_v (v_assign rfl) ?_
  refine l_nil ?_
  refine n_then ?_
  refine c_seq ?_
  refine wp_reg (by decide +kernel) ?_
  refine l_to (to_makeMap kInt ?_)
  rintro bm w1 zm HM1 e1 z1
  have zs_e1 := e1.size
  replace E := E.trans (Ext.keep e1)
  refine l_v (v_build (pl := [(0, 1)]) (z := .agg #[.map none]) (zl := [.map none]) (by kernel_rfl) (by unfold kZero; kernel_rfl) rfl rfl (cells := [_]) rfl) ?_
  refine l_to (to_box (show _ = (Value.agg _) from rfl) ?_)
  rintro b w2 zb HB2 e2 z2
  have zs_e2 := e2.size
  replace E := E.trans (Ext.keep e2)
  replace HM1 := HM1.ext e2
  try simp only [Value.cells] at HB2
  refine l_v (v_assign (t := .pointer _) rfl) ?_
  refine l_nil ?_
  refine n_then ?_
  refine c_ret ?_
  refine ret1v rfl (by decide) (show _ = (Value.pointer _) from rfl) ?_
  exact ⟨b, bm, rfl, by omega, by omega, by omega, HB2, TbI.new HM1, E⟩
theorem there_c {w : World} {b : Nat} {p : Option Nat} (HB1 : Blk w b [.map p] 65) : CallsR Try.prog 44 #[.pointer (some ⟨b, 0, none⟩)] w (fun o w' => o = .bool p.isSome ∧ Ext w w') := by
  refine enter 12 Try.func44 rfl rfl (by simp) ?_
  refine c_seq ?_
  have E := Keep.refl (K := NoK) w
  refine wp_reg (by decide +kernel) ?_
  refine l_v (v_assign rfl) ?_
  refine l_nil ?_
  refine n_then ?_
  refine c_seq ?_
  refine wp_reg (by decide +kernel) ?_
  refine l_v (v_move (t := .pointer _) rfl) ?_
  refine l_v (v_pneq (et := 65) (by kernel_rfl) rfl rfl) ?_
  refine l_v (v_move (t := .bool _) rfl) ?_
  refine l_g1 rfl rfl (fun hG => v_move (t := .pointer _) rfl) ?_
  refine l_g1 rfl rfl (fun hG => v_nilCheck (gd hG rfl)) ?_
  refine l_g1 rfl rfl (fun hG => v_fieldAddr (off := 0) (ft := 63) (by kernel_rfl) (gd hG rfl)) ?_
  refine l_g1 rfl rfl (fun hG => v_load (by kernel_rfl) (gd hG rfl) (by first | exact HB1.pv 0 _ rfl | assumption)) ?_
  refine l_g1 rfl rfl (fun hG => v_mapneq (kT := 3) (et := 79) (by kernel_rfl) (gd hG rfl) rfl) ?_
  refine l_v (v_and rfl rfl) ?_
  refine l_v (v_assign (t := .bool _) rfl) ?_
  refine l_nil ?_
  refine n_then ?_
  refine c_ret ?_
  refine ret1v rfl (by decide) (show _ = (Value.bool _) from rfl) ?_
  exact ⟨by cases p <;> rfl, E⟩
/-- which client and number may be -/
def mayC (c n : Int) : Bool := decide (1 ≤ c) && decide (c ≤ 4) && decide (1 ≤ n) && decide (n ≤ 2147483647)
theorem refmay_c {w : World} {c n : Int} : CallsR Try.prog 43 #[.int .i64 c, .int .i64 n] w (fun o w' => o = .bool (mayC c n) ∧ Ext w w') := by
  refine enter 19 Try.func43 rfl rfl (by simp) ?_
  refine c_seq ?_
  have E := Keep.refl (K := NoK) w
  refine wp_reg (by decide +kernel) ?_
  refine l_v (v_assign rfl) ?_
  refine l_nil ?_
  refine n_then ?_
  refine c_seq ?_
  refine wp_reg (by decide +kernel) ?_
  refine l_v (v_move (t := .int _ _) rfl) ?_
  refine l_v (v_geq rfl rfl) ?_
  refine l_v (v_move (t := .bool _) rfl) ?_
  refine l_g1 rfl rfl (fun hG => v_move (t := .int _ _) rfl) ?_
  refine l_g1 rfl rfl (fun hG => v_leq (gd hG rfl) rfl) ?_
  refine l_v (v_and rfl rfl) ?_
  refine l_v (v_move (t := .bool _) rfl) ?_
  refine l_g1 rfl rfl (fun hG => v_move (t := .int _ _) rfl) ?_
  refine l_g1 rfl rfl (fun hG => v_geq (gd hG rfl) rfl) ?_
  refine l_v (v_and rfl rfl) ?_
  refine l_v (v_move (t := .bool _) rfl) ?_
  refine l_g1 rfl rfl (fun hG => v_move (t := .int _ _) rfl) ?_
  refine l_g1 rfl rfl (fun hG => v_leq (gd hG rfl) rfl) ?_
  refine l_v (v_and rfl rfl) ?_
  refine l_v (v_assign (t := .bool _) rfl) ?_
  refine l_nil ?_
  refine n_then ?_
  refine c_ret ?_
  refine ret1v rfl (by decide) (show _ = (Value.bool _) from rfl) ?_
  exact ⟨rfl, E⟩
/-- what each call asks first -/
def askN (t : Bool) (c n : Int) (more : Bool) : Int := if t = true then (if mayC c n = true ∧ more = true then 0 else 2) else 1
theorem mayC_or (c n : Int) : (decide (c < 1) || decide (4 < c) || decide (n < 1) || decide (2147483647 < n)) = !mayC c n := by
  unfold mayC; rw [Bool.eq_iff_iff]; simp only [Bool.or_eq_true, decide_eq_true_eq, Bool.not_eq_true', Bool.and_eq_false_iff, decide_eq_false_iff_not]; omega
theorem ask_c {w : World} {p : Option Addr} {c n : Int} {t more : Bool} {fn : Nat} {cap : Array Value} (ht : ∀ W, Ext w W → CallsR Try.prog 44 #[.pointer p] W (fun o w' => o = .bool t ∧ Ext W w')) (hb : kBody Try.prog fn = true) (hm : ∀ W, Ext w W → mayC c n = true → CallsR Try.prog fn (#[] ++ cap) W (fun o w' => o = .bool more ∧ Ext W w')) :
    CallsR Try.prog 40 #[.pointer p, .int .i64 c, .int .i64 n, .func (.func fn) #[] cap] w (fun o w' => o = .int .i64 (askN t c n more) ∧ Ext w w') := by
  refine enter 33 Try.func40 rfl rfl (by simp) ?_
  refine c_seq ?_
  have E := Keep.refl (K := NoK) w
  refine wp_reg (by decide +kernel) ?_
  refine l_v (v_assign rfl) ?_
  refine l_nil ?_
  refine n_then ?_
  refine c_seq ?_
  refine c_block ?_
  refine c_seq ?_
  refine wp_reg (by decide +kernel) ?_
  refine l_v (v_move (t := .pointer _) rfl) ?_
  refine l_to (to_f1 (by kernel_rfl) (show _ = (Value.pointer _) from rfl) (CallsR.mono (ht _ E) ?_))
  rintro _ w1 ⟨rfl, e1⟩
  have zs_e1 := e1.size
  replace E := E.trans (Ext.keep e1)
  refine l_v (v_not rfl) ?_
  refine l_v (v_assign (t := .bool _) rfl) ?_
  refine l_nil ?_
  refine n_then ?_
  refine c_cond rfl rfl (fun h1 => ?_) (fun h1 => ?_)
  · skip
    refine c_seq ?_
    refine wp_reg (by decide +kernel) ?_
    refine l_v (v_assign rfl) ?_
    refine l_nil ?_
    refine n_then ?_
    refine c_ret ?_
    refine r_blk ?_
    refine r_then ?_
    refine ret1v rfl (by decide) (show _ = (Value.int _ _) from rfl) ?_
    obtain rfl : t = false := by simpa using h1
    exact ⟨rfl, E⟩
  · skip
    obtain rfl : t = true := by simpa using h1
    refine c_seq ?_
    refine wp_reg (by decide +kernel) ?_
    refine l_v (v_move (t := .int _ _) rfl) ?_
    refine l_v (v_lss rfl rfl) ?_
    refine l_v (v_move (t := .bool _) rfl) ?_
    refine l_g1 rfl rfl (fun hG => v_move (t := .int _ _) rfl) ?_
    refine l_g1 rfl rfl (fun hG => v_gtr (gd hG rfl) rfl) ?_
    refine l_v (v_or rfl rfl) ?_
    refine l_v (v_move (t := .bool _) rfl) ?_
    refine l_g1 rfl rfl (fun hG => v_move (t := .int _ _) rfl) ?_
    refine l_g1 rfl rfl (fun hG => v_lss (gd hG rfl) rfl) ?_
    refine l_v (v_or rfl rfl) ?_
    refine l_v (v_move (t := .bool _) rfl) ?_
    refine l_g1 rfl rfl (fun hG => v_move (t := .int _ _) rfl) ?_
    refine l_g1 rfl rfl (fun hG => v_gtr (gd hG rfl) rfl) ?_
    refine l_v (v_or rfl rfl) ?_
    refine l_v (v_move (t := .bool _) rfl) ?_
    refine l_g1 rfl rfl (fun hG => v_move rfl) ?_
    refine l_g1f rfl rfl (fun hG => to_call0 (by first | assumption | kernel_rfl) (gd hG rfl) (hm _ E (by rw [mayC_or] at hG; simpa using hG))) ?_
    rintro w3 e3
    have zs_e3 := e3.size
    replace E := E.trans (Ext.keep e3)
    refine l_g1 rfl rfl (fun hG => v_not (gd hG rfl)) ?_
    refine l_v (v_or rfl rfl) ?_
    refine l_v (v_assign (t := .bool _) rfl) ?_
    refine l_nil ?_
    refine n_then ?_
    refine c_cond rfl rfl (fun h2 => ?_) (fun h2 => ?_)
    · skip
      refine c_seq ?_
      refine wp_reg (by decide +kernel) ?_
      refine l_v (v_assign rfl) ?_
      refine l_nil ?_
      refine n_then ?_
      refine c_ret ?_
      refine r_blk ?_
      refine r_then ?_
      refine ret1v rfl (by decide) (show _ = (Value.int _ _) from rfl) ?_
      refine ⟨?_, E⟩
      rw [mayC_or] at h2
      clear hm
      unfold askN; cases hq : mayC c n <;> cases more <;> simp_all
    · skip
      refine c_skip ?_
      refine n_blk ?_
      refine n_then ?_
      refine c_seq ?_
      refine wp_reg (by decide +kernel) ?_
      refine l_v (v_assign rfl) ?_
      refine l_nil ?_
      refine n_then ?_
      refine c_ret ?_
      refine ret1v rfl (by decide) (show _ = (Value.int _ _) from rfl) ?_
      refine ⟨?_, E⟩
      rw [mayC_or] at h2
      clear hm
      unfold askN; cases hq : mayC c n <;> cases more <;> simp_all
theorem lookTrue_c {w : World} : CallsR Try.prog 41 (#[] ++ #[]) w (fun o w' => o = .bool true ∧ Ext w w') := by
  show CallsR _ _ #[] _ _
  refine enter 1 Try.func41 rfl rfl (by simp) ?_
  refine c_seq ?_
  have E := Keep.refl (K := NoK) w
  refine wp_reg (by decide +kernel) ?_
  refine l_v (v_assign rfl) ?_
  refine l_nil ?_
  refine n_then ?_
  refine c_seq ?_
  refine wp_reg (by decide +kernel) ?_
  refine l_v (v_assign rfl) ?_
  refine l_nil ?_
  refine n_then ?_
  refine c_ret ?_
  refine ret1v rfl (by decide) (show _ = (Value.bool _) from rfl) ?_
  exact ⟨rfl, E⟩
theorem putMay_c {w : World} {F : Nat → Prop} {b : Nat} {a : AnV} {v1 v2 : Value} (HB1 : Blk w b [.int .i64 a.1, v1, v2] 33) (HG1 : AgV tAn w F (.agg #[.int .i64 a.1, v1, v2]) a) : CallsR Try.prog 54 (#[] ++ #[.pointer (some ⟨b, 0, none⟩)]) w (fun o w' => o = .bool (mayAn a) ∧ Ext w w') := by
  show CallsR _ _ #[_] _ _
  refine enter 4 Try.func54 rfl rfl (by simp) ?_
  refine c_seq ?_
  have E := Keep.refl (K := NoK) w
  refine wp_reg (by decide +kernel) ?_
  refine l_v (v_assign rfl) ?_
  refine l_nil ?_
  refine n_then ?_
  refine c_seq ?_
  refine wp_reg (by decide +kernel) ?_
  refine l_v (v_loadA (by kernel_rfl) rfl (by first | exact HB1.pv | assumption) rfl) ?_
  refine l_to (to_f1 (by kernel_rfl) (show _ = (Value.agg _) from rfl) (CallsR.mono (MayAnswer_c HG1) ?_))
  rintro _ w101 ⟨rfl, e101⟩
  have zs_e101 := e101.size
  replace E := E.trans (Ext.keep e101)
  replace HB1 := HB1.ext e101
  replace HG1 := HG1.ext e101
  refine l_v (v_assign (t := .bool _) rfl) ?_
  refine l_nil ?_
  refine n_then ?_
  refine c_ret ?_
  refine ret1v rfl (by decide) (show _ = (Value.bool _) from rfl) ?_
  exact ⟨rfl, E⟩
theorem Last_c {w : World} {F : Nat → Prop} {b bm : Nat} {S : TbS} {c : Int} (HB1 : Blk w b [.map (some bm)] 65) (HT1 : TbI w F bm S) (hok : TbOk S) : CallsR Try.prog 18 #[.pointer (some ⟨b, 0, none⟩), .int .i64 c] w (fun o w' => o = .tuple #[.int .i64 (numS S c), .bool (S c).isSome] ∧ Ext w w') := by
  obtain ⟨vs, HM1, hlk⟩ := HT1.look c
  have zlm := HM1.lt
  have zl1 := HB1.lt
  refine enter 23 Try.func18 rfl rfl (by simp) ?_
  refine c_seq ?_
  have E := Keep.refl (K := NoK) w
  refine wp_reg (by decide +kernel) ?_
  refine l_v (v_assign rfl) ?_
  refine l_v (v_assign rfl) ?_
  refine l_nil ?_
  refine n_then ?_
  refine c_seq ?_
  refine c_seq ?_
  refine wp_reg (by decide +kernel) ?_
  refine l_v (v_move (t := .pointer _) rfl) ?_
  refine l_to (to_f1 (by kernel_rfl) (show _ = (Value.pointer _) from rfl) (CallsR.mono (there_c HB1) ?_))
  rintro _ w101 ⟨rfl, e101⟩
  have zs_e101 := e101.size
  replace E := E.trans (Ext.keep e101)
  replace HB1 := HB1.ext e101
  replace HM1 := HM1.ext e101
  refine l_v (v_not rfl) ?_
  refine l_nil ?_
  refine n_then ?_
  refine c_cond rfl rfl (fun h0 => ?_) (fun h0 => ?_)
  · skip
    cases h0
  · skip
    by_cases hs : (S c).isSome = true
    · skip
      refine c_skip ?_
      refine n_then ?_
      refine c_seq ?_
      obtain ⟨x, hx⟩ := Option.isSome_iff_exists.1 hs
      rw [hx] at hlk
      obtain ⟨v, hv, hg⟩ := hlk
      obtain ⟨a1, c1, a2, c2, rfl, _⟩ := hg.ad
      have hl1 : (mpGet vs c).getD (.agg #[.int .i64 0, .int .i64 0, .slice none 0 0, .slice none 0 0]) = .agg #[.int .i64 x.1, .int .i64 x.2.1, .slice a1 x.2.2.1.length c1, .slice a2 x.2.2.2.length c2] := by rw [hv]; rfl
      have hl2 : (mpGet vs c).isSome = true := by rw [hv]; rfl
      refine wp_reg (by decide +kernel) ?_
      refine l_v (v_move (t := .pointer _) rfl) ?_
      refine l_v (v_nilCheck rfl) ?_
      refine l_v (v_fieldAddr (off := 0) (ft := 63) (by kernel_rfl) rfl) ?_
      refine l_v (v_load (by kernel_rfl) rfl (by first | exact HB1.pv 0 _ rfl | assumption)) ?_
      refine l_v (v_move (t := .int _ _) rfl) ?_
      refine l_v (v_lookup2E (el := 79) (k := c) (z := .agg #[.int .i64 0, .int .i64 0, .slice none 0 0, .slice none 0 0]) kInt ⟨3, by kernel_rfl, by kernel_rfl⟩ (by unfold kZero; kernel_rfl) rfl (show _ = (Value.int _ _) from rfl) rfl HM1 hl1 hl2) ?_
      refine l_v (v_move (t := .tuple _) rfl) ?_
      refine l_v (v_extract (t := .agg _) rfl rfl) ?_
      refine l_v (v_extract (t := .bool _) rfl rfl) ?_
      refine l_to (to_alloc (z := (.agg #[.int .i64 0, .int .i64 0, .slice none 0 0, .slice none 0 0])) (by unfold kZero; kernel_rfl) ?_)
      rintro b6 w6 zb6 HB6 e6 z6
      have zs_e6 := e6.size
      replace E := E.trans (Ext.keep e6)
      replace HB1 := HB1.ext e6
      replace HM1 := HM1.ext e6
      try simp only [Value.cells] at HB6
      refine l_to (to_storeA (n := 4) rfl rfl (show _ = (Value.agg _) from rfl) (by kernel_rfl) rfl (by first | (simp [slice_one]; done) | (simp only [List.forall_mem_cons, List.cons_append, List.nil_append]; repeat' (first | exact rfl | apply And.intro | (intro u hu; cases hu; done)))) HB6 (by first | exact of_decide_eq_true rfl | (simp; done) | decide) ?_)
      rintro w102 HX102 k102 z102
      have zs_k102 := k102.size
      replace E := E.step k102 (by intro i hi he; (try dsimp only [NoK] at hi he ⊢); first | exact he.elim | omega | exact he)
      replace HB1 := HB1.keep k102 (by intro h; (try dsimp only at h); first | omega)
      replace HM1 := HM1.keep k102 (by intro h; (try dsimp only at h); first | omega)
      replace HB6 := HX102
      clear HX102
      try simp only [List.set_cons_zero, List.set_cons_succ, setAt, List.take_zero, List.take_succ_cons, List.drop_zero, List.drop_succ_cons, List.nil_append, List.cons_append, List.append_nil, List.length_cons, List.length_nil, Nat.zero_add, Nat.reduceAdd, List.drop_nil] at HB6
      refine l_v (v_assign (t := .bool _) rfl) ?_
      refine l_nil ?_
      refine n_then ?_
      refine c_seq ?_
      refine wp_reg (by decide +kernel) ?_
      refine l_v (v_fieldAddr (off := 0) (ft := 2) (by kernel_rfl) rfl) ?_
      refine l_v (v_load (by kernel_rfl) rfl (by first | exact HB6.pv 0 _ rfl | exact HB1.pv 0 _ rfl | assumption)) ?_
      refine l_v (v_move (t := .bool _) rfl) ?_
      refine l_v (v_assign (t := .int _ _) rfl) ?_
      refine l_v (v_assign (t := .bool _) rfl) ?_
      refine l_nil ?_
      refine n_then ?_
      refine c_ret ?_
      refine ret2v rfl (by decide) (by decide) (show _ = (Value.int _ _) from rfl) (show _ = (Value.bool _) from rfl) ?_
      refine ⟨?_, E⟩
      simp [numS, hx]
    · skip
      refine c_skip ?_
      refine n_then ?_
      refine c_seq ?_
      have hx : S c = none := by cases hS : S c with | none => rfl | some x => rw [hS] at hs; simp at hs
      rw [hx] at hlk
      have hl1 : (mpGet vs c).getD (.agg #[.int .i64 0, .int .i64 0, .slice none 0 0, .slice none 0 0]) = .agg #[.int .i64 0, .int .i64 0, .slice none 0 0, .slice none 0 0] := by rw [show mpGet vs c = none from hlk]; rfl
      have hl2 : (mpGet vs c).isSome = false := by rw [show mpGet vs c = none from hlk]; rfl
      refine wp_reg (by decide +kernel) ?_
      refine l_v (v_move (t := .pointer _) rfl) ?_
      refine l_v (v_nilCheck rfl) ?_
      refine l_v (v_fieldAddr (off := 0) (ft := 63) (by kernel_rfl) rfl) ?_
      refine l_v (v_load (by kernel_rfl) rfl (by first | exact HB1.pv 0 _ rfl | assumption)) ?_
      refine l_v (v_move (t := .int _ _) rfl) ?_
      refine l_v (v_lookup2E (el := 79) (k := c) (z := .agg #[.int .i64 0, .int .i64 0, .slice none 0 0, .slice none 0 0]) kInt ⟨3, by kernel_rfl, by kernel_rfl⟩ (by unfold kZero; kernel_rfl) rfl (show _ = (Value.int _ _) from rfl) rfl HM1 hl1 hl2) ?_
      refine l_v (v_move (t := .tuple _) rfl) ?_
      refine l_v (v_extract (t := .agg _) rfl rfl) ?_
      refine l_v (v_extract (t := .bool _) rfl rfl) ?_
      refine l_to (to_alloc (z := (.agg #[.int .i64 0, .int .i64 0, .slice none 0 0, .slice none 0 0])) (by unfold kZero; kernel_rfl) ?_)
      rintro b6 w6 zb6 HB6 e6 z6
      have zs_e6 := e6.size
      replace E := E.trans (Ext.keep e6)
      replace HB1 := HB1.ext e6
      replace HM1 := HM1.ext e6
      try simp only [Value.cells] at HB6
      refine l_to (to_storeA (n := 4) rfl rfl (show _ = (Value.agg _) from rfl) (by kernel_rfl) rfl (by first | (simp [slice_one]; done) | (simp only [List.forall_mem_cons, List.cons_append, List.nil_append]; repeat' (first | exact rfl | apply And.intro | (intro u hu; cases hu; done)))) HB6 (by first | exact of_decide_eq_true rfl | (simp; done) | decide) ?_)
      rintro w103 HX103 k103 z103
      have zs_k103 := k103.size
      replace E := E.step k103 (by intro i hi he; (try dsimp only [NoK] at hi he ⊢); first | exact he.elim | omega | exact he)
      replace HB1 := HB1.keep k103 (by intro h; (try dsimp only at h); first | omega)
      replace HM1 := HM1.keep k103 (by intro h; (try dsimp only at h); first | omega)
      replace HB6 := HX103
      clear HX103
      try simp only [List.set_cons_zero, List.set_cons_succ, setAt, List.take_zero, List.take_succ_cons, List.drop_zero, List.drop_succ_cons, List.nil_append, List.cons_append, List.append_nil, List.length_cons, List.length_nil, Nat.zero_add, Nat.reduceAdd, List.drop_nil] at HB6
      refine l_v (v_assign (t := .bool _) rfl) ?_
      refine l_nil ?_
      refine n_then ?_
      refine c_seq ?_
      refine wp_reg (by decide +kernel) ?_
      refine l_v (v_fieldAddr (off := 0) (ft := 2) (by kernel_rfl) rfl) ?_
      refine l_v (v_load (by kernel_rfl) rfl (by first | exact HB6.pv 0 _ rfl | exact HB1.pv 0 _ rfl | assumption)) ?_
      refine l_v (v_move (t := .bool _) rfl) ?_
      refine l_v (v_assign (t := .int _ _) rfl) ?_
      refine l_v (v_assign (t := .bool _) rfl) ?_
      refine l_nil ?_
      refine n_then ?_
      refine c_ret ?_
      refine ret2v rfl (by decide) (by decide) (show _ = (Value.int _ _) from rfl) (show _ = (Value.bool _) from rfl) ?_
      refine ⟨?_, E⟩
      simp [numS, hx]
theorem Len_c {w : World} {F : Nat → Prop} {b bm : Nat} {S : TbS} (HB1 : Blk w b [.map (some bm)] 65) (HT1 : TbI w F bm S) (hok : TbOk S) : CallsR Try.prog 19 #[.pointer (some ⟨b, 0, none⟩)] w (fun o w' => o = .int .i64 (cntS S : Nat) ∧ Ext w w') := by
  obtain ⟨vs, HM1, hlk⟩ := HT1.len hok
  refine enter 11 Try.func19 rfl rfl (by simp) ?_
  refine c_seq ?_
  have E := Keep.refl (K := NoK) w
  refine wp_reg (by decide +kernel) ?_
  refine l_v (v_assign rfl) ?_
  refine l_nil ?_
  refine n_then ?_
  refine c_seq ?_
  refine c_seq ?_
  refine wp_reg (by decide +kernel) ?_
  refine l_v (v_move (t := .pointer _) rfl) ?_
  refine l_to (to_f1 (by kernel_rfl) (show _ = (Value.pointer _) from rfl) (CallsR.mono (there_c HB1) ?_))
  rintro _ w101 ⟨rfl, e101⟩
  have zs_e101 := e101.size
  replace E := E.trans (Ext.keep e101)
  replace HB1 := HB1.ext e101
  replace HM1 := HM1.ext e101
  refine l_v (v_not rfl) ?_
  refine l_nil ?_
  refine n_then ?_
  refine c_cond rfl rfl (fun h0 => ?_) (fun h0 => ?_)
  · skip
    cases h0
  · skip
    refine c_skip ?_
    refine n_then ?_
    refine c_seq ?_
    refine wp_reg (by decide +kernel) ?_
    refine l_v (v_move (t := .pointer _) rfl) ?_
    refine l_v (v_nilCheck rfl) ?_
    refine l_v (v_fieldAddr (off := 0) (ft := 63) (by kernel_rfl) rfl) ?_
    refine l_v (v_load (by kernel_rfl) rfl (by first | exact HB1.pv 0 _ rfl | assumption)) ?_
    refine l_v (v_lenMap (kT := 3) (et := 79) (by kernel_rfl) rfl HM1) ?_
    refine l_v (v_assign (t := .int _ _) rfl) ?_
    refine l_nil ?_
    refine n_then ?_
    refine c_ret ?_
    refine ret1v rfl (by decide) (show _ = (Value.int _ _) from rfl) ?_
    exact ⟨by rw [hlk], E⟩
end Go.Proofs.Ytlhanmlpionomaa

namespace Go.Proofs.Ytlhanmlpionomaa
open Go.Vc
set_option linter.unusedVariables false
set_option linter.unusedSimpArgs false
set_option maxRecDepth 100000

/-- what a request is, and what it was answered -/
def lookN (S : TbS) (c n : Int) : AnV × Int × Int := if mayC c n = true then (if n > numS S c then (an0, 1, 0) else if n < numS S c then (an0, 3, 0) else (ansS S c, 2, 0)) else (an0, 0, 2)
def anSm (a : AnV) : Prop := a.2.1.length ≤ 1000000 ∧ a.2.2.length ≤ 1000000 ∧ ∀ p ∈ a.2.1, p.1.length ≤ 1000000 ∧ p.2.length ≤ 1000000
theorem may_sm {a : AnV} (h : mayAn a = true) : anSm a := by
  obtain ⟨_, h1, h2, h3⟩ := mayAn_iff.1 h
  exact ⟨by omega, by omega, fun p hp => by have := h3 p hp; omega⟩
theorem ans_sm {S : TbS} (h : TbOk S) (c : Int) : anSm (ansS S c) := by
  unfold ansS
  cases hS : S c with
  | none => exact ⟨by simp [an0], by simp [an0], fun p hp => by simp [an0] at hp⟩
  | some x => exact may_sm (h c x hS).2.2
set_option maxHeartbeats 4000000 in
theorem Look_c {w : World} {F : Nat → Prop} {b bm : Nat} {S : TbS} {c n : Int} (HB1 : Blk w b [.map (some bm)] 65) (HT0 : TbI w F bm S) (hok : TbOk S) : CallsR Try.prog 13 #[.pointer (some ⟨b, 0, none⟩), .int .i64 c, .int .i64 n] w (fun o w' => (∃ v, o = .tuple #[v, .int .i64 (lookN S c n).2.1, .int .i64 (lookN S c n).2.2] ∧ AgV tAnF w' (fun i => w.heap.size ≤ i) v (lookN S c n).1) ∧ Ext w w') := by
  obtain ⟨l, vs, HT1⟩ := HT0.parts
  replace HT1 := HT1.mono (F' := fun i => F i ∧ i < w.heap.size) fun i hi h => ⟨h, hi⟩
  have zlm := HT1.lt
  have zl1 := HB1.lt
  obtain ⟨s1, s2, s3⟩ := ans_sm hok c
  refine enter 40 Try.func13 rfl rfl (by simp) ?_
  refine c_seq ?_
  have E := Keep.refl (K := NoK) w
  refine wp_reg (by decide +kernel) ?_
  refine l_to (to_alloc (z := (.agg #[.int .i64 0, .slice none 0 0, .slice none 0 0])) (by unfold kZero; kernel_rfl) ?_)
  rintro b6 w6 zb6 HB6 e6 z6
  have zs_e6 := e6.size
  replace E := E.trans (Ext.keep e6)
  replace HB1 := HB1.ext e6
  replace HT1 := HT1.ext e6
  try simp only [Value.cells] at HB6
  refine l_v (v_assign rfl) ?_
  refine l_v (v_assign rfl) ?_
  refine l_nil ?_
  refine n_then ?_
  refine c_seq ?_
  refine c_seq ?_
  refine wp_reg (by decide +kernel) ?_
  refine l_v (v_move (t := .pointer _) rfl) ?_
  refine l_v (v_move (t := .int _ _) rfl) ?_
  refine l_v (v_move (t := .int _ _) rfl) ?_
  refine l_to (to_f4 (by kernel_rfl) (show _ = (Value.pointer _) from rfl) (show _ = (Value.int _ _) from rfl) (show _ = (Value.int _ _) from rfl) rfl (CallsR.mono (ask_c (t := true) (more := true) (fun W e => there_c (HB1.ext e)) (by kernel_rfl) (fun W e _ => lookTrue_c)) ?_))
  rintro _ w101 ⟨rfl, e101⟩
  have zs_e101 := e101.size
  replace E := E.trans (Ext.keep e101)
  replace HB1 := HB1.ext e101
  replace HT1 := HT1.ext e101
  replace HB6 := HB6.ext e101
  refine l_v (v_assign (t := .int _ _) rfl) ?_
  refine l_nil ?_
  refine n_then ?_
  by_cases hm : mayC c n = true
  · skip
    refine c_seq ?_
    have hA : askN true c n true = 0 := by simp [askN, hm]
    refine wp_reg (by decide +kernel) ?_
    refine l_v (v_move (t := .int _ _) rfl) ?_
    refine l_v (v_neq rfl rfl) ?_
    refine l_nil ?_
    refine n_then ?_
    refine c_cond rfl rfl (fun he => ?_) (fun he => ?_)
    · skip
      simp [hA] at he
    · skip
      obtain ⟨a1, c1, a2, c2, hl1, HS5, HS6, hi1, hi2, _⟩ := HT1.look c
      refine c_skip ?_
      refine n_then ?_
      refine c_seq ?_
      refine wp_reg (by decide +kernel) ?_
      refine l_v (v_move (t := .pointer _) rfl) ?_
      refine l_v (v_nilCheck rfl) ?_
      refine l_v (v_fieldAddr (off := 0) (ft := 63) (by kernel_rfl) rfl) ?_
      refine l_v (v_load (by kernel_rfl) rfl (by first | exact HB6.pv 0 _ rfl | exact HB1.pv 0 _ rfl | assumption)) ?_
      refine l_v (v_move (t := .int _ _) rfl) ?_
      refine l_v (v_lookupE (el := 79) (k := c) (z := .agg #[.int .i64 0, .int .i64 0, .slice none 0 0, .slice none 0 0]) kInt ⟨3, by kernel_rfl, by kernel_rfl⟩ (by unfold kZero; kernel_rfl) rfl (show _ = (Value.int _ _) from rfl) rfl HT1.1 hl1) ?_
      refine l_to (to_alloc (z := (.agg #[.int .i64 0, .int .i64 0, .slice none 0 0, .slice none 0 0])) (by unfold kZero; kernel_rfl) ?_)
      rintro b10 w10 zb10 HB10 e10 z10
      have zs_e10 := e10.size
      replace E := E.trans (Ext.keep e10)
      replace HB1 := HB1.ext e10
      replace HT1 := HT1.ext e10
      replace HB6 := HB6.ext e10
      replace HS5 := HS5.ext e10
      replace HS6 := HS6.ext e10
      try simp only [Value.cells] at HB10
      refine l_to (to_storeA (n := 4) rfl rfl (show _ = (Value.agg _) from rfl) (by kernel_rfl) rfl (by first | (simp [slice_one]; done) | (simp only [List.forall_mem_cons, List.cons_append, List.nil_append]; repeat' (first | exact rfl | apply And.intro | (intro u hu; cases hu; done)))) HB10 (by first | exact of_decide_eq_true rfl | (simp; done) | decide) ?_)
      rintro w102 HX102 k102 z102
      have zs_k102 := k102.size
      replace E := E.step k102 (by intro i hi he; (try dsimp only [NoK] at hi he ⊢); first | exact he.elim | omega | exact he)
      replace HB1 := HB1.keep k102 (by intro h; (try dsimp only at h); first | omega)
      replace HT1 := HT1.keep k102 (by intro i _ hi he; (try dsimp only [NoK, AllB] at hi he); first | exact hi.elim | exact he.elim | omega | (rcases hi with hi | hi <;> omega) | (rcases he with he | he <;> omega))
      replace HB6 := HB6.keep k102 (by intro h; (try dsimp only at h); first | omega)
      replace HS5 := HS5.keep k102 (by intro i _ hi he; (try dsimp only [NoK, AllB] at hi he); first | exact hi.elim | exact he.elim | omega | (rcases hi with hi | hi <;> omega) | (rcases he with he | he <;> omega))
      replace HS6 := HS6.keep k102 (by intro i _ hi he; (try dsimp only [NoK, AllB] at hi he); first | exact hi.elim | exact he.elim | omega | (rcases hi with hi | hi <;> omega) | (rcases he with he | he <;> omega))
      replace HB10 := HX102
      clear HX102
      try simp only [List.set_cons_zero, List.set_cons_succ, setAt, List.take_zero, List.take_succ_cons, List.drop_zero, List.drop_succ_cons, List.nil_append, List.cons_append, List.append_nil, List.length_cons, List.length_nil, Nat.zero_add, Nat.reduceAdd, List.drop_nil] at HB10
      refine l_nil ?_
      refine n_then ?_
      refine c_block ?_
      refine c_seq ?_
      refine wp_reg (by decide +kernel) ?_
      refine l_v (v_move (t := .int _ _) rfl) ?_
      refine l_v (v_fieldAddr (off := 0) (ft := 2) (by kernel_rfl) rfl) ?_
      refine l_v (v_load (by kernel_rfl) rfl (by first | exact HB10.pv 0 _ rfl | exact HB6.pv 0 _ rfl | exact HB1.pv 0 _ rfl | assumption)) ?_
      refine l_v (v_gtr rfl rfl) ?_
      refine l_v (v_assign (t := .bool _) rfl) ?_
      refine l_nil ?_
      refine n_then ?_
      refine c_cond rfl rfl (fun h1 => ?_) (fun h1 => ?_)
      · skip
        have h1 := dtrue h1
        refine c_seq ?_
        refine wp_reg (by decide +kernel) ?_
        refine l_v (v_build (pl := [(0, 1), (1, 1), (2, 1)]) (z := .agg #[.int .i64 0, .slice none 0 0, .slice none 0 0]) (zl := [.int .i64 0, .slice none 0 0, .slice none 0 0]) (by kernel_rfl) (by unfold kZero; kernel_rfl) rfl rfl (cells := [_, _, _]) rfl) ?_
        refine l_to (to_storeA (n := 3) rfl rfl (show _ = (Value.agg _) from rfl) (by kernel_rfl) rfl (by first | (simp [slice_one]; done) | (simp only [List.forall_mem_cons, List.cons_append, List.nil_append]; repeat' (first | exact rfl | apply And.intro | (intro u hu; cases hu; done)))) HB6 (by first | exact of_decide_eq_true rfl | (simp; done) | decide) ?_)
        rintro w103 HX103 k103 z103
        have zs_k103 := k103.size
        replace E := E.step k103 (by intro i hi he; (try dsimp only [NoK] at hi he ⊢); first | exact he.elim | omega | exact he)
        replace HB1 := HB1.keep k103 (by intro h; (try dsimp only at h); first | omega)
        replace HT1 := HT1.keep k103 (by intro i _ hi he; (try dsimp only [NoK, AllB] at hi he); first | exact hi.elim | exact he.elim | omega | (rcases hi with hi | hi <;> omega) | (rcases he with he | he <;> omega))
        replace HS5 := HS5.keep k103 (by intro i _ hi he; (try dsimp only [NoK, AllB] at hi he); first | exact hi.elim | exact he.elim | omega | (rcases hi with hi | hi <;> omega) | (rcases he with he | he <;> omega))
        replace HS6 := HS6.keep k103 (by intro i _ hi he; (try dsimp only [NoK, AllB] at hi he); first | exact hi.elim | exact he.elim | omega | (rcases hi with hi | hi <;> omega) | (rcases he with he | he <;> omega))
        replace HB10 := HB10.keep k103 (by intro h; (try dsimp only at h); first | omega)
        replace HB6 := HX103
        clear HX103
        try simp only [List.set_cons_zero, List.set_cons_succ, setAt, List.take_zero, List.take_succ_cons, List.drop_zero, List.drop_succ_cons, List.nil_append, List.cons_append, List.append_nil, List.length_cons, List.length_nil, Nat.zero_add, Nat.reduceAdd, List.drop_nil] at HB6
        refine l_v (v_assign rfl) ?_
        refine l_v (v_assign rfl) ?_
        refine l_nil ?_
        refine n_then ?_
        refine c_ret ?_
        refine r_blk ?_
        refine ret3cv (n := 3) rfl (by decide) (by decide) (by decide) rfl (by kernel_rfl) HB6.pv rfl (show _ = (Value.int _ _) from rfl) (show _ = (Value.int _ _) from rfl) ?_
        have hl : lookN S c n = (an0, 1, 0) := by rw [lookN, if_pos hm, if_pos h1]
        rw [hl]; exact ⟨⟨_, rfl, an0_agF⟩, E⟩
      · skip
        have h1 := dfalse h1
        refine c_seq ?_
        refine wp_reg (by decide +kernel) ?_
        refine l_v (v_move (t := .int _ _) rfl) ?_
        refine l_v (v_fieldAddr (off := 0) (ft := 2) (by kernel_rfl) rfl) ?_
        refine l_v (v_load (by kernel_rfl) rfl (by first | exact HB10.pv 0 _ rfl | exact HB6.pv 0 _ rfl | exact HB1.pv 0 _ rfl | assumption)) ?_
        refine l_v (v_lss rfl rfl) ?_
        refine l_v (v_assign (t := .bool _) rfl) ?_
        refine l_nil ?_
        refine n_then ?_
        refine c_cond rfl rfl (fun h2 => ?_) (fun h2 => ?_)
        · skip
          have h2 := dtrue h2
          refine c_seq ?_
          refine wp_reg (by decide +kernel) ?_
          refine l_v (v_build (pl := [(0, 1), (1, 1), (2, 1)]) (z := .agg #[.int .i64 0, .slice none 0 0, .slice none 0 0]) (zl := [.int .i64 0, .slice none 0 0, .slice none 0 0]) (by kernel_rfl) (by unfold kZero; kernel_rfl) rfl rfl (cells := [_, _, _]) rfl) ?_
          refine l_to (to_storeA (n := 3) rfl rfl (show _ = (Value.agg _) from rfl) (by kernel_rfl) rfl (by first | (simp [slice_one]; done) | (simp only [List.forall_mem_cons, List.cons_append, List.nil_append]; repeat' (first | exact rfl | apply And.intro | (intro u hu; cases hu; done)))) HB6 (by first | exact of_decide_eq_true rfl | (simp; done) | decide) ?_)
          rintro w104 HX104 k104 z104
          have zs_k104 := k104.size
          replace E := E.step k104 (by intro i hi he; (try dsimp only [NoK] at hi he ⊢); first | exact he.elim | omega | exact he)
          replace HB1 := HB1.keep k104 (by intro h; (try dsimp only at h); first | omega)
          replace HT1 := HT1.keep k104 (by intro i _ hi he; (try dsimp only [NoK, AllB] at hi he); first | exact hi.elim | exact he.elim | omega | (rcases hi with hi | hi <;> omega) | (rcases he with he | he <;> omega))
          replace HS5 := HS5.keep k104 (by intro i _ hi he; (try dsimp only [NoK, AllB] at hi he); first | exact hi.elim | exact he.elim | omega | (rcases hi with hi | hi <;> omega) | (rcases he with he | he <;> omega))
          replace HS6 := HS6.keep k104 (by intro i _ hi he; (try dsimp only [NoK, AllB] at hi he); first | exact hi.elim | exact he.elim | omega | (rcases hi with hi | hi <;> omega) | (rcases he with he | he <;> omega))
          replace HB10 := HB10.keep k104 (by intro h; (try dsimp only at h); first | omega)
          replace HB6 := HX104
          clear HX104
          try simp only [List.set_cons_zero, List.set_cons_succ, setAt, List.take_zero, List.take_succ_cons, List.drop_zero, List.drop_succ_cons, List.nil_append, List.cons_append, List.append_nil, List.length_cons, List.length_nil, Nat.zero_add, Nat.reduceAdd, List.drop_nil] at HB6
          refine l_v (v_assign rfl) ?_
          refine l_v (v_assign rfl) ?_
          refine l_nil ?_
          refine n_then ?_
          refine c_ret ?_
          refine r_blk ?_
          refine ret3cv (n := 3) rfl (by decide) (by decide) (by decide) rfl (by kernel_rfl) HB6.pv rfl (show _ = (Value.int _ _) from rfl) (show _ = (Value.int _ _) from rfl) ?_
          have hl : lookN S c n = (an0, 3, 0) := by rw [lookN, if_pos hm, if_neg h1, if_pos h2]
          rw [hl]; exact ⟨⟨_, rfl, an0_agF⟩, E⟩
        · skip
          have h2 := dfalse h2
          refine c_seq ?_
          refine wp_reg (by decide +kernel) ?_
          refine l_v (v_fieldAddr (off := 1) (ft := 33) (by kernel_rfl) rfl) ?_
          refine l_v (v_loadA (by kernel_rfl) rfl (by first | exact pv_at 1 HB10.pv | exact pv_at 1 HB6.pv | exact pv_at 1 HB1.pv | assumption) rfl) ?_
          refine l_to (to_f1 (by kernel_rfl) (show _ = (Value.agg _) from rfl) (CallsR.mono (clone_c (AgV.mkAn' HS5 HS6 hi2) s1 s2 s3) ?_))
          rintro _ w20 ⟨HG20, e20⟩
          have zs_e20 := e20.size
          replace HG20 := HG20.mono (F' := fun i => w.heap.size ≤ i ∧ b6 ≠ i) fun i hi h => by omega
          obtain ⟨a7, c7, a8, c8, rfl, HSp, HFn, _⟩ := HG20.anF
          replace E := E.trans (Ext.keep e20)
          replace HB1 := HB1.ext e20
          replace HT1 := HT1.ext e20
          replace HB6 := HB6.ext e20
          replace HS5 := HS5.ext e20
          replace HS6 := HS6.ext e20
          replace HB10 := HB10.ext e20
          refine l_to (to_storeA (n := 3) rfl rfl (show _ = (Value.agg _) from rfl) (by kernel_rfl) rfl (by first | (simp [slice_one]; done) | (simp only [List.forall_mem_cons, List.cons_append, List.nil_append]; repeat' (first | exact rfl | apply And.intro | (intro u hu; cases hu; done)))) HB6 (by first | exact of_decide_eq_true rfl | (simp; done) | decide) ?_)
          rintro w105 HX105 k105 z105
          have zs_k105 := k105.size
          replace E := E.step k105 (by intro i hi he; (try dsimp only [NoK] at hi he ⊢); first | exact he.elim | omega | exact he)
          replace HB1 := HB1.keep k105 (by intro h; (try dsimp only at h); first | omega)
          replace HT1 := HT1.keep k105 (by intro i _ hi he; (try dsimp only [NoK, AllB] at hi he); first | exact hi.elim | exact he.elim | omega | (rcases hi with hi | hi <;> omega) | (rcases he with he | he <;> omega))
          replace HS5 := HS5.keep k105 (by intro i _ hi he; (try dsimp only [NoK, AllB] at hi he); first | exact hi.elim | exact he.elim | omega | (rcases hi with hi | hi <;> omega) | (rcases he with he | he <;> omega))
          replace HS6 := HS6.keep k105 (by intro i _ hi he; (try dsimp only [NoK, AllB] at hi he); first | exact hi.elim | exact he.elim | omega | (rcases hi with hi | hi <;> omega) | (rcases he with he | he <;> omega))
          replace HB10 := HB10.keep k105 (by intro h; (try dsimp only at h); first | omega)
          replace HG20 := HG20.keep k105 (by intro i _ hi he; (try dsimp only [NoK, AllB] at hi he); first | exact hi.elim | exact he.elim | omega | (rcases hi with hi | hi <;> omega) | (rcases he with he | he <;> omega))
          replace HSp := HSp.keep k105 (by intro i _ hi he; (try dsimp only [NoK, AllB] at hi he); first | exact hi.elim | exact he.elim | omega | (rcases hi with hi | hi <;> omega) | (rcases he with he | he <;> omega))
          replace HFn := HFn.keep k105 (by first | exact fun h => h | (intro h; have he0 := h; have h := h; (try dsimp only at h); (try simp only [Value.ownBlock, Option.some.injEq] at h); (try simp only [add_block] at h); (try simp only [add_block] at he0); first | omega) | (intro i _ hi he; have he0 := he; have hi := hi; have he := he; (try dsimp only [NoK, AllB] at hi he); (try simp only [Value.ownBlock, Option.some.injEq] at he); first | exact hi.elim | exact he.elim | omega | (rcases hi with hi | hi <;> omega) | (rcases he with he | he <;> omega)))
          replace HB6 := HX105
          clear HX105
          try simp only [List.set_cons_zero, List.set_cons_succ, setAt, List.take_zero, List.take_succ_cons, List.drop_zero, List.drop_succ_cons, List.nil_append, List.cons_append, List.append_nil, List.length_cons, List.length_nil, Nat.zero_add, Nat.reduceAdd, List.drop_nil] at HB6
          refine l_v (v_assign rfl) ?_
          refine l_v (v_assign rfl) ?_
          refine l_nil ?_
          refine n_then ?_
          refine c_ret ?_
          refine r_blk ?_
          refine ret3cv (n := 3) rfl (by decide) (by decide) (by decide) rfl (by kernel_rfl) HB6.pv rfl (show _ = (Value.int _ _) from rfl) (show _ = (Value.int _ _) from rfl) ?_
          have hl : lookN S c n = (ansS S c, 2, 0) := by rw [lookN, if_pos hm, if_neg h1, if_neg h2]
          rw [hl]; exact ⟨⟨_, rfl, HG20.mono fun i _ h => h.1⟩, E⟩
  · skip
    refine c_seq ?_
    have hA : askN true c n true = 2 := by simp [askN, hm]
    refine wp_reg (by decide +kernel) ?_
    refine l_v (v_move (t := .int _ _) rfl) ?_
    refine l_v (v_neq rfl rfl) ?_
    refine l_nil ?_
    refine n_then ?_
    refine c_cond rfl rfl (fun he => ?_) (fun he => ?_)
    · skip
      refine c_seq ?_
      refine wp_reg (by decide +kernel) ?_
      refine l_v (v_build (pl := [(0, 1), (1, 1), (2, 1)]) (z := .agg #[.int .i64 0, .slice none 0 0, .slice none 0 0]) (zl := [.int .i64 0, .slice none 0 0, .slice none 0 0]) (by kernel_rfl) (by unfold kZero; kernel_rfl) rfl rfl (cells := [_, _, _]) rfl) ?_
      refine l_v (v_move (t := .int _ _) rfl) ?_
      refine l_to (to_storeA (n := 3) rfl rfl (show _ = (Value.agg _) from rfl) (by kernel_rfl) rfl (by first | (simp [slice_one]; done) | (simp only [List.forall_mem_cons, List.cons_append, List.nil_append]; repeat' (first | exact rfl | apply And.intro | (intro u hu; cases hu; done)))) HB6 (by first | exact of_decide_eq_true rfl | (simp; done) | decide) ?_)
      rintro w106 HX106 k106 z106
      have zs_k106 := k106.size
      replace E := E.step k106 (by intro i hi he; (try dsimp only [NoK] at hi he ⊢); first | exact he.elim | omega | exact he)
      replace HB1 := HB1.keep k106 (by intro h; (try dsimp only at h); first | omega)
      replace HT1 := HT1.keep k106 (by intro i _ hi he; (try dsimp only [NoK, AllB] at hi he); first | exact hi.elim | exact he.elim | omega | (rcases hi with hi | hi <;> omega) | (rcases he with he | he <;> omega))
      replace HB6 := HX106
      clear HX106
      try simp only [List.set_cons_zero, List.set_cons_succ, setAt, List.take_zero, List.take_succ_cons, List.drop_zero, List.drop_succ_cons, List.nil_append, List.cons_append, List.append_nil, List.length_cons, List.length_nil, Nat.zero_add, Nat.reduceAdd, List.drop_nil] at HB6
      refine l_v (v_assign rfl) ?_
      refine l_v (v_assign (t := .int _ _) rfl) ?_
      refine l_nil ?_
      refine n_then ?_
      refine c_ret ?_
      refine r_then ?_
      refine ret3cv (n := 3) rfl (by decide) (by decide) (by decide) rfl (by kernel_rfl) HB6.pv rfl (show _ = (Value.int _ _) from rfl) (show _ = (Value.int _ _) from rfl) ?_
      have hl : lookN S c n = (an0, 0, 2) := by rw [lookN, if_neg hm]
      rw [hl, hA]; exact ⟨⟨_, rfl, an0_agF⟩, E⟩
    · skip
      simp [hA] at he
set_option maxHeartbeats 4000000 in
theorem Put_c {w : World} {F G : Nat → Prop} {b bm : Nat} {S : TbS} {c n : Int} {a : AnV} {v : Value} (HB1 : Blk w b [.map (some bm)] 65) (HT0 : TbI w F bm S) (hF : ∀ i, F i → i ≠ bm) (hbm : b ≠ bm) (HG1 : AgV tAn w G v a) (hi : I64 n) : CallsR Try.prog 27 #[.pointer (some ⟨b, 0, none⟩), .int .i64 c, .int .i64 n, v] w (fun o w' => (o = .int .i64 (putN S c n a).1 ∧ TbI w' (fun i => F i ∨ w.heap.size ≤ i) bm (putN S c n a).2) ∧ Keep (fun i => i = bm) w w') := by
  obtain ⟨l, vs, HT1⟩ := HT0.parts
  replace HT1 := HT1.mono (F' := fun i => F i ∧ i < w.heap.size) fun i hi h => ⟨h, hi⟩
  have zlm := HT1.lt
  have zl1 := HB1.lt
  obtain ⟨a1, c1, a2, c2, rfl, _⟩ := HG1.an
  have hmC : (decide (1 ≤ c) && decide (c ≤ 4) && decide (1 ≤ n) && decide (n ≤ 2147483647)) = mayC c n := rfl
  refine enter 38 Try.func27 rfl rfl (by simp) ?_
  refine c_seq ?_
  have E := Keep.refl (K := fun i => i = bm) w
  refine wp_reg (by decide +kernel) ?_
  refine l_to (to_box (show _ = (Value.agg _) from rfl) ?_)
  rintro b7 w7 zb7 HB7 e7 z7
  have zs_e7 := e7.size
  replace E := E.trans (Ext.keep e7)
  replace HB1 := HB1.ext e7
  replace HT1 := HT1.ext e7
  replace HG1 := HG1.ext e7
  try simp only [Value.cells] at HB7
  refine l_v (v_assign rfl) ?_
  refine l_nil ?_
  refine n_then ?_
  refine c_seq ?_
  refine wp_reg (by decide +kernel) ?_
  refine l_v (v_move (t := .pointer _) rfl) ?_
  refine l_v (v_move (t := .int _ _) rfl) ?_
  refine l_v (v_move (t := .int _ _) rfl) ?_
  refine l_v (v_makeFunc (by simp [ev]; rfl) (by simp [ev]; rfl)) ?_
  refine l_to (to_f4 (by kernel_rfl) (show _ = (Value.pointer _) from rfl) (show _ = (Value.int _ _) from rfl) (show _ = (Value.int _ _) from rfl) rfl (CallsR.mono (ask_c (t := true) (more := mayAn a) (fun W e => there_c (HB1.ext e)) (by kernel_rfl) (fun W e _ => putMay_c (HB7.ext e) (HG1.ext e))) ?_))
  rintro _ w101 ⟨rfl, e101⟩
  have zs_e101 := e101.size
  replace E := E.trans (Ext.keep e101)
  replace HB1 := HB1.ext e101
  replace HT1 := HT1.ext e101
  replace HG1 := HG1.ext e101
  replace HB7 := HB7.ext e101
  refine l_v (v_assign (t := .int _ _) rfl) ?_
  refine l_nil ?_
  refine n_then ?_
  by_cases hm : mayC c n = true ∧ mayAn a = true
  · skip
    refine c_seq ?_
    refine c_block ?_
    refine c_seq ?_
    have hA : askN true c n (mayAn a) = 0 := by simp [askN, hm.1, hm.2]
    refine wp_reg (by decide +kernel) ?_
    refine l_v (v_move (t := .int _ _) rfl) ?_
    refine l_v (v_neq rfl rfl) ?_
    refine l_v (v_assign (t := .bool _) rfl) ?_
    refine l_nil ?_
    refine n_then ?_
    refine c_cond rfl rfl (fun he => ?_) (fun he => ?_)
    · skip
      simp [hA] at he
    · skip
      obtain ⟨s1, s2, s3⟩ := may_sm hm.2
      obtain ⟨a3, c3, a4, c4, hl1, _, _, hi1, hi2, _⟩ := HT1.look c
      refine c_seq ?_
      refine wp_reg (by decide +kernel) ?_
      refine l_v (v_move (t := .int _ _) rfl) ?_
      refine l_v (v_move (t := .pointer _) rfl) ?_
      refine l_v (v_nilCheck rfl) ?_
      refine l_v (v_fieldAddr (off := 0) (ft := 63) (by kernel_rfl) rfl) ?_
      refine l_v (v_load (by kernel_rfl) rfl (by first | exact HB7.pv 0 _ rfl | exact HB1.pv 0 _ rfl | assumption)) ?_
      refine l_v (v_move (t := .int _ _) rfl) ?_
      refine l_v (v_lookupE (el := 79) (k := c) (z := .agg #[.int .i64 0, .int .i64 0, .slice none 0 0, .slice none 0 0]) kInt ⟨3, by kernel_rfl, by kernel_rfl⟩ (by unfold kZero; kernel_rfl) rfl (show _ = (Value.int _ _) from rfl) rfl HT1.1 hl1) ?_
      refine l_v (v_field (off := 0) (ft := 2) (by kernel_rfl) (by kernel_rfl) rfl rfl) ?_
      refine l_v (v_leq rfl rfl) ?_
      refine l_v (v_assign (t := .bool _) rfl) ?_
      refine l_nil ?_
      refine n_then ?_
      refine c_cond rfl rfl (fun h1 => ?_) (fun h1 => ?_)
      · skip
        have h1 := dtrue h1
        refine c_seq ?_
        refine wp_reg (by decide +kernel) ?_
        refine l_v (v_assign rfl) ?_
        refine l_nil ?_
        refine n_then ?_
        refine c_ret ?_
        refine r_blk ?_
        refine r_then ?_
        refine ret1v rfl (by decide) (show _ = (Value.int _ _) from rfl) ?_
        have hl : putN S c n a = (9, S) := by rw [putN, hmC, if_pos hm, if_pos h1]
        rw [hl]; exact ⟨⟨rfl, HT1.tb.mono fun i _ h => .inl h.1⟩, E⟩
      · skip
        have h1 := dfalse h1
        obtain ⟨n7, hn7⟩ : ∃ n, n = w101.heap.size := ⟨_, rfl⟩
        refine c_skip ?_
        refine n_blk ?_
        refine n_then ?_
        refine c_seq ?_
        refine wp_any (by kernel_rfl) ?_
        have e102 : Ext w101 { w101 with drawn := w101.drawn + 1 } := Keep.drawn _ _
        generalize hw102 : ({ w101 with drawn := w101.drawn + 1 } : World) = w102 at e102 ⊢
        clear hw102
        have zs_e102 := e102.size
        replace E := E.trans (Ext.keep e102)
        replace HB1 := HB1.ext e102
        replace HT1 := HT1.ext e102
        replace HG1 := HG1.ext e102
        replace HB7 := HB7.ext e102
        refine r_cut 9 rfl (by decide +kernel) (by decide +kernel) (by decide +kernel) ?_
        refine wp_regdW (NoK) (by decide +kernel) (by decide +kernel) ?_
        refine rt_v (fun vals w hR hd => v_move (t := .pointer _) rfl) ?_
        refine rt_v (fun vals w hR hd => v_nilCheck (hd 0 rfl)) ?_
        refine rt_v (fun vals w hR hd => v_fieldAddr (off := 0) (ft := 63) (by kernel_rfl) (hd 1 rfl)) ?_
        refine rt_v (fun vals w hR hd => v_load (by kernel_rfl) (hd 2 rfl) (by first | exact (HB7.ext hR).pv 0 _ rfl | exact (HB1.ext hR).pv 0 _ rfl | assumption)) ?_
        refine rt_v (fun vals w hR hd => v_move (t := .int _ _) rfl) ?_
        refine rt_v (fun vals w hR hd => v_move (t := .int _ _) rfl) ?_
        refine rt_v (fun vals w hR hd => v_loadA (by kernel_rfl) rfl (by first | exact (HB7.ext hR).pv | exact (HB1.ext hR).pv | assumption) rfl) ?_
        refine rt_to (fun v W => ∃ e1 f1 e2 f2, v = .agg #[.int .i64 a.1, .slice e1 a.2.1.length f1, .slice e2 a.2.2.length f2] ∧ SlV tPrF W (fun i => n7 ≤ i) (.slice e1 a.2.1.length f1) a.2.1 ∧ BvF W (fun i => n7 ≤ i) (.slice e2 a.2.2.length f2) a.2.2 ∧ I64 a.1) (fun v w w' h k => by obtain ⟨e1, f1, e2, f2, h1, h2, h3, h4⟩ := h; exact ⟨e1, f1, e2, f2, h1, h2.ext k, h3.ext k, h4⟩) (fun vals w hR hd => to_f1 (by kernel_rfl) (hd 6 rfl) (CallsR.mono (clone_c (HG1.ext hR) s1 s2 s3) fun v w1 h => ⟨h.2, (h.1.mono (F' := fun i => n7 ≤ i) fun i _ h => by have := hR.size; omega).anF⟩)) ?_
        refine rt_to (fun v W => AgV tAd W (fun i => n7 ≤ i) v (n, a)) (fun v w w' h k => h.ext k) (fun vals w hR hd => (by obtain ⟨e1, f1, e2, f2, h1, h2, h3, h4⟩ := (show ∃ e1 f1 e2 f2, vals 7 = .agg #[.int .i64 a.1, .slice e1 a.2.1.length f1, .slice e2 a.2.2.length f2] ∧ SlV tPrF _ (fun i => n7 ≤ i) (.slice e1 a.2.1.length f1) a.2.1 ∧ BvF _ (fun i => n7 ≤ i) (.slice e2 a.2.2.length f2) a.2.2 ∧ I64 a.1 from hd 7 rfl); exact OpTo.of_v (v_build (pl := [(0, 1), (1, 3)]) (z := .agg #[.int .i64 0, .int .i64 0, .slice none 0 0, .slice none 0 0]) (zl := [.int .i64 0, .int .i64 0, .slice none 0 0, .slice none 0 0]) (ps := [(0, .int .i64 n), (1, .agg #[.int .i64 a.1, .slice e1 a.2.1.length f1, .slice e2 a.2.2.length f2])]) (by kernel_rfl) (by unfold kZero; kernel_rfl) rfl (parts2 (hd 5 rfl) (show _ = _ from h1)) (cells := [.int .i64 n, .int .i64 a.1, .slice e1 a.2.1.length f1, .slice e2 a.2.2.length f2]) (by rfl)) ⟨Keep.refl _, AgV.mkAd (imp_pr.sl h2) h3.bv h4 hi⟩)) ?_
        refine rt_nil (fun w20 e20 => ?_)
        rintro _ rfl _ rfl _ rfl _ rfl _ rfl _ rfl _ rfl v30 hs30 v31 hs31
        have zs_e20 := e20.size
        have HG31 : AgV tAd _ (fun i => n7 ≤ i) v31 (n, a) := hs31
        obtain ⟨e1, f1, e2, f2, rfl, _⟩ := HG31.ad
        have hv31 := HG31
        replace E := E.trans (Ext.keep e20)
        replace HB1 := HB1.ext e20
        replace HT1 := HT1.ext e20
        replace HG1 := HG1.ext e20
        replace HB7 := HB7.ext e20
        refine fin_nil ?_
        refine n_then ?_
        refine r_one (by decide +kernel) rfl ?_
        refine l_to (to_mapUpdate (el := 79) (k := c) kInt ⟨3, by kernel_rfl, by kernel_rfl⟩ rfl (show _ = (Value.int _ _) from rfl) rfl (show _ = (Value.agg _) from rfl) HT1.1 ?_)
        rintro w40 HM40 k40 z40
        have zs_k40 := k40.size
        replace E := E.step k40 (by intro i hi he; (try dsimp only [NoK] at hi he ⊢); first | exact he.elim | omega | exact he)
        replace HB1 := HB1.keep k40 (by intro h; (try dsimp only at h); first | omega)
        replace HB7 := HB7.keep k40 (by intro h; (try dsimp only at h); first | omega)
        refine l_nil ?_
        refine n_then ?_
        refine c_seq ?_
        refine wp_reg (by decide +kernel) ?_
        refine l_v (v_assign rfl) ?_
        refine l_nil ?_
        refine n_then ?_
        refine c_ret ?_
        refine ret1v rfl (by decide) (show _ = (Value.int _ _) from rfl) ?_
        have hl : putN S c n a = (0, updS S c (n, a)) := by rw [putN, hmC, if_pos hm, if_neg h1]
        rw [hl]
        exact ⟨⟨rfl, HT1.set (F' := fun i => F i ∨ w.heap.size ≤ i) (hv31.mono fun i _ h => .inr (by omega)) (fun i _ h => .inl h.1) (fun i h => by rcases h with h | h; exact hF i h; omega) k40 HM40⟩, E⟩
  · skip
    refine c_seq ?_
    refine c_block ?_
    refine c_seq ?_
    have hA : askN true c n (mayAn a) = 2 := by simp [askN, hm]
    refine wp_reg (by decide +kernel) ?_
    refine l_v (v_move (t := .int _ _) rfl) ?_
    refine l_v (v_neq rfl rfl) ?_
    refine l_v (v_assign (t := .bool _) rfl) ?_
    refine l_nil ?_
    refine n_then ?_
    refine c_cond rfl rfl (fun he => ?_) (fun he => ?_)
    · skip
      refine c_seq ?_
      refine wp_reg (by decide +kernel) ?_
      refine l_v (v_move (t := .int _ _) rfl) ?_
      refine l_v (v_assign (t := .int _ _) rfl) ?_
      refine l_nil ?_
      refine n_then ?_
      refine c_ret ?_
      refine r_blk ?_
      refine r_then ?_
      refine ret1v rfl (by decide) (show _ = (Value.int _ _) from rfl) ?_
      have hl : putN S c n a = (2, S) := by rw [putN, hmC, if_neg hm]
      rw [hl, hA]; exact ⟨⟨rfl, HT1.tb.mono fun i _ h => .inl h.1⟩, E⟩
    · skip
      simp [hA] at he
end Go.Proofs.Ytlhanmlpionomaa

namespace Go.Proofs.Ytlhanmlpionomaa
open Go.Vc
set_option linter.unusedVariables false
set_option linter.unusedSimpArgs false
set_option maxRecDepth 100000

theorem mayC_rng {c n : Int} (h : mayC c n = true) : (1 ≤ c ∧ c ≤ 4) ∧ 1 ≤ n ∧ n ≤ 2147483647 := by
  unfold mayC at h; simp only [Bool.and_eq_true, decide_eq_true_eq] at h; omega
set_option maxHeartbeats 4000000 in
theorem refPut_no {w : World} {F G : Nat → Prop} {b : Nat} {cells : List Value} {S : TbS} {c n : Int} {a : AnV} {v : Value} (HB1 : Blk w b cells 48) (HT1 : RfC w F cells S) (HG1 : AgV tAn w G v a) (hno : ¬ (mayC c n = true ∧ mayAn a = true ∧ ¬ n ≤ numS S c)) : CallsR Try.prog 38 #[.pointer (some ⟨b, 0, none⟩), .int .i64 c, .int .i64 n, v] w (fun o w' => (o = .int .i64 (putN S c n a).1 ∧ (putN S c n a).2 = S) ∧ Ext w w') := by
  have zl1 := HB1.lt
  obtain ⟨a1, c1, a2, c2, rfl, _⟩ := HG1.an
  have hmC : (decide (1 ≤ c) && decide (c ≤ 4) && decide (1 ≤ n) && decide (n ≤ 2147483647)) = mayC c n := rfl
  refine enter 39 Try.func38 rfl rfl (by simp) ?_
  refine c_seq ?_
  have E := Keep.refl (K := NoK) w
  replace HG1 := HG1.all
  refine wp_reg (by decide +kernel) ?_
  refine l_to (to_box (show _ = (Value.agg _) from rfl) ?_)
  rintro b7 w7 zb7 HB7 e7 z7
  have zs_e7 := e7.size
  replace E := E.trans (Ext.keep e7)
  replace HB1 := HB1.ext e7
  replace HG1 := HG1.ext e7
  replace HT1 := HT1.ext e7
  try simp only [Value.cells] at HB7
  refine l_v (v_assign rfl) ?_
  refine l_nil ?_
  refine n_then ?_
  refine c_seq ?_
  refine c_seq ?_
  refine wp_reg (by decide +kernel) ?_
  refine l_v (v_move (t := .int _ _) rfl) ?_
  refine l_v (v_move (t := .int _ _) rfl) ?_
  refine l_to (to_f2 (by kernel_rfl) (show _ = (Value.int _ _) from rfl) (show _ = (Value.int _ _) from rfl) (CallsR.mono (refmay_c) ?_))
  rintro _ w101 ⟨rfl, e101⟩
  have zs_e101 := e101.size
  replace E := E.trans (Ext.keep e101)
  replace HB1 := HB1.ext e101
  replace HG1 := HG1.ext e101
  replace HT1 := HT1.ext e101
  replace HB7 := HB7.ext e101
  refine l_v (v_not rfl) ?_
  refine l_v (v_move (t := .bool _) rfl) ?_
  refine l_g1 rfl rfl (fun hG => v_loadA (by kernel_rfl) rfl (by first | exact HB7.pv | exact HB1.pv | assumption) rfl) ?_
  refine l_g1f rfl rfl (fun hG => to_f1 (by kernel_rfl) (gd hG rfl) (refMayAnswer_c HG1)) ?_
  rintro w102 e102
  have zs_e102 := e102.size
  replace E := E.trans (Ext.keep e102)
  replace HB1 := HB1.ext e102
  replace HG1 := HG1.ext e102
  replace HT1 := HT1.ext e102
  replace HB7 := HB7.ext e102
  refine l_g1 rfl rfl (fun hG => v_not (gd hG rfl)) ?_
  refine l_v (v_or rfl rfl) ?_
  refine l_nil ?_
  refine n_then ?_
  refine c_cond rfl rfl (fun he => ?_) (fun he => ?_)
  · skip
    have he : ¬ (mayC c n = true ∧ mayAn a = true) := by intro h; rw [h.1, h.2] at he; simp at he
    refine c_seq ?_
    refine wp_reg (by decide +kernel) ?_
    refine l_v (v_assign rfl) ?_
    refine l_nil ?_
    refine n_then ?_
    refine c_ret ?_
    refine r_then ?_
    refine ret1v rfl (by decide) (show _ = (Value.int _ _) from rfl) ?_
    have hl : putN S c n a = (2, S) := by rw [putN, hmC, if_neg he]
    rw [hl]; exact ⟨⟨rfl, rfl⟩, E⟩
  · skip
    have hm : mayC c n = true ∧ mayAn a = true := by cases h1 : mayC c n <;> cases h2 : mayAn a <;> simp [h1, h2] at he ⊢
    obtain ⟨hc1, hn1⟩ := mayC_rng hm.1
    obtain ⟨k, rfl⟩ := Int.eq_ofNat_of_zero_le (show 0 ≤ c by omega)
    have HPn := HT1.pn HB1 (c := k) (by omega)
    refine c_skip ?_
    refine n_then ?_
    refine c_seq ?_
    refine c_seq ?_
    refine wp_reg (by decide +kernel) ?_
    refine l_v (v_move (t := .int _ _) rfl) ?_
    refine l_v (v_move (t := .pointer _) rfl) ?_
    refine l_v (v_move (t := .int _ _) rfl) ?_
    refine l_v (v_nilCheck rfl) ?_
    refine l_v (v_fieldAddr (off := 0) (ft := 45) (by kernel_rfl) rfl) ?_
    refine l_v (v_arrAddr (et := 2) (n := 5) (sz := 1) (k := k) (by kernel_rfl) rfl rfl rfl (by omega)) ?_
    refine l_v (v_load (by kernel_rfl) rfl (by first | exact pv_1 HPn | exact HB7.cell rfl | exact HB1.cell rfl | assumption)) ?_
    refine l_v (v_leq rfl rfl) ?_
    refine l_nil ?_
    refine n_then ?_
    refine c_cond rfl rfl (fun h1 => ?_) (fun h1 => ?_)
    · skip
      have h1 := dtrue h1
      refine c_seq ?_
      refine wp_reg (by decide +kernel) ?_
      refine l_v (v_assign rfl) ?_
      refine l_nil ?_
      refine n_then ?_
      refine c_ret ?_
      refine r_then ?_
      refine ret1v rfl (by decide) (show _ = (Value.int _ _) from rfl) ?_
      have hl : putN S k n a = (9, S) := by rw [putN, hmC, if_pos hm, if_pos h1]
      rw [hl]; exact ⟨⟨rfl, rfl⟩, E⟩
    · skip
      exact absurd ⟨hm.1, hm.2, dfalse h1⟩ hno
set_option maxHeartbeats 8000000 in
theorem refPut1_c {w : World} {F G : Nat → Prop} {b : Nat} {cells : List Value} {S : TbS} {n : Int} {a : AnV} {v : Value} (HB1 : Blk w b cells 48) (HT1 : RfC w F cells S) (HG1 : AgV tAn w G v a) (hm : mayC 1 n = true) (hma : mayAn a = true) (hn : ¬ n ≤ numS S 1) (hG : ∀ i, G i → i ≠ b) : CallsR Try.prog 38 #[.pointer (some ⟨b, 0, none⟩), .int .i64 1, .int .i64 n, v] w (fun o w' => (o = .int .i64 0 ∧ ∃ cs, Blk w' b (setAt (cells.set 1 (.int .i64 n)) (5 + 1 * 3) cs) 48 ∧ tAn.rep w' (fun i => w.heap.size ≤ i) cs a) ∧ Keep (fun i => i = b) w w') := by
  have zl1 := HB1.lt
  obtain ⟨a1, c1, a2, c2, rfl, _⟩ := HG1.an
  obtain ⟨s1, s2, s3⟩ := may_sm hma
  have hlen := HT1.len
  have HPn := HT1.pn HB1 (c := 1) (by decide)
  refine enter 39 Try.func38 rfl rfl (by simp) ?_
  refine c_seq ?_
  have E := Keep.refl (K := fun i => i = b) w
  refine wp_reg (by decide +kernel) ?_
  refine l_to (to_box (show _ = (Value.agg _) from rfl) ?_)
  rintro b7 w7 zb7 HB7 e7 z7
  have zs_e7 := e7.size
  replace E := E.trans (Ext.keep e7)
  replace HB1 := HB1.ext e7
  replace HG1 := HG1.ext e7
  replace HPn := HPn.ext e7
  try simp only [Value.cells] at HB7
  refine l_v (v_assign rfl) ?_
  refine l_nil ?_
  refine n_then ?_
  refine c_seq ?_
  refine c_seq ?_
  refine wp_reg (by decide +kernel) ?_
  refine l_v (v_move (t := .int _ _) rfl) ?_
  refine l_v (v_move (t := .int _ _) rfl) ?_
  refine l_to (to_f2 (by kernel_rfl) (show _ = (Value.int _ _) from rfl) (show _ = (Value.int _ _) from rfl) (CallsR.mono (refmay_c) ?_))
  rintro _ w101 ⟨rfl, e101⟩
  have zs_e101 := e101.size
  replace E := E.trans (Ext.keep e101)
  replace HB1 := HB1.ext e101
  replace HG1 := HG1.ext e101
  replace HPn := HPn.ext e101
  replace HB7 := HB7.ext e101
  refine l_v (v_not rfl) ?_
  refine l_v (v_move (t := .bool _) rfl) ?_
  refine l_g1 rfl rfl (fun hG => v_loadA (by kernel_rfl) rfl (by first | exact HB7.pv | exact HPn | exact HB1.pv | assumption) rfl) ?_
  refine l_g1f rfl rfl (fun hG => to_f1 (by kernel_rfl) (gd hG rfl) (refMayAnswer_c HG1)) ?_
  rintro w102 e102
  have zs_e102 := e102.size
  replace E := E.trans (Ext.keep e102)
  replace HB1 := HB1.ext e102
  replace HG1 := HG1.ext e102
  replace HPn := HPn.ext e102
  replace HB7 := HB7.ext e102
  refine l_g1 rfl rfl (fun hG => v_not (gd hG rfl)) ?_
  refine l_v (v_or rfl rfl) ?_
  refine l_nil ?_
  refine n_then ?_
  refine c_cond rfl rfl (fun he => ?_) (fun he => ?_)
  · skip
    rw [hm, hma] at he; cases he
  · skip
    refine c_skip ?_
    refine n_then ?_
    refine c_seq ?_
    refine c_seq ?_
    refine wp_reg (by decide +kernel) ?_
    refine l_v (v_move (t := .int _ _) rfl) ?_
    refine l_v (v_move (t := .pointer _) rfl) ?_
    refine l_v (v_move (t := .int _ _) rfl) ?_
    refine l_v (v_nilCheck rfl) ?_
    refine l_v (v_fieldAddr (off := 0) (ft := 45) (by kernel_rfl) rfl) ?_
    refine l_v (v_arrAddr (et := 2) (n := 5) (sz := 1) (k := 1) (by kernel_rfl) rfl rfl rfl (by decide)) ?_
    refine l_v (v_load (by kernel_rfl) rfl (by first | exact HB7.pv 1 _ rfl | exact HPn 1 _ rfl | exact pv_1 HPn | exact HB1.pv 1 _ rfl | assumption)) ?_
    refine l_v (v_leq rfl rfl) ?_
    refine l_nil ?_
    refine n_then ?_
    refine c_cond rfl rfl (fun h1 => ?_) (fun h1 => ?_)
    · skip
      exact absurd (dtrue h1) hn
    · skip
      obtain ⟨n7, hn7⟩ : ∃ n, n = w102.heap.size := ⟨_, rfl⟩
      refine c_skip ?_
      refine n_then ?_
      refine c_seq ?_
      refine wp_any (by kernel_rfl) ?_
      have e103 : Ext w102 { w102 with drawn := w102.drawn + 1 } := Keep.drawn _ _
      generalize hw103 : ({ w102 with drawn := w102.drawn + 1 } : World) = w103 at e103 ⊢
      clear hw103
      have zs_e103 := e103.size
      replace E := E.trans (Ext.keep e103)
      replace HB1 := HB1.ext e103
      replace HG1 := HG1.ext e103
      replace HB7 := HB7.ext e103
      refine r_cut 14 rfl (by decide +kernel) (by decide +kernel) (by decide +kernel) ?_
      refine wp_regJW (fun k => k = b) (StJ b _ _ [(10, 1, some 4, (undef : Value))]) (by decide +kernel) (by decide +kernel) (fun vals done hd => StJ.start HB1 (fun a ha => hd a.1 (st_lt (n := 14) rfl a ha))) ?_
      refine rj_vJ (fun done vals w hR hcl hdk hJ hdn hd => v_move (t := .pointer _) rfl) (fun done vals w hdk hJ => hJ.src (Keep.refl _) hdk rfl) ?_
      refine rj_vJ (fun done vals w hR hcl hdk hJ hdn hd => v_move (t := .int _ _) rfl) (fun done vals w hdk hJ => hJ.src (Keep.refl _) hdk rfl) ?_
      refine rj_vJ (fun done vals w hR hcl hdk hJ hdn hd => v_move (t := .pointer _) rfl) (fun done vals w hdk hJ => hJ.src (Keep.refl _) hdk rfl) ?_
      refine rj_vJ (fun done vals w hR hcl hdk hJ hdn hd => v_move (t := .int _ _) rfl) (fun done vals w hdk hJ => hJ.src (Keep.refl _) hdk rfl) ?_
      refine rj_vJ (fun done vals w hR hcl hdk hJ hdn hd => v_move (t := .int _ _) rfl) (fun done vals w hdk hJ => hJ.src (Keep.refl _) hdk rfl) ?_
      refine rj_vJ (fun done vals w hR hcl hdk hJ hdn hd => v_loadA (by kernel_rfl) rfl (by first | exact (HB7.keep hR (by intro h; (try dsimp only at h); first | omega)).pv | exact (HB1.keep hR (by intro h; (try dsimp only at h); first | omega)).pv | assumption) rfl) (fun done vals w hdk hJ => hJ.src (Keep.refl _) hdk rfl) ?_
      refine rj_to (fun v W => ∃ e1 f1 e2 f2, v = .agg #[.int .i64 a.1, .slice e1 a.2.1.length f1, .slice e2 a.2.2.length f2] ∧ AgV tAn W (fun i => n7 ≤ i) v a) (fun v w w' h k => by obtain ⟨e1, f1, e2, f2, h1, h2⟩ := h; exact ⟨e1, f1, e2, f2, h1, h2.keep k (fun i _ hi he => by have he : i = b := he; omega)⟩) (fun done vals w hR hcl hdk hJ hdn hd => OpTo.mono (K := fun v w1 => Ext w w1 ∧ (fun v W => ∃ e1 f1 e2 f2, v = .agg #[.int .i64 a.1, .slice e1 a.2.1.length f1, .slice e2 a.2.2.length f2] ∧ AgV tAn W (fun i => n7 ≤ i) v a) v w1) (to_f1 (by kernel_rfl) (hd 5 rfl) (CallsR.mono (CopyAnswer_c (HG1.keep hR (fun i _ hi he => hG i hi he)) s1 s2 s3) fun v w1 h => ⟨h.2, by obtain ⟨e1, f1, e2, f2, h1, _⟩ := h.1.anF; exact ⟨e1, f1, e2, f2, h1, AgV.imp imp_an (h.1.mono (F' := fun i => n7 ≤ i) fun i _ h => by have := hR.size; omega)⟩⟩)) fun v w1 h => ⟨Ext.keep h.1, h.2, hJ.src h.1 hdk rfl⟩) ?_
      refine rj_vJ (fun done vals w hR hcl hdk hJ hdn hd => v_nilCheck (hd 0 rfl)) (fun done vals w hdk hJ => hJ.src (Keep.refl _) hdk rfl) ?_
      refine rj_vJ (fun done vals w hR hcl hdk hJ hdn hd => v_fieldAddr (off := 0) (ft := 45) (by kernel_rfl) (hd 7 rfl)) (fun done vals w hdk hJ => hJ.src (Keep.refl _) hdk rfl) ?_
      refine rj_vJ (fun done vals w hR hcl hdk hJ hdn hd => v_arrAddr (et := 2) (n := 5) (sz := 1) (k := 1) (by kernel_rfl) (hd 8 rfl) (hd 1 rfl) rfl (by decide)) (fun done vals w hdk hJ => hJ.src (Keep.refl _) hdk rfl) ?_
      refine rj_d (fun done vals w hR hcl hdk hJ hdn hd => to_store (hd 9 rfl) rfl rfl (by first | exact SlV.one (hd 4 rfl) | exact SlV.one (hd 4 rfl).1 | exact OwV.one (hd 4 rfl) | exact OwV.one (hd 4 rfl).1 | (have h := hd 4 rfl; dsimp only [setS] at h; rw [h]; rfl) | exact (hd 4 rfl).1 | (obtain ⟨_, h⟩ := hd 4 rfl; rw [h]; rfl) | exact (congrArg Value.oneCell' (hd 4 rfl)).trans rfl) (by kernel_rfl) (hJ.at (n := 0) rfl hdk (fun m h => by cases h)) (by rw [conts_len]; first | exact of_decide_eq_true rfl | (rw [hlen]; exact of_decide_eq_true rfl)) (fun w1 hB k z => ⟨k, hJ.step (n := 0) rfl hdk (fun m h => by cases h) (fun k h => by cases h; exact hdn 4 rfl) (once_st rfl) rfl hB⟩)) ?_
      refine rj_vJ (fun done vals w hR hcl hdk hJ hdn hd => v_nilCheck (hd 2 rfl)) (fun done vals w hdk hJ => hJ.src (Keep.refl _) hdk rfl) ?_
      refine rj_vJ (fun done vals w hR hcl hdk hJ hdn hd => v_fieldAddr (off := 5) (ft := 46) (by kernel_rfl) (hd 11 rfl)) (fun done vals w hdk hJ => hJ.src (Keep.refl _) hdk rfl) ?_
      refine rj_vJ (fun done vals w hR hcl hdk hJ hdn hd => v_arrAddr (et := 33) (n := 5) (sz := 3) (k := 1) (by kernel_rfl) (hd 12 rfl) (hd 3 rfl) rfl (by decide)) (fun done vals w hdk hJ => hJ.src (Keep.refl _) hdk rfl) ?_
      refine rj_nil (fun vals w104 k104 J104 => ?_)
      rintro _ - rfl _ - rfl _ - rfl _ - rfl _ qs4 rfl _ - rfl v32 qs6 ⟨e1, f1, e2, f2, rfl, HG32⟩ _ - rfl _ - rfl _ - rfl _ - - _ - rfl _ - rfl _ - rfl
      have zs_k104 := k104.size
      have HX104 := J104.fin
      simp only [conts, sv, ← qs4] at HX104
      replace E := E.step k104 (by intro i hi he; (try dsimp only [NoK] at hi he ⊢); first | exact he.elim | omega | exact he)
      replace HB7 := HB7.keep k104 (by intro h; (try dsimp only at h); first | omega)
      replace HB1 := HX104
      clear HX104
      try simp only [List.set_cons_zero, List.set_cons_succ, setAt, List.take_zero, List.take_succ_cons, List.drop_zero, List.drop_succ_cons, List.nil_append, List.cons_append, List.append_nil, List.length_cons, List.length_nil, Nat.zero_add, Nat.reduceAdd, List.drop_nil] at HB1
      refine fin_nilJ ?_
      refine n_then ?_
      refine r_one (by decide +kernel) rfl ?_
      refine l_to (to_storeA (n := 3) rfl rfl (show _ = (Value.agg _) from rfl) (by kernel_rfl) rfl (by first | (simp [slice_one]; done) | (simp only [List.forall_mem_cons, List.cons_append, List.nil_append]; repeat' (first | exact rfl | apply And.intro | (intro u hu; cases hu; done)))) HB1 (by first | exact of_decide_eq_true rfl | (simp; done) | decide | (simp only [List.length_set, hlen]; exact of_decide_eq_true rfl)) ?_)
      rintro w105 HX105 k105 z105
      have zs_k105 := k105.size
      try simp only [add_block] at k105
      try simp only [add_block] at HX105
      replace E := E.step k105 (by intro i hi he; (try dsimp only [NoK] at hi he ⊢); first | exact he.elim | omega | exact he)
      replace HB7 := HB7.keep k105 (by intro h; (try dsimp only at h); first | omega)
      replace HG32 := HG32.keep k105 (by intro i _ hi he; (try dsimp only [NoK, AllB] at hi he); first | exact hi.elim | exact he.elim | omega | (rcases hi with hi | hi <;> omega) | (rcases he with he | he <;> omega))
      replace HB1 := HX105
      clear HX105
      try simp only [List.set_cons_zero, List.set_cons_succ, setAt, List.take_zero, List.take_succ_cons, List.drop_zero, List.drop_succ_cons, List.nil_append, List.cons_append, List.append_nil, List.length_cons, List.length_nil, Nat.zero_add, Nat.reduceAdd, List.drop_nil] at HB1
      refine l_nil ?_
      refine n_then ?_
      refine c_seq ?_
      refine wp_reg (by decide +kernel) ?_
      refine l_v (v_assign rfl) ?_
      refine l_nil ?_
      refine n_then ?_
      refine c_ret ?_
      refine ret1v rfl (by decide) (show _ = (Value.int _ _) from rfl) ?_
      obtain ⟨cs, h1, h2⟩ := HG32
      cases h1
      exact ⟨⟨rfl, _, HB1, tAn.mono h2 fun i _ h => by omega⟩, E⟩
set_option maxHeartbeats 8000000 in
theorem refPut2_c {w : World} {F G : Nat → Prop} {b : Nat} {cells : List Value} {S : TbS} {n : Int} {a : AnV} {v : Value} (HB1 : Blk w b cells 48) (HT1 : RfC w F cells S) (HG1 : AgV tAn w G v a) (hm : mayC 2 n = true) (hma : mayAn a = true) (hn : ¬ n ≤ numS S 2) (hG : ∀ i, G i → i ≠ b) : CallsR Try.prog 38 #[.pointer (some ⟨b, 0, none⟩), .int .i64 2, .int .i64 n, v] w (fun o w' => (o = .int .i64 0 ∧ ∃ cs, Blk w' b (setAt (cells.set 2 (.int .i64 n)) (5 + 2 * 3) cs) 48 ∧ tAn.rep w' (fun i => w.heap.size ≤ i) cs a) ∧ Keep (fun i => i = b) w w') := by
  have zl1 := HB1.lt
  obtain ⟨a1, c1, a2, c2, rfl, _⟩ := HG1.an
  obtain ⟨s1, s2, s3⟩ := may_sm hma
  have hlen := HT1.len
  have HPn := HT1.pn HB1 (c := 2) (by decide)
  refine enter 39 Try.func38 rfl rfl (by simp) ?_
  refine c_seq ?_
  have E := Keep.refl (K := fun i => i = b) w
  refine wp_reg (by decide +kernel) ?_
  refine l_to (to_box (show _ = (Value.agg _) from rfl) ?_)
  rintro b7 w7 zb7 HB7 e7 z7
  have zs_e7 := e7.size
  replace E := E.trans (Ext.keep e7)
  replace HB1 := HB1.ext e7
  replace HG1 := HG1.ext e7
  replace HPn := HPn.ext e7
  try simp only [Value.cells] at HB7
  refine l_v (v_assign rfl) ?_
  refine l_nil ?_
  refine n_then ?_
  refine c_seq ?_
  refine c_seq ?_
  refine wp_reg (by decide +kernel) ?_
  refine l_v (v_move (t := .int _ _) rfl) ?_
  refine l_v (v_move (t := .int _ _) rfl) ?_
  refine l_to (to_f2 (by kernel_rfl) (show _ = (Value.int _ _) from rfl) (show _ = (Value.int _ _) from rfl) (CallsR.mono (refmay_c) ?_))
  rintro _ w101 ⟨rfl, e101⟩
  have zs_e101 := e101.size
  replace E := E.trans (Ext.keep e101)
  replace HB1 := HB1.ext e101
  replace HG1 := HG1.ext e101
  replace HPn := HPn.ext e101
  replace HB7 := HB7.ext e101
  refine l_v (v_not rfl) ?_
  refine l_v (v_move (t := .bool _) rfl) ?_
  refine l_g1 rfl rfl (fun hG => v_loadA (by kernel_rfl) rfl (by first | exact HB7.pv | exact HPn | exact HB1.pv | assumption) rfl) ?_
  refine l_g1f rfl rfl (fun hG => to_f1 (by kernel_rfl) (gd hG rfl) (refMayAnswer_c HG1)) ?_
  rintro w102 e102
  have zs_e102 := e102.size
  replace E := E.trans (Ext.keep e102)
  replace HB1 := HB1.ext e102
  replace HG1 := HG1.ext e102
  replace HPn := HPn.ext e102
  replace HB7 := HB7.ext e102
  refine l_g1 rfl rfl (fun hG => v_not (gd hG rfl)) ?_
  refine l_v (v_or rfl rfl) ?_
  refine l_nil ?_
  refine n_then ?_
  refine c_cond rfl rfl (fun he => ?_) (fun he => ?_)
  · skip
    rw [hm, hma] at he; cases he
  · skip
    refine c_skip ?_
    refine n_then ?_
    refine c_seq ?_
    refine c_seq ?_
    refine wp_reg (by decide +kernel) ?_
    refine l_v (v_move (t := .int _ _) rfl) ?_
    refine l_v (v_move (t := .pointer _) rfl) ?_
    refine l_v (v_move (t := .int _ _) rfl) ?_
    refine l_v (v_nilCheck rfl) ?_
    refine l_v (v_fieldAddr (off := 0) (ft := 45) (by kernel_rfl) rfl) ?_
    refine l_v (v_arrAddr (et := 2) (n := 5) (sz := 1) (k := 2) (by kernel_rfl) rfl rfl rfl (by decide)) ?_
    refine l_v (v_load (by kernel_rfl) rfl (by first | exact HB7.pv 2 _ rfl | exact HPn 2 _ rfl | exact pv_1 HPn | exact HB1.pv 2 _ rfl | assumption)) ?_
    refine l_v (v_leq rfl rfl) ?_
    refine l_nil ?_
    refine n_then ?_
    refine c_cond rfl rfl (fun h1 => ?_) (fun h1 => ?_)
    · skip
      exact absurd (dtrue h1) hn
    · skip
      obtain ⟨n7, hn7⟩ : ∃ n, n = w102.heap.size := ⟨_, rfl⟩
      refine c_skip ?_
      refine n_then ?_
      refine c_seq ?_
      refine wp_any (by kernel_rfl) ?_
      have e103 : Ext w102 { w102 with drawn := w102.drawn + 1 } := Keep.drawn _ _
      generalize hw103 : ({ w102 with drawn := w102.drawn + 1 } : World) = w103 at e103 ⊢
      clear hw103
      have zs_e103 := e103.size
      replace E := E.trans (Ext.keep e103)
      replace HB1 := HB1.ext e103
      replace HG1 := HG1.ext e103
      replace HB7 := HB7.ext e103
      refine r_cut 14 rfl (by decide +kernel) (by decide +kernel) (by decide +kernel) ?_
      refine wp_regJW (fun k => k = b) (StJ b _ _ [(10, 2, some 4, (undef : Value))]) (by decide +kernel) (by decide +kernel) (fun vals done hd => StJ.start HB1 (fun a ha => hd a.1 (st_lt (n := 14) rfl a ha))) ?_
      refine rj_vJ (fun done vals w hR hcl hdk hJ hdn hd => v_move (t := .pointer _) rfl) (fun done vals w hdk hJ => hJ.src (Keep.refl _) hdk rfl) ?_
      refine rj_vJ (fun done vals w hR hcl hdk hJ hdn hd => v_move (t := .int _ _) rfl) (fun done vals w hdk hJ => hJ.src (Keep.refl _) hdk rfl) ?_
      refine rj_vJ (fun done vals w hR hcl hdk hJ hdn hd => v_move (t := .pointer _) rfl) (fun done vals w hdk hJ => hJ.src (Keep.refl _) hdk rfl) ?_
      refine rj_vJ (fun done vals w hR hcl hdk hJ hdn hd => v_move (t := .int _ _) rfl) (fun done vals w hdk hJ => hJ.src (Keep.refl _) hdk rfl) ?_
      refine rj_vJ (fun done vals w hR hcl hdk hJ hdn hd => v_move (t := .int _ _) rfl) (fun done vals w hdk hJ => hJ.src (Keep.refl _) hdk rfl) ?_
      refine rj_vJ (fun done vals w hR hcl hdk hJ hdn hd => v_loadA (by kernel_rfl) rfl (by first | exact (HB7.keep hR (by intro h; (try dsimp only at h); first | omega)).pv | exact (HB1.keep hR (by intro h; (try dsimp only at h); first | omega)).pv | assumption) rfl) (fun done vals w hdk hJ => hJ.src (Keep.refl _) hdk rfl) ?_
      refine rj_to (fun v W => ∃ e1 f1 e2 f2, v = .agg #[.int .i64 a.1, .slice e1 a.2.1.length f1, .slice e2 a.2.2.length f2] ∧ AgV tAn W (fun i => n7 ≤ i) v a) (fun v w w' h k => by obtain ⟨e1, f1, e2, f2, h1, h2⟩ := h; exact ⟨e1, f1, e2, f2, h1, h2.keep k (fun i _ hi he => by have he : i = b := he; omega)⟩) (fun done vals w hR hcl hdk hJ hdn hd => OpTo.mono (K := fun v w1 => Ext w w1 ∧ (fun v W => ∃ e1 f1 e2 f2, v = .agg #[.int .i64 a.1, .slice e1 a.2.1.length f1, .slice e2 a.2.2.length f2] ∧ AgV tAn W (fun i => n7 ≤ i) v a) v w1) (to_f1 (by kernel_rfl) (hd 5 rfl) (CallsR.mono (CopyAnswer_c (HG1.keep hR (fun i _ hi he => hG i hi he)) s1 s2 s3) fun v w1 h => ⟨h.2, by obtain ⟨e1, f1, e2, f2, h1, _⟩ := h.1.anF; exact ⟨e1, f1, e2, f2, h1, AgV.imp imp_an (h.1.mono (F' := fun i => n7 ≤ i) fun i _ h => by have := hR.size; omega)⟩⟩)) fun v w1 h => ⟨Ext.keep h.1, h.2, hJ.src h.1 hdk rfl⟩) ?_
      refine rj_vJ (fun done vals w hR hcl hdk hJ hdn hd => v_nilCheck (hd 0 rfl)) (fun done vals w hdk hJ => hJ.src (Keep.refl _) hdk rfl) ?_
      refine rj_vJ (fun done vals w hR hcl hdk hJ hdn hd => v_fieldAddr (off := 0) (ft := 45) (by kernel_rfl) (hd 7 rfl)) (fun done vals w hdk hJ => hJ.src (Keep.refl _) hdk rfl) ?_
      refine rj_vJ (fun done vals w hR hcl hdk hJ hdn hd => v_arrAddr (et := 2) (n := 5) (sz := 1) (k := 2) (by kernel_rfl) (hd 8 rfl) (hd 1 rfl) rfl (by decide)) (fun done vals w hdk hJ => hJ.src (Keep.refl _) hdk rfl) ?_
      refine rj_d (fun done vals w hR hcl hdk hJ hdn hd => to_store (hd 9 rfl) rfl rfl (by first | exact SlV.one (hd 4 rfl) | exact SlV.one (hd 4 rfl).1 | exact OwV.one (hd 4 rfl) | exact OwV.one (hd 4 rfl).1 | (have h := hd 4 rfl; dsimp only [setS] at h; rw [h]; rfl) | exact (hd 4 rfl).1 | (obtain ⟨_, h⟩ := hd 4 rfl; rw [h]; rfl) | exact (congrArg Value.oneCell' (hd 4 rfl)).trans rfl) (by kernel_rfl) (hJ.at (n := 0) rfl hdk (fun m h => by cases h)) (by rw [conts_len]; first | exact of_decide_eq_true rfl | (rw [hlen]; exact of_decide_eq_true rfl)) (fun w1 hB k z => ⟨k, hJ.step (n := 0) rfl hdk (fun m h => by cases h) (fun k h => by cases h; exact hdn 4 rfl) (once_st rfl) rfl hB⟩)) ?_
      refine rj_vJ (fun done vals w hR hcl hdk hJ hdn hd => v_nilCheck (hd 2 rfl)) (fun done vals w hdk hJ => hJ.src (Keep.refl _) hdk rfl) ?_
      refine rj_vJ (fun done vals w hR hcl hdk hJ hdn hd => v_fieldAddr (off := 5) (ft := 46) (by kernel_rfl) (hd 11 rfl)) (fun done vals w hdk hJ => hJ.src (Keep.refl _) hdk rfl) ?_
      refine rj_vJ (fun done vals w hR hcl hdk hJ hdn hd => v_arrAddr (et := 33) (n := 5) (sz := 3) (k := 2) (by kernel_rfl) (hd 12 rfl) (hd 3 rfl) rfl (by decide)) (fun done vals w hdk hJ => hJ.src (Keep.refl _) hdk rfl) ?_
      refine rj_nil (fun vals w104 k104 J104 => ?_)
      rintro _ - rfl _ - rfl _ - rfl _ - rfl _ qs4 rfl _ - rfl v32 qs6 ⟨e1, f1, e2, f2, rfl, HG32⟩ _ - rfl _ - rfl _ - rfl _ - - _ - rfl _ - rfl _ - rfl
      have zs_k104 := k104.size
      have HX104 := J104.fin
      simp only [conts, sv, ← qs4] at HX104
      replace E := E.step k104 (by intro i hi he; (try dsimp only [NoK] at hi he ⊢); first | exact he.elim | omega | exact he)
      replace HB7 := HB7.keep k104 (by intro h; (try dsimp only at h); first | omega)
      replace HB1 := HX104
      clear HX104
      try simp only [List.set_cons_zero, List.set_cons_succ, setAt, List.take_zero, List.take_succ_cons, List.drop_zero, List.drop_succ_cons, List.nil_append, List.cons_append, List.append_nil, List.length_cons, List.length_nil, Nat.zero_add, Nat.reduceAdd, List.drop_nil] at HB1
      refine fin_nilJ ?_
      refine n_then ?_
      refine r_one (by decide +kernel) rfl ?_
      refine l_to (to_storeA (n := 3) rfl rfl (show _ = (Value.agg _) from rfl) (by kernel_rfl) rfl (by first | (simp [slice_one]; done) | (simp only [List.forall_mem_cons, List.cons_append, List.nil_append]; repeat' (first | exact rfl | apply And.intro | (intro u hu; cases hu; done)))) HB1 (by first | exact of_decide_eq_true rfl | (simp; done) | decide | (simp only [List.length_set, hlen]; exact of_decide_eq_true rfl)) ?_)
      rintro w105 HX105 k105 z105
      have zs_k105 := k105.size
      try simp only [add_block] at k105
      try simp only [add_block] at HX105
      replace E := E.step k105 (by intro i hi he; (try dsimp only [NoK] at hi he ⊢); first | exact he.elim | omega | exact he)
      replace HB7 := HB7.keep k105 (by intro h; (try dsimp only at h); first | omega)
      replace HG32 := HG32.keep k105 (by intro i _ hi he; (try dsimp only [NoK, AllB] at hi he); first | exact hi.elim | exact he.elim | omega | (rcases hi with hi | hi <;> omega) | (rcases he with he | he <;> omega))
      replace HB1 := HX105
      clear HX105
      try simp only [List.set_cons_zero, List.set_cons_succ, setAt, List.take_zero, List.take_succ_cons, List.drop_zero, List.drop_succ_cons, List.nil_append, List.cons_append, List.append_nil, List.length_cons, List.length_nil, Nat.zero_add, Nat.reduceAdd, List.drop_nil] at HB1
      refine l_nil ?_
      refine n_then ?_
      refine c_seq ?_
      refine wp_reg (by decide +kernel) ?_
      refine l_v (v_assign rfl) ?_
      refine l_nil ?_
      refine n_then ?_
      refine c_ret ?_
      refine ret1v rfl (by decide) (show _ = (Value.int _ _) from rfl) ?_
      obtain ⟨cs, h1, h2⟩ := HG32
      cases h1
      exact ⟨⟨rfl, _, HB1, tAn.mono h2 fun i _ h => by omega⟩, E⟩
set_option maxHeartbeats 8000000 in
theorem refPut3_c {w : World} {F G : Nat → Prop} {b : Nat} {cells : List Value} {S : TbS} {n : Int} {a : AnV} {v : Value} (HB1 : Blk w b cells 48) (HT1 : RfC w F cells S) (HG1 : AgV tAn w G v a) (hm : mayC 3 n = true) (hma : mayAn a = true) (hn : ¬ n ≤ numS S 3) (hG : ∀ i, G i → i ≠ b) : CallsR Try.prog 38 #[.pointer (some ⟨b, 0, none⟩), .int .i64 3, .int .i64 n, v] w (fun o w' => (o = .int .i64 0 ∧ ∃ cs, Blk w' b (setAt (cells.set 3 (.int .i64 n)) (5 + 3 * 3) cs) 48 ∧ tAn.rep w' (fun i => w.heap.size ≤ i) cs a) ∧ Keep (fun i => i = b) w w') := by
  have zl1 := HB1.lt
  obtain ⟨a1, c1, a2, c2, rfl, _⟩ := HG1.an
  obtain ⟨s1, s2, s3⟩ := may_sm hma
  have hlen := HT1.len
  have HPn := HT1.pn HB1 (c := 3) (by decide)
  refine enter 39 Try.func38 rfl rfl (by simp) ?_
  refine c_seq ?_
  have E := Keep.refl (K := fun i => i = b) w
  refine wp_reg (by decide +kernel) ?_
  refine l_to (to_box (show _ = (Value.agg _) from rfl) ?_)
  rintro b7 w7 zb7 HB7 e7 z7
  have zs_e7 := e7.size
  replace E := E.trans (Ext.keep e7)
  replace HB1 := HB1.ext e7
  replace HG1 := HG1.ext e7
  replace HPn := HPn.ext e7
  try simp only [Value.cells] at HB7
  refine l_v (v_assign rfl) ?_
  refine l_nil ?_
  refine n_then ?_
  refine c_seq ?_
  refine c_seq ?_
  refine wp_reg (by decide +kernel) ?_
  refine l_v (v_move (t := .int _ _) rfl) ?_
  refine l_v (v_move (t := .int _ _) rfl) ?_
  refine l_to (to_f2 (by kernel_rfl) (show _ = (Value.int _ _) from rfl) (show _ = (Value.int _ _) from rfl) (CallsR.mono (refmay_c) ?_))
  rintro _ w101 ⟨rfl, e101⟩
  have zs_e101 := e101.size
  replace E := E.trans (Ext.keep e101)
  replace HB1 := HB1.ext e101
  replace HG1 := HG1.ext e101
  replace HPn := HPn.ext e101
  replace HB7 := HB7.ext e101
  refine l_v (v_not rfl) ?_
  refine l_v (v_move (t := .bool _) rfl) ?_
  refine l_g1 rfl rfl (fun hG => v_loadA (by kernel_rfl) rfl (by first | exact HB7.pv | exact HPn | exact HB1.pv | assumption) rfl) ?_
  refine l_g1f rfl rfl (fun hG => to_f1 (by kernel_rfl) (gd hG rfl) (refMayAnswer_c HG1)) ?_
  rintro w102 e102
  have zs_e102 := e102.size
  replace E := E.trans (Ext.keep e102)
  replace HB1 := HB1.ext e102
  replace HG1 := HG1.ext e102
  replace HPn := HPn.ext e102
  replace HB7 := HB7.ext e102
  refine l_g1 rfl rfl (fun hG => v_not (gd hG rfl)) ?_
  refine l_v (v_or rfl rfl) ?_
  refine l_nil ?_
  refine n_then ?_
  refine c_cond rfl rfl (fun he => ?_) (fun he => ?_)
  · skip
    rw [hm, hma] at he; cases he
  · skip
    refine c_skip ?_
    refine n_then ?_
    refine c_seq ?_
    refine c_seq ?_
    refine wp_reg (by decide +kernel) ?_
    refine l_v (v_move (t := .int _ _) rfl) ?_
    refine l_v (v_move (t := .pointer _) rfl) ?_
    refine l_v (v_move (t := .int _ _) rfl) ?_
    refine l_v (v_nilCheck rfl) ?_
    refine l_v (v_fieldAddr (off := 0) (ft := 45) (by kernel_rfl) rfl) ?_
    refine l_v (v_arrAddr (et := 2) (n := 5) (sz := 1) (k := 3) (by kernel_rfl) rfl rfl rfl (by decide)) ?_
    refine l_v (v_load (by kernel_rfl) rfl (by first | exact HB7.pv 3 _ rfl | exact HPn 3 _ rfl | exact pv_1 HPn | exact HB1.pv 3 _ rfl | assumption)) ?_
    refine l_v (v_leq rfl rfl) ?_
    refine l_nil ?_
    refine n_then ?_
    refine c_cond rfl rfl (fun h1 => ?_) (fun h1 => ?_)
    · skip
      exact absurd (dtrue h1) hn
    · skip
      obtain ⟨n7, hn7⟩ : ∃ n, n = w102.heap.size := ⟨_, rfl⟩
      refine c_skip ?_
      refine n_then ?_
      refine c_seq ?_
      refine wp_any (by kernel_rfl) ?_
      have e103 : Ext w102 { w102 with drawn := w102.drawn + 1 } := Keep.drawn _ _
      generalize hw103 : ({ w102 with drawn := w102.drawn + 1 } : World) = w103 at e103 ⊢
      clear hw103
      have zs_e103 := e103.size
      replace E := E.trans (Ext.keep e103)
      replace HB1 := HB1.ext e103
      replace HG1 := HG1.ext e103
      replace HB7 := HB7.ext e103
      refine r_cut 14 rfl (by decide +kernel) (by decide +kernel) (by decide +kernel) ?_
      refine wp_regJW (fun k => k = b) (StJ b _ _ [(10, 3, some 4, (undef : Value))]) (by decide +kernel) (by decide +kernel) (fun vals done hd => StJ.start HB1 (fun a ha => hd a.1 (st_lt (n := 14) rfl a ha))) ?_
      refine rj_vJ (fun done vals w hR hcl hdk hJ hdn hd => v_move (t := .pointer _) rfl) (fun done vals w hdk hJ => hJ.src (Keep.refl _) hdk rfl) ?_
      refine rj_vJ (fun done vals w hR hcl hdk hJ hdn hd => v_move (t := .int _ _) rfl) (fun done vals w hdk hJ => hJ.src (Keep.refl _) hdk rfl) ?_
      refine rj_vJ (fun done vals w hR hcl hdk hJ hdn hd => v_move (t := .pointer _) rfl) (fun done vals w hdk hJ => hJ.src (Keep.refl _) hdk rfl) ?_
      refine rj_vJ (fun done vals w hR hcl hdk hJ hdn hd => v_move (t := .int _ _) rfl) (fun done vals w hdk hJ => hJ.src (Keep.refl _) hdk rfl) ?_
      refine rj_vJ (fun done vals w hR hcl hdk hJ hdn hd => v_move (t := .int _ _) rfl) (fun done vals w hdk hJ => hJ.src (Keep.refl _) hdk rfl) ?_
      refine rj_vJ (fun done vals w hR hcl hdk hJ hdn hd => v_loadA (by kernel_rfl) rfl (by first | exact (HB7.keep hR (by intro h; (try dsimp only at h); first | omega)).pv | exact (HB1.keep hR (by intro h; (try dsimp only at h); first | omega)).pv | assumption) rfl) (fun done vals w hdk hJ => hJ.src (Keep.refl _) hdk rfl) ?_
      refine rj_to (fun v W => ∃ e1 f1 e2 f2, v = .agg #[.int .i64 a.1, .slice e1 a.2.1.length f1, .slice e2 a.2.2.length f2] ∧ AgV tAn W (fun i => n7 ≤ i) v a) (fun v w w' h k => by obtain ⟨e1, f1, e2, f2, h1, h2⟩ := h; exact ⟨e1, f1, e2, f2, h1, h2.keep k (fun i _ hi he => by have he : i = b := he; omega)⟩) (fun done vals w hR hcl hdk hJ hdn hd => OpTo.mono (K := fun v w1 => Ext w w1 ∧ (fun v W => ∃ e1 f1 e2 f2, v = .agg #[.int .i64 a.1, .slice e1 a.2.1.length f1, .slice e2 a.2.2.length f2] ∧ AgV tAn W (fun i => n7 ≤ i) v a) v w1) (to_f1 (by kernel_rfl) (hd 5 rfl) (CallsR.mono (CopyAnswer_c (HG1.keep hR (fun i _ hi he => hG i hi he)) s1 s2 s3) fun v w1 h => ⟨h.2, by obtain ⟨e1, f1, e2, f2, h1, _⟩ := h.1.anF; exact ⟨e1, f1, e2, f2, h1, AgV.imp imp_an (h.1.mono (F' := fun i => n7 ≤ i) fun i _ h => by have := hR.size; omega)⟩⟩)) fun v w1 h => ⟨Ext.keep h.1, h.2, hJ.src h.1 hdk rfl⟩) ?_
      refine rj_vJ (fun done vals w hR hcl hdk hJ hdn hd => v_nilCheck (hd 0 rfl)) (fun done vals w hdk hJ => hJ.src (Keep.refl _) hdk rfl) ?_
      refine rj_vJ (fun done vals w hR hcl hdk hJ hdn hd => v_fieldAddr (off := 0) (ft := 45) (by kernel_rfl) (hd 7 rfl)) (fun done vals w hdk hJ => hJ.src (Keep.refl _) hdk rfl) ?_
      refine rj_vJ (fun done vals w hR hcl hdk hJ hdn hd => v_arrAddr (et := 2) (n := 5) (sz := 1) (k := 3) (by kernel_rfl) (hd 8 rfl) (hd 1 rfl) rfl (by decide)) (fun done vals w hdk hJ => hJ.src (Keep.refl _) hdk rfl) ?_
      refine rj_d (fun done vals w hR hcl hdk hJ hdn hd => to_store (hd 9 rfl) rfl rfl (by first | exact SlV.one (hd 4 rfl) | exact SlV.one (hd 4 rfl).1 | exact OwV.one (hd 4 rfl) | exact OwV.one (hd 4 rfl).1 | (have h := hd 4 rfl; dsimp only [setS] at h; rw [h]; rfl) | exact (hd 4 rfl).1 | (obtain ⟨_, h⟩ := hd 4 rfl; rw [h]; rfl) | exact (congrArg Value.oneCell' (hd 4 rfl)).trans rfl) (by kernel_rfl) (hJ.at (n := 0) rfl hdk (fun m h => by cases h)) (by rw [conts_len]; first | exact of_decide_eq_true rfl | (rw [hlen]; exact of_decide_eq_true rfl)) (fun w1 hB k z => ⟨k, hJ.step (n := 0) rfl hdk (fun m h => by cases h) (fun k h => by cases h; exact hdn 4 rfl) (once_st rfl) rfl hB⟩)) ?_
      refine rj_vJ (fun done vals w hR hcl hdk hJ hdn hd => v_nilCheck (hd 2 rfl)) (fun done vals w hdk hJ => hJ.src (Keep.refl _) hdk rfl) ?_
      refine rj_vJ (fun done vals w hR hcl hdk hJ hdn hd => v_fieldAddr (off := 5) (ft := 46) (by kernel_rfl) (hd 11 rfl)) (fun done vals w hdk hJ => hJ.src (Keep.refl _) hdk rfl) ?_
      refine rj_vJ (fun done vals w hR hcl hdk hJ hdn hd => v_arrAddr (et := 33) (n := 5) (sz := 3) (k := 3) (by kernel_rfl) (hd 12 rfl) (hd 3 rfl) rfl (by decide)) (fun done vals w hdk hJ => hJ.src (Keep.refl _) hdk rfl) ?_
      refine rj_nil (fun vals w104 k104 J104 => ?_)
      rintro _ - rfl _ - rfl _ - rfl _ - rfl _ qs4 rfl _ - rfl v32 qs6 ⟨e1, f1, e2, f2, rfl, HG32⟩ _ - rfl _ - rfl _ - rfl _ - - _ - rfl _ - rfl _ - rfl
      have zs_k104 := k104.size
      have HX104 := J104.fin
      simp only [conts, sv, ← qs4] at HX104
      replace E := E.step k104 (by intro i hi he; (try dsimp only [NoK] at hi he ⊢); first | exact he.elim | omega | exact he)
      replace HB7 := HB7.keep k104 (by intro h; (try dsimp only at h); first | omega)
      replace HB1 := HX104
      clear HX104
      try simp only [List.set_cons_zero, List.set_cons_succ, setAt, List.take_zero, List.take_succ_cons, List.drop_zero, List.drop_succ_cons, List.nil_append, List.cons_append, List.append_nil, List.length_cons, List.length_nil, Nat.zero_add, Nat.reduceAdd, List.drop_nil] at HB1
      refine fin_nilJ ?_
      refine n_then ?_
      refine r_one (by decide +kernel) rfl ?_
      refine l_to (to_storeA (n := 3) rfl rfl (show _ = (Value.agg _) from rfl) (by kernel_rfl) rfl (by first | (simp [slice_one]; done) | (simp only [List.forall_mem_cons, List.cons_append, List.nil_append]; repeat' (first | exact rfl | apply And.intro | (intro u hu; cases hu; done)))) HB1 (by first | exact of_decide_eq_true rfl | (simp; done) | decide | (simp only [List.length_set, hlen]; exact of_decide_eq_true rfl)) ?_)
      rintro w105 HX105 k105 z105
      have zs_k105 := k105.size
      try simp only [add_block] at k105
      try simp only [add_block] at HX105
      replace E := E.step k105 (by intro i hi he; (try dsimp only [NoK] at hi he ⊢); first | exact he.elim | omega | exact he)
      replace HB7 := HB7.keep k105 (by intro h; (try dsimp only at h); first | omega)
      replace HG32 := HG32.keep k105 (by intro i _ hi he; (try dsimp only [NoK, AllB] at hi he); first | exact hi.elim | exact he.elim | omega | (rcases hi with hi | hi <;> omega) | (rcases he with he | he <;> omega))
      replace HB1 := HX105
      clear HX105
      try simp only [List.set_cons_zero, List.set_cons_succ, setAt, List.take_zero, List.take_succ_cons, List.drop_zero, List.drop_succ_cons, List.nil_append, List.cons_append, List.append_nil, List.length_cons, List.length_nil, Nat.zero_add, Nat.reduceAdd, List.drop_nil] at HB1
      refine l_nil ?_
      refine n_then ?_
      refine c_seq ?_
      refine wp_reg (by decide +kernel) ?_
      refine l_v (v_assign rfl) ?_
      refine l_nil ?_
      refine n_then ?_
      refine c_ret ?_
      refine ret1v rfl (by decide) (show _ = (Value.int _ _) from rfl) ?_
      obtain ⟨cs, h1, h2⟩ := HG32
      cases h1
      exact ⟨⟨rfl, _, HB1, tAn.mono h2 fun i _ h => by omega⟩, E⟩
set_option maxHeartbeats 8000000 in
theorem refPut4_c {w : World} {F G : Nat → Prop} {b : Nat} {cells : List Value} {S : TbS} {n : Int} {a : AnV} {v : Value} (HB1 : Blk w b cells 48) (HT1 : RfC w F cells S) (HG1 : AgV tAn w G v a) (hm : mayC 4 n = true) (hma : mayAn a = true) (hn : ¬ n ≤ numS S 4) (hG : ∀ i, G i → i ≠ b) : CallsR Try.prog 38 #[.pointer (some ⟨b, 0, none⟩), .int .i64 4, .int .i64 n, v] w (fun o w' => (o = .int .i64 0 ∧ ∃ cs, Blk w' b (setAt (cells.set 4 (.int .i64 n)) (5 + 4 * 3) cs) 48 ∧ tAn.rep w' (fun i => w.heap.size ≤ i) cs a) ∧ Keep (fun i => i = b) w w') := by
  have zl1 := HB1.lt
  obtain ⟨a1, c1, a2, c2, rfl, _⟩ := HG1.an
  obtain ⟨s1, s2, s3⟩ := may_sm hma
  have hlen := HT1.len
  have HPn := HT1.pn HB1 (c := 4) (by decide)
  refine enter 39 Try.func38 rfl rfl (by simp) ?_
  refine c_seq ?_
  have E := Keep.refl (K := fun i => i = b) w
  refine wp_reg (by decide +kernel) ?_
  refine l_to (to_box (show _ = (Value.agg _) from rfl) ?_)
  rintro b7 w7 zb7 HB7 e7 z7
  have zs_e7 := e7.size
  replace E := E.trans (Ext.keep e7)
  replace HB1 := HB1.ext e7
  replace HG1 := HG1.ext e7
  replace HPn := HPn.ext e7
  try simp only [Value.cells] at HB7
  refine l_v (v_assign rfl) ?_
  refine l_nil ?_
  refine n_then ?_
  refine c_seq ?_
  refine c_seq ?_
  refine wp_reg (by decide +kernel) ?_
  refine l_v (v_move (t := .int _ _) rfl) ?_
  refine l_v (v_move (t := .int _ _) rfl) ?_
  refine l_to (to_f2 (by kernel_rfl) (show _ = (Value.int _ _) from rfl) (show _ = (Value.int _ _) from rfl) (CallsR.mono (refmay_c) ?_))
  rintro _ w101 ⟨rfl, e101⟩
  have zs_e101 := e101.size
  replace E := E.trans (Ext.keep e101)
  replace HB1 := HB1.ext e101
  replace HG1 := HG1.ext e101
  replace HPn := HPn.ext e101
  replace HB7 := HB7.ext e101
  refine l_v (v_not rfl) ?_
  refine l_v (v_move (t := .bool _) rfl) ?_
  refine l_g1 rfl rfl (fun hG => v_loadA (by kernel_rfl) rfl (by first | exact HB7.pv | exact HPn | exact HB1.pv | assumption) rfl) ?_
  refine l_g1f rfl rfl (fun hG => to_f1 (by kernel_rfl) (gd hG rfl) (refMayAnswer_c HG1)) ?_
  rintro w102 e102
  have zs_e102 := e102.size
  replace E := E.trans (Ext.keep e102)
  replace HB1 := HB1.ext e102
  replace HG1 := HG1.ext e102
  replace HPn := HPn.ext e102
  replace HB7 := HB7.ext e102
  refine l_g1 rfl rfl (fun hG => v_not (gd hG rfl)) ?_
  refine l_v (v_or rfl rfl) ?_
  refine l_nil ?_
  refine n_then ?_
  refine c_cond rfl rfl (fun he => ?_) (fun he => ?_)
  · skip
    rw [hm, hma] at he; cases he
  · skip
    refine c_skip ?_
    refine n_then ?_
    refine c_seq ?_
    refine c_seq ?_
    refine wp_reg (by decide +kernel) ?_
    refine l_v (v_move (t := .int _ _) rfl) ?_
    refine l_v (v_move (t := .pointer _) rfl) ?_
    refine l_v (v_move (t := .int _ _) rfl) ?_
    refine l_v (v_nilCheck rfl) ?_
    refine l_v (v_fieldAddr (off := 0) (ft := 45) (by kernel_rfl) rfl) ?_
    refine l_v (v_arrAddr (et := 2) (n := 5) (sz := 1) (k := 4) (by kernel_rfl) rfl rfl rfl (by decide)) ?_
    refine l_v (v_load (by kernel_rfl) rfl (by first | exact HB7.pv 4 _ rfl | exact HPn 4 _ rfl | exact pv_1 HPn | exact HB1.pv 4 _ rfl | assumption)) ?_
    refine l_v (v_leq rfl rfl) ?_
    refine l_nil ?_
    refine n_then ?_
    refine c_cond rfl rfl (fun h1 => ?_) (fun h1 => ?_)
    · skip
      exact absurd (dtrue h1) hn
    · skip
      obtain ⟨n7, hn7⟩ : ∃ n, n = w102.heap.size := ⟨_, rfl⟩
      refine c_skip ?_
      refine n_then ?_
      refine c_seq ?_
      refine wp_any (by kernel_rfl) ?_
      have e103 : Ext w102 { w102 with drawn := w102.drawn + 1 } := Keep.drawn _ _
      generalize hw103 : ({ w102 with drawn := w102.drawn + 1 } : World) = w103 at e103 ⊢
      clear hw103
      have zs_e103 := e103.size
      replace E := E.trans (Ext.keep e103)
      replace HB1 := HB1.ext e103
      replace HG1 := HG1.ext e103
      replace HB7 := HB7.ext e103
      refine r_cut 14 rfl (by decide +kernel) (by decide +kernel) (by decide +kernel) ?_
      refine wp_regJW (fun k => k = b) (StJ b _ _ [(10, 4, some 4, (undef : Value))]) (by decide +kernel) (by decide +kernel) (fun vals done hd => StJ.start HB1 (fun a ha => hd a.1 (st_lt (n := 14) rfl a ha))) ?_
      refine rj_vJ (fun done vals w hR hcl hdk hJ hdn hd => v_move (t := .pointer _) rfl) (fun done vals w hdk hJ => hJ.src (Keep.refl _) hdk rfl) ?_
      refine rj_vJ (fun done vals w hR hcl hdk hJ hdn hd => v_move (t := .int _ _) rfl) (fun done vals w hdk hJ => hJ.src (Keep.refl _) hdk rfl) ?_
      refine rj_vJ (fun done vals w hR hcl hdk hJ hdn hd => v_move (t := .pointer _) rfl) (fun done vals w hdk hJ => hJ.src (Keep.refl _) hdk rfl) ?_
      refine rj_vJ (fun done vals w hR hcl hdk hJ hdn hd => v_move (t := .int _ _) rfl) (fun done vals w hdk hJ => hJ.src (Keep.refl _) hdk rfl) ?_
      refine rj_vJ (fun done vals w hR hcl hdk hJ hdn hd => v_move (t := .int _ _) rfl) (fun done vals w hdk hJ => hJ.src (Keep.refl _) hdk rfl) ?_
      refine rj_vJ (fun done vals w hR hcl hdk hJ hdn hd => v_loadA (by kernel_rfl) rfl (by first | exact (HB7.keep hR (by intro h; (try dsimp only at h); first | omega)).pv | exact (HB1.keep hR (by intro h; (try dsimp only at h); first | omega)).pv | assumption) rfl) (fun done vals w hdk hJ => hJ.src (Keep.refl _) hdk rfl) ?_
      refine rj_to (fun v W => ∃ e1 f1 e2 f2, v = .agg #[.int .i64 a.1, .slice e1 a.2.1.length f1, .slice e2 a.2.2.length f2] ∧ AgV tAn W (fun i => n7 ≤ i) v a) (fun v w w' h k => by obtain ⟨e1, f1, e2, f2, h1, h2⟩ := h; exact ⟨e1, f1, e2, f2, h1, h2.keep k (fun i _ hi he => by have he : i = b := he; omega)⟩) (fun done vals w hR hcl hdk hJ hdn hd => OpTo.mono (K := fun v w1 => Ext w w1 ∧ (fun v W => ∃ e1 f1 e2 f2, v = .agg #[.int .i64 a.1, .slice e1 a.2.1.length f1, .slice e2 a.2.2.length f2] ∧ AgV tAn W (fun i => n7 ≤ i) v a) v w1) (to_f1 (by kernel_rfl) (hd 5 rfl) (CallsR.mono (CopyAnswer_c (HG1.keep hR (fun i _ hi he => hG i hi he)) s1 s2 s3) fun v w1 h => ⟨h.2, by obtain ⟨e1, f1, e2, f2, h1, _⟩ := h.1.anF; exact ⟨e1, f1, e2, f2, h1, AgV.imp imp_an (h.1.mono (F' := fun i => n7 ≤ i) fun i _ h => by have := hR.size; omega)⟩⟩)) fun v w1 h => ⟨Ext.keep h.1, h.2, hJ.src h.1 hdk rfl⟩) ?_
      refine rj_vJ (fun done vals w hR hcl hdk hJ hdn hd => v_nilCheck (hd 0 rfl)) (fun done vals w hdk hJ => hJ.src (Keep.refl _) hdk rfl) ?_
      refine rj_vJ (fun done vals w hR hcl hdk hJ hdn hd => v_fieldAddr (off := 0) (ft := 45) (by kernel_rfl) (hd 7 rfl)) (fun done vals w hdk hJ => hJ.src (Keep.refl _) hdk rfl) ?_
      refine rj_vJ (fun done vals w hR hcl hdk hJ hdn hd => v_arrAddr (et := 2) (n := 5) (sz := 1) (k := 4) (by kernel_rfl) (hd 8 rfl) (hd 1 rfl) rfl (by decide)) (fun done vals w hdk hJ => hJ.src (Keep.refl _) hdk rfl) ?_
      refine rj_d (fun done vals w hR hcl hdk hJ hdn hd => to_store (hd 9 rfl) rfl rfl (by first | exact SlV.one (hd 4 rfl) | exact SlV.one (hd 4 rfl).1 | exact OwV.one (hd 4 rfl) | exact OwV.one (hd 4 rfl).1 | (have h := hd 4 rfl; dsimp only [setS] at h; rw [h]; rfl) | exact (hd 4 rfl).1 | (obtain ⟨_, h⟩ := hd 4 rfl; rw [h]; rfl) | exact (congrArg Value.oneCell' (hd 4 rfl)).trans rfl) (by kernel_rfl) (hJ.at (n := 0) rfl hdk (fun m h => by cases h)) (by rw [conts_len]; first | exact of_decide_eq_true rfl | (rw [hlen]; exact of_decide_eq_true rfl)) (fun w1 hB k z => ⟨k, hJ.step (n := 0) rfl hdk (fun m h => by cases h) (fun k h => by cases h; exact hdn 4 rfl) (once_st rfl) rfl hB⟩)) ?_
      refine rj_vJ (fun done vals w hR hcl hdk hJ hdn hd => v_nilCheck (hd 2 rfl)) (fun done vals w hdk hJ => hJ.src (Keep.refl _) hdk rfl) ?_
      refine rj_vJ (fun done vals w hR hcl hdk hJ hdn hd => v_fieldAddr (off := 5) (ft := 46) (by kernel_rfl) (hd 11 rfl)) (fun done vals w hdk hJ => hJ.src (Keep.refl _) hdk rfl) ?_
      refine rj_vJ (fun done vals w hR hcl hdk hJ hdn hd => v_arrAddr (et := 33) (n := 5) (sz := 3) (k := 4) (by kernel_rfl) (hd 12 rfl) (hd 3 rfl) rfl (by decide)) (fun done vals w hdk hJ => hJ.src (Keep.refl _) hdk rfl) ?_
      refine rj_nil (fun vals w104 k104 J104 => ?_)
      rintro _ - rfl _ - rfl _ - rfl _ - rfl _ qs4 rfl _ - rfl v32 qs6 ⟨e1, f1, e2, f2, rfl, HG32⟩ _ - rfl _ - rfl _ - rfl _ - - _ - rfl _ - rfl _ - rfl
      have zs_k104 := k104.size
      have HX104 := J104.fin
      simp only [conts, sv, ← qs4] at HX104
      replace E := E.step k104 (by intro i hi he; (try dsimp only [NoK] at hi he ⊢); first | exact he.elim | omega | exact he)
      replace HB7 := HB7.keep k104 (by intro h; (try dsimp only at h); first | omega)
      replace HB1 := HX104
      clear HX104
      try simp only [List.set_cons_zero, List.set_cons_succ, setAt, List.take_zero, List.take_succ_cons, List.drop_zero, List.drop_succ_cons, List.nil_append, List.cons_append, List.append_nil, List.length_cons, List.length_nil, Nat.zero_add, Nat.reduceAdd, List.drop_nil] at HB1
      refine fin_nilJ ?_
      refine n_then ?_
      refine r_one (by decide +kernel) rfl ?_
      refine l_to (to_storeA (n := 3) rfl rfl (show _ = (Value.agg _) from rfl) (by kernel_rfl) rfl (by first | (simp [slice_one]; done) | (simp only [List.forall_mem_cons, List.cons_append, List.nil_append]; repeat' (first | exact rfl | apply And.intro | (intro u hu; cases hu; done)))) HB1 (by first | exact of_decide_eq_true rfl | (simp; done) | decide | (simp only [List.length_set, hlen]; exact of_decide_eq_true rfl)) ?_)
      rintro w105 HX105 k105 z105
      have zs_k105 := k105.size
      try simp only [add_block] at k105
      try simp only [add_block] at HX105
      replace E := E.step k105 (by intro i hi he; (try dsimp only [NoK] at hi he ⊢); first | exact he.elim | omega | exact he)
      replace HB7 := HB7.keep k105 (by intro h; (try dsimp only at h); first | omega)
      replace HG32 := HG32.keep k105 (by intro i _ hi he; (try dsimp only [NoK, AllB] at hi he); first | exact hi.elim | exact he.elim | omega | (rcases hi with hi | hi <;> omega) | (rcases he with he | he <;> omega))
      replace HB1 := HX105
      clear HX105
      try simp only [List.set_cons_zero, List.set_cons_succ, setAt, List.take_zero, List.take_succ_cons, List.drop_zero, List.drop_succ_cons, List.nil_append, List.cons_append, List.append_nil, List.length_cons, List.length_nil, Nat.zero_add, Nat.reduceAdd, List.drop_nil] at HB1
      refine l_nil ?_
      refine n_then ?_
      refine c_seq ?_
      refine wp_reg (by decide +kernel) ?_
      refine l_v (v_assign rfl) ?_
      refine l_nil ?_
      refine n_then ?_
      refine c_ret ?_
      refine ret1v rfl (by decide) (show _ = (Value.int _ _) from rfl) ?_
      obtain ⟨cs, h1, h2⟩ := HG32
      cases h1
      exact ⟨⟨rfl, _, HB1, tAn.mono h2 fun i _ h => by omega⟩, E⟩
theorem refPut_c {w : World} {F G : Nat → Prop} {b : Nat} {cells : List Value} {S : TbS} {c n : Int} {a : AnV} {v : Value} (HB1 : Blk w b cells 48) (HT1 : RfC w F cells S) (HG1 : AgV tAn w G v a) (hF : ∀ i, F i → i ≠ b) (hG : ∀ i, G i → i ≠ b) : CallsR Try.prog 38 #[.pointer (some ⟨b, 0, none⟩), .int .i64 c, .int .i64 n, v] w (fun o w' => (o = .int .i64 (putN S c n a).1 ∧ ∃ cells', Blk w' b cells' 48 ∧ RfC w' (fun i => F i ∨ w.heap.size ≤ i) cells' (putN S c n a).2) ∧ Keep (fun i => i = b) w w') := by
  have zl1 := HB1.lt
  by_cases hno : mayC c n = true ∧ mayAn a = true ∧ ¬ n ≤ numS S c
  · obtain ⟨h1, h2, h3⟩ := hno
    have hl : putN S c n a = (0, updS S c (n, a)) := by rw [putN, show (decide (1 ≤ c) && decide (c ≤ 4) && decide (1 ≤ n) && decide (n ≤ 2147483647)) = mayC c n from rfl, if_pos ⟨h1, h2⟩, if_neg h3]
    rw [hl]
    have hfin : ∀ (k : Nat), k < 5 → ∀ (o : Value) (w' : World), (o = .int .i64 0 ∧ ∃ cs, Blk w' b (setAt (cells.set k (.int .i64 n)) (5 + k * 3) cs) 48 ∧ tAn.rep w' (fun i => w.heap.size ≤ i) cs a) ∧ Keep (fun i => i = b) w w' → (o = .int .i64 0 ∧ ∃ cells', Blk w' b cells' 48 ∧ RfC w' (fun i => F i ∨ w.heap.size ≤ i) cells' (updS S k (n, a))) ∧ Keep (fun i => i = b) w w' := by
      rintro k hk o w' ⟨⟨h1, cs, h2, h3⟩, h4⟩
      refine ⟨⟨h1, _, h2, RfC.put ((HT1.keep h4 (fun i _ hi he => hF i hi he)).mono fun i _ h => .inl h) hk (tAn.mono h3 fun i _ h => .inr h)⟩, h4⟩
    obtain ⟨hc, _⟩ := mayC_rng h1
    have hc4 : c = 1 ∨ c = 2 ∨ c = 3 ∨ c = 4 := by omega
    rcases hc4 with rfl | rfl | rfl | rfl
    · exact CallsR.mono (refPut1_c HB1 HT1 HG1 h1 h2 h3 hG) (hfin 1 (by decide))
    · exact CallsR.mono (refPut2_c HB1 HT1 HG1 h1 h2 h3 hG) (hfin 2 (by decide))
    · exact CallsR.mono (refPut3_c HB1 HT1 HG1 h1 h2 h3 hG) (hfin 3 (by decide))
    · exact CallsR.mono (refPut4_c HB1 HT1 HG1 h1 h2 h3 hG) (hfin 4 (by decide))
  · refine CallsR.mono (refPut_no HB1 HT1 HG1 hno) fun o w' h => ⟨⟨h.1.1, cells, HB1.ext h.2, ?_⟩, Ext.keep h.2⟩
    rw [h.1.2]
    exact (HT1.ext h.2).mono fun i _ h => .inl h
end Go.Proofs.Ytlhanmlpionomaa

namespace Go.Proofs.Ytlhanmlpionomaa
open Go.Vc
set_option linter.unusedVariables false
set_option linter.unusedSimpArgs false
set_option maxRecDepth 100000

theorem All_c {w : World} {p : Option Addr} : CallsR Try.prog 45 #[.pointer p] w (fun o w' => ∃ b, b = w.heap.size ∧ o = .func (.func 66) #[] #[.pointer (some ⟨b, 0, none⟩)] ∧ Blk w' b [.pointer p] 25 ∧ w'.heap.size = b + 1 ∧ Ext w w') := by
  refine enter 4 Try.func45 rfl rfl (by simp) ?_
  refine c_seq ?_
  refine wp_reg (by decide +kernel) ?_
  refine l_to (to_box (show _ = (Value.pointer _) from rfl) ?_)
  rintro b1 w1 zb1 hb1 e1 z1
  have zs_e1 := e1.size
  refine l_v (v_assign rfl) ?_
  refine l_nil ?_
  refine n_then ?_
  refine c_seq ?_
  refine wp_reg (by decide +kernel) ?_
  refine l_v (v_makeFunc (by simp [ev]; rfl) (by simp [ev]; rfl)) ?_
  refine l_v (v_assign rfl) ?_
  refine l_nil ?_
  refine n_then ?_
  refine c_ret ?_
  refine ret1 rfl (by decide) ?_
  exact ⟨b1, zb1, rfl, hb1, z1, e1⟩
/-- going over the clients of a table -/
theorem tabAll_stops {w0 : World} {bc b bm : Nat} {F K : Nat → Prop} {S : TbS} (hok : TbOk S) (HB0 : Blk w0 bc [.pointer (some ⟨b, 0, none⟩)] 25) (HB1 : Blk w0 b [.map (some bm)] 65) (HT1 : TbI w0 F bm S) (hc : ¬ K bc) (hb : ¬ K b) (hm : ¬ K bm) (hF : ∀ i, F i → ¬ K i) :
    SeqStopsK Fence.wide 1 Try.prog 66 #[.pointer (some ⟨bc, 0, none⟩)] (fun x : Fin (ksS S).length => ([.int .i64 (ksS S)[x], .int .i64 (numS S (ksS S)[x])] : List Value).toArray) (Keep K) (fun ys => ys = List.finRange (ksS S).length) (fun pre => pre <+: List.finRange (ksS S).length) (ksS S).length w0 := by
  refine seq_mk (encs := fun x : Fin (ksS S).length => [.int .i64 (ksS S)[x], .int .i64 (numS S (ksS S)[x])]) fun l J Jx W hx hJ hJx hY h0 => ?_
  refine CallsR.mono (R := fun _ W' => J (List.finRange (ksS S).length) W' ∨ ∃ pre, pre <+: List.finRange (ksS S).length ∧ Jx pre W') ?_ fun _ _ h => h
  show CallsR _ _ (#[.func (.yield l) #[] #[], .pointer (some ⟨bc, 0, none⟩)]) W _
  obtain ⟨p, hp⟩ : ∃ p : Int → Bool, p = fun c => (S c).isSome := ⟨_, rfl⟩
  have hks : ksS S = ksP p := by rw [hp]; rfl
  refine enter 23 Try.func66 rfl rfl (by simp) ?_
  refine c_scope ?_
  refine c_seq ?_
  refine c_label ?_
  refine n_then ?_
  refine c_seq ?_
  refine wp_reg (by decide +kernel) ?_
  refine l_v (v_assign rfl) ?_
  refine l_nil ?_
  refine n_then ?_
  refine c_block ?_
  refine c_loop (τ := Nat) [3, 4, 5, 6, 7, 8, 9, 10, 11, 12, 13, 14, 15, 16, 17, 18, 19, 20, 21, 22] (fun j => [(3, .int .i64 ((j : Int) + 1))]) (fun j w => j ≤ 4 ∧ Keep K w0 w ∧ J ((List.finRange (ksS S).length).take (idxK p j)) w) (fun j => 4 - j) 0 (by exact ⟨rfl, trivial⟩) (by exact ⟨Nat.zero_le _, hx.keep, by rw [show idxK p 0 = 0 from rfl, List.take_zero]; exact h0⟩) ?_
  rintro i w1 j ⟨h1, k1, hj⟩
  refine c_seq ?_
  refine c_seq ?_
  refine wp_reg (by decide +kernel) ?_
  refine l_v (v_move (t := .int _ _) rfl) ?_
  refine l_v (v_leq rfl rfl) ?_
  refine l_nil ?_
  refine n_then ?_
  refine c_cond rfl rfl (fun hlt => ?_) (fun hlt => ?_)
  · skip
    have hlt : i < 4 := by have := dtrue hlt; omega
    have h9 : (((i + 1 : Nat)) : Int) = (i : Int) + 1 := by omega
    refine c_skip ?_
    refine n_then ?_
    refine c_seq ?_
    refine c_block ?_
    refine c_seq ?_
    refine wp_reg (by decide +kernel) ?_
    refine l_v (v_load (by kernel_rfl) rfl ((HB0.keep k1 hc).cell rfl)) ?_
    refine l_v (v_move (t := .int _ _) rfl) ?_
    refine l_to (to_f2 (by kernel_rfl) (show _ = (Value.pointer _) from rfl) (show _ = (Value.int _ _) from rfl) (CallsR.mono (Last_c (HB1.keep k1 hb) (HT1.keep k1 (fun i _ h => h.elim (fun h => hF i h) (fun h => h ▸ hm))) hok) ?_))
    rintro _ w2 ⟨rfl, e2⟩
    have zs_e2 := e2.size
    have hps : (S ((i : Int) + 1)).isSome = p ((i : Int) + 1) := by rw [hp]
    refine l_v (v_move (t := .tuple _) rfl) ?_
    refine l_v (v_extract (t := .int _ _) rfl rfl) ?_
    refine l_v (v_extract (t := .bool _) rfl rfl) ?_
    refine l_v (v_assign (t := .int _ _) rfl) ?_
    refine l_v (v_assign (t := .bool _) rfl) ?_
    refine l_nil ?_
    refine n_then ?_
    refine c_seq ?_
    refine c_seq ?_
    refine wp_reg (by decide +kernel) ?_
    refine l_v (v_move (t := .bool _) rfl) ?_
    refine l_v (v_not rfl) ?_
    refine l_nil ?_
    refine n_then ?_
    refine c_cond rfl rfl (fun hq => ?_) (fun hq => ?_)
    · skip
      have hq2 : p ((i : Int) + 1) = false := by rw [← hps]; simpa using hq
      refine c_exit ?_
      refine x_then ?_
      refine x_hit ?_
      refine n_then ?_
      refine wp_reg (by decide +kernel) ?_
      refine l_v (v_move (t := .int _ _) rfl) ?_
      refine l_v (v_add rfl rfl (by first | exact wr_i64 (by omega) (by omega) | rfl)) ?_
      refine l_v (v_assign (t := .int _ _) rfl) ?_
      refine l_nil ?_
      refine n_then ?_
      refine ⟨i + 1, _, rfl, by (repeat (first | exact Off.of_over _ _ _ | refine Off.upd ?_ (by decide) _ | refine Off.overs ?_ (by decide) _)), ⟨by first | rfl | exact congrArg (Value.int _) (by omega) | (simp; done), trivial⟩, ?_, ?_⟩
      · exact ⟨by omega, k1.trans (Ext.keep e2), by rw [idxK_no hlt hq2]; exact hJ _ _ _ e2 hj⟩
      · dsimp only; omega
    · skip
      have hq2 : p ((i : Int) + 1) = true := by rw [← hps]; simpa using hq
      obtain ⟨hk1, hk2⟩ := idxK_yes hlt hq2
      rw [← hks] at hk1
      have hkl := (List.getElem?_eq_some_iff.1 hk1).1
      have hkv : (ksS S)[(⟨idxK p i, hkl⟩ : Fin (ksS S).length)] = (i : Int) + 1 := (List.getElem?_eq_some_iff.1 hk1).2
      have hY2 := hY ((List.finRange (ksS S).length).take (idxK p i)) ⟨idxK p i, hkl⟩ w2 (hJ _ _ _ e2 hj) (by simp; omega)
      simp only [hkv] at hY2
      refine c_skip ?_
      refine n_then ?_
      refine c_seq ?_
      refine wp_reg (by decide +kernel) ?_
      refine l_v (v_move (t := .func _ _ _) rfl) ?_
      refine l_v (v_move (t := .int _ _) rfl) ?_
      refine l_v (v_move (t := .int _ _) rfl) ?_
      refine l_to (to_yield2 rfl (show _ = (Value.int _ _) from rfl) (show _ = (Value.int _ _) from rfl) (YieldAt.mono (hY2) ?_))
      rintro en w4 ⟨v, rfl, hv⟩
      refine ⟨v, rfl, ?_⟩
      obtain ⟨bb, rfl, hb1, hb2⟩ := yb hv
      refine l_v (v_not rfl) ?_
      refine l_nil ?_
      refine n_then ?_
      refine c_cond rfl rfl (fun hcc => ?_) (fun hcc => ?_)
      · skip
        refine c_ret ?_
        refine r_blk ?_
        refine r_then ?_
        refine r_then ?_
        refine r_blk ?_
        refine r_scp ?_
        refine ret0 rfl ?_
        obtain rfl : bb = false := by cases bb <;> simp_all
        exact .inr ⟨_, by rw [← finRange_take hkl]; exact List.take_prefix _ _, hb2 rfl⟩
      · skip
        obtain rfl : bb = true := by cases bb <;> simp_all
        obtain ⟨hj4, k4⟩ := hb1 rfl
        refine c_skip ?_
        refine n_blk ?_
        refine n_then ?_
        refine wp_reg (by decide +kernel) ?_
        refine l_v (v_move (t := .int _ _) rfl) ?_
        refine l_v (v_add rfl rfl (by first | exact wr_i64 (by omega) (by omega) | rfl)) ?_
        refine l_v (v_assign (t := .int _ _) rfl) ?_
        refine l_nil ?_
        refine n_then ?_
        refine ⟨i + 1, _, rfl, by (repeat (first | exact Off.of_over _ _ _ | refine Off.upd ?_ (by decide) _ | refine Off.overs ?_ (by decide) _)), ⟨by first | rfl | exact congrArg (Value.int _) (by omega) | (simp; done), trivial⟩, ?_, ?_⟩
        · exact ⟨by omega, k1.trans ((Ext.keep e2).trans k4), by rw [hk2, finRange_take hkl]; exact hj4⟩
        · dsimp only; omega
  · skip
    refine c_exit ?_
    refine x_then ?_
    refine x_then ?_
    refine x_hit ?_
    refine n_scp ?_
    refine end0 rfl ?_
    have hi : i = 4 := by have := dfalse hlt; omega
    subst hi
    rw [idxK_all, ← hks, finRange_all (Nat.le_refl _)] at hj
    exact .inl hj
end Go.Proofs.Ytlhanmlpionomaa
