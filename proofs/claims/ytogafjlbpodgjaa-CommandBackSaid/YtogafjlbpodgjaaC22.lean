/- A part of the proof: steps and lemmas for the walks through the given program. -/
import Derived.Test.YtogafjlbpodgjaaCe
namespace Go.Proofs.Ytogafjlbpodgjaa
open Go.Vc
set_option linter.unusedVariables false
set_option linter.unusedSimpArgs false
set_option maxRecDepth 100000
theorem wBy_len {l : List UInt8} {k : Nat} (h : l.length < 128 ^ (k + 1)) : (wBytes l).length ≤ l.length + (k + 1) := by
  have := wNum_len k l.length h
  rw [wBytes, List.length_append]; omega
theorem spI_len {e : IkV} (h : mayIk e = true) : (spI e).length ≤ e.1.length + e.2.2.2.length + 13 := by
  obtain ⟨key, seq, kind, val⟩ := e
  simp only [mayIk, Bool.and_eq_true, decide_eq_true_eq, Bool.or_eq_true] at h
  obtain ⟨⟨⟨⟨⟨h1, h2⟩, h3⟩, h4⟩, h5⟩, h6⟩ := h
  have b1 := wBy_len (l := key) (k := 0) (by simp; omega)
  have b2 := wBy_len (l := val) (k := 2) (by simp; omega)
  have b3 := wNum_len 4 seq.toNat (by simp; omega)
  have hk : kind.toNat ≤ 2 := by rcases h6 with h6 | ⟨h6, _⟩ <;> omega
  have b4 := wNum_len 0 kind.toNat (by simp; omega)
  have b5 : (ikW (key, seq, kind, val)).length ≤ key.length + val.length + 10 := by
    simp only [ikW, List.length_append]
    split
    · omega
    · simp only [List.length_nil]; omega
  have b6 := wBy_len (l := ikW (key, seq, kind, val)) (k := 2) (by simp; omega)
  simp only [spI]; omega
theorem lsW_len {l : List IkV} (h : ∀ e ∈ l, mayIk e = true) : ((l.map spI).flatten).length ≤ 7 * (sumI l).toNat ∧ (l.length : Int) ≤ sumI l := by
  induction l with
  | nil => simp [sumI]
  | cons e k ih =>
    have i1 := ih (fun x hx => h x (List.mem_cons_of_mem _ hx))
    have i2 := spI_len (h e List.mem_cons_self)
    have i3 := sumI_nn k
    have i4 : 1 ≤ e.1.length := by
      have := h e List.mem_cons_self
      obtain ⟨key, seq, kind, val⟩ := e
      simp only [mayIk, Bool.and_eq_true, decide_eq_true_eq] at this
      exact this.1.1.1.1.1
    simp only [List.map_cons, List.flatten_cons, List.length_append, List.length_cons, sumI] at i1 ⊢
    omega
theorem cmW_len {c : CmV} (hm : mayCm c = true) (hs : sumI c.2.2.2.1 ≤ 60000) : (cmW c).length ≤ 1000000 := by
  obtain ⟨k, rq, mv, en, an, key, g⟩ := c
  obtain ⟨m1, m2, mrq, mmv, min, mke, mgr⟩ := mayCm_k hm
  have q1 := wNum_len10 (n := k.toNat) (by omega)
  simp only [cmW, List.length_append]
  split
  · rename_i h
    have hr := mrq h
    simp only [mayRq, nmB, Bool.and_eq_true, decide_eq_true_eq] at hr
    have q2 := wNum_len10 (n := rq.1.toNat) (by omega)
    have q3 := wNum_len10 (n := rq.2.1.toNat) (by omega)
    have q4 := akW_le hr.2
    simp only [List.length_append]; omega
  · split
    · rename_i h
      have := mvW_le (mmv h); omega
    · split
      · rename_i h
        obtain ⟨hmv, hem, hel, han⟩ := min h
        have q2 := mvW_le hmv
        obtain ⟨q3, q4⟩ := lsW_len (risE_may hem)
        have q5 := wNum_len10 (n := en.length) (by omega)
        have q6 : (wList spI en).length ≤ 420010 := by rw [wList, List.length_append]; simp only at hs; omega
        have q7 := wBy_le (l := wList spI en) (by omega)
        have q8 := wBy_le (l := an) (by omega)
        simp only [List.length_append]; omega
      · split
        · rename_i h
          have := wBy_le (l := key) (by have := mke h; omega); have := mke h; omega
        · split
          · rename_i h
            have h2 := mgr h
            have := wBy_le (l := key) (by omega)
            have := wNum_len10 (n := g.toNat) (by omega)
            simp only [List.length_append]; omega
          · simp only [List.length_nil]; omega
/-- what Bytes answers, whatever the command -/
theorem CBytes_any {w : World} {F : Nat → Prop} {v : Value} {c : CmV} (HG0 : AgV tCm w F v c) : CallsR Try.prog 20 #[v] w (fun o w' => (∃ a y d f, o = .tuple #[.slice a (List.length y) d, .int .i64 f] ∧ Bv w' (fun i => w.heap.size ≤ i) (.slice a (List.length y) d) y ∧ ((mayCm c = true ∧ f = 0 ∧ y = cmW c) ∨ (mayCm c = false ∧ f = 2 ∧ y = []))) ∧ Ext w w') := by
  by_cases hm : mayCm c = true
  · exact CallsR.mono (CBytes_t HG0 hm) fun o w' ⟨⟨q, d, ho, h⟩, e⟩ => ⟨⟨_, _, d, 0, ho, h, .inl ⟨hm, rfl, rfl⟩⟩, e⟩
  · have hm : mayCm c = false := by simpa using hm
    exact CallsR.mono (CBytes_f HG0 hm) fun o w' ⟨ho, e⟩ => ⟨⟨none, [], 0, 2, ho, SlV.nil _ _ _, .inr ⟨hm, rfl, rfl⟩⟩, e⟩
theorem CRead_any {w : World} {F : Nat → Prop} {v : Value} {l : List UInt8} (HS1 : Bv w F v l) (hl : l.length ≤ 1000000) : CallsR Try.prog 19 #[v] w (fun o w' => (∃ u c e, o = .tuple #[u, .int .i64 e] ∧ AgV tCm w' (fun i => w.heap.size ≤ i) u c ∧ ((e = 0 ∧ rdAll l = some c) ∨ (e = 4 ∧ c = cmZ ∧ rdAll l = none))) ∧ Ext w w') :=
  CallsR.mono (CRead_c HS1 hl) fun o w' ⟨⟨u, c, e, ho, HG, h⟩, e1⟩ => ⟨⟨u, c, e, ho, HG.imp imp_cm, h⟩, e1⟩
theorem CSame_k {w : World} {F G : Nat → Prop} {v u : Value} {a b : CmV} {t : Bool} (HG1 : AgV tCm w F v a) (HG2 : AgV tCm w G u b) (hb : decide (a = b) = t) : CallsR Try.prog 17 #[v, u] w (fun o w' => o = .bool t ∧ Ext w w') := by subst hb; exact CSame_c HG1 HG2
theorem refCSame_k {w : World} {F G : Nat → Prop} {v u : Value} {a b : CmV} {t : Bool} (HG1 : AgV tCm w F v a) (HG2 : AgV tCm w G u b) (hb : decide (a = b) = t) : CallsR Try.prog 18 #[v, u] w (fun o w' => o = .bool t ∧ Ext w w') := by subst hb; exact refCSame_c HG1 HG2
theorem back_ok {l y : List UInt8} {c : CmV} {e f : Int} (h1 : (e = 0 ∧ rdAll l = some c) ∨ (e = 4 ∧ c = cmZ ∧ rdAll l = none)) (h2 : (mayCm c = true ∧ f = 0 ∧ y = cmW c) ∨ (mayCm c = false ∧ f = 2 ∧ y = [])) (he : e = 0) : f = 0 ∧ y = l := by
  rcases h1 with ⟨_, h⟩ | ⟨h, _⟩
  · obtain ⟨h3, h4⟩ := rdAll_ok h
    rcases h2 with ⟨_, h5, h6⟩ | ⟨h5, _⟩
    · exact ⟨h5, h6.trans h4⟩
    · rw [h3] at h5; cases h5
  · omega
theorem _root_.Go.Vc.AgV.cm20 {w : World} {F : Nat → Prop} {v : Value} {c : CmV} (h : AgV tCm w F v c) : ∃ x0 x1 x2 x3 x4 x5 x6 x7 x8 x9 x10 x11 x12 x13 x14 x15 x16 x17 x18 x19 : Value, v = .agg #[x0, x1, x2, x3, x4, x5, x6, x7, x8, x9, x10, x11, x12, x13, x14, x15, x16, x17, x18, x19] := by
  obtain ⟨k, rq, mv, en, an, key, g⟩ := c
  obtain ⟨a1, c1, a2, c2, a3, c3, a4, c4, a5, c5, a6, c6, a7, c7, a8, c8, a9, c9, rfl, _⟩ := h.cm
  exact ⟨_, _, _, _, _, _, _, _, _, _, _, _, _, _, _, _, _, _, _, _, rfl⟩
set_option maxHeartbeats 8000000 in
theorem CommandBack_c {w : World} {F G H : Nat → Prop} {v u s : Value} {a b : CmV} {l : List UInt8} (HG1 : AgV tCm w F v a) (HG2 : AgV tCm w G u b) (HS1 : Bv w H s l) : CallsR Try.prog 5 #[v, u, s] w (fun o w' => o = .bool true ∧ Ext w w') := by
 obtain ⟨a0, c0, rfl⟩ := HS1.shape
 obtain ⟨x0, x1, x2, x3, x4, x5, x6, x7, x8, x9, x10, x11, x12, x13, x14, x15, x16, x17, x18, x19, rfl⟩ := HG1.cm20
 obtain ⟨y0, y1, y2, y3, y4, y5, y6, y7, y8, y9, y10, y11, y12, y13, y14, y15, y16, y17, y18, y19, rfl⟩ := HG2.cm20
 refine enter 103 Try.func5 rfl rfl (by simp) ?_
 refine c_seq ?_
 have E := Keep.refl (K := NoK) w
 replace HG1 := HG1.all
 replace HG2 := HG2.all
 replace HS1 := HS1.all
 refine wp_reg (by decide +kernel) ?_
 refine l_to (to_box (show _ = (Value.agg _) from rfl) ?_)
 rintro b3 w3 zb3 HB3 e3 z3
 have zs_e3 := e3.size
 replace E := E.trans (Ext.keep e3)
 replace HG1 := HG1.ext e3
 replace HG2 := HG2.ext e3
 replace HS1 := HS1.ext e3
 try simp only [Value.cells] at HB3
 refine l_to (to_box (show _ = (Value.agg _) from rfl) ?_)
 rintro b4 w4 zb4 HB4 e4 z4
 have zs_e4 := e4.size
 replace E := E.trans (Ext.keep e4)
 replace HG1 := HG1.ext e4
 replace HG2 := HG2.ext e4
 replace HS1 := HS1.ext e4
 replace HB3 := HB3.ext e4
 try simp only [Value.cells] at HB4
 refine l_v (v_assign rfl) ?_
 refine l_nil ?_
 refine n_then ?_
 refine c_seq ?_
 refine c_seq ?_
 refine wp_reg (by decide +kernel) ?_
 refine l_to (to_f0 (by kernel_rfl) (CallsR.mono (known_c) ?_))
 rintro _ w101 ⟨rfl, e101⟩
 have zs_e101 := e101.size
 replace E := E.trans (Ext.keep e101)
 replace HG1 := HG1.ext e101
 replace HG2 := HG2.ext e101
 replace HS1 := HS1.ext e101
 replace HB3 := HB3.ext e101
 replace HB4 := HB4.ext e101
 refine l_v (v_not rfl) ?_
 refine l_nil ?_
 refine n_then ?_
 refine c_cond rfl rfl (fun hk => ?_) (fun hk => ?_)
 ·
  cases hk
 ·
  refine c_skip ?_
  refine n_then ?_
  refine c_seq ?_
  refine c_seq ?_
  refine wp_reg (by decide +kernel) ?_
  refine l_v (v_move (t := .slice _ _ _) rfl) ?_
  refine l_v (v_len (et := 5) (by kernel_rfl) rfl) ?_
  refine l_v (v_leq rfl rfl) ?_
  refine l_nil ?_
  refine n_then ?_
  refine c_cond rfl rfl (fun hl => ?_) (fun hl => ?_)
  ·
   have hl := dtrue hl
   refine c_seq ?_
   refine wp_reg (by decide +kernel) ?_
   refine l_v (v_move (t := .slice _ _ _) rfl) ?_
   refine l_to (to_f1 (by kernel_rfl) (show _ = (Value.slice _ _ _) from rfl) (CallsR.mono (CRead_any HS1 (by omega)) ?_))
   rintro _ w10 ⟨⟨u10, x10, r10, rfl, HG10, h10⟩, e10⟩
   have zs_e10 := e10.size
   replace HG10 := HG10.all
   obtain ⟨k10, rq10, mv10, en10, an10, ke10, g10⟩ := x10
   obtain ⟨a10x0, c10x0, a10x1, c10x1, a10x2, c10x2, a10x3, c10x3, a10x4, c10x4, a10x5, c10x5, a10x6, c10x6, a10x7, c10x7, a10x8, c10x8, hu10, _⟩ := HG10.cm
   subst hu10
   replace E := E.trans (Ext.keep e10)
   replace HG1 := HG1.ext e10
   replace HG2 := HG2.ext e10
   replace HS1 := HS1.ext e10
   replace HB3 := HB3.ext e10
   replace HB4 := HB4.ext e10
   refine l_v (v_move (t := .tuple _) rfl) ?_
   refine l_v (v_extract (t := .agg _) rfl rfl) ?_
   refine l_v (v_extract (t := .int _ _) rfl rfl) ?_
   refine l_to (to_alloc (z := (.agg #[.int .i64 0, .int .i64 0, .int .i64 0, .int .i64 0, .slice none 0 0, .slice none 0 0, .slice none 0 0, .slice none 0 0, .bool false, .int .i64 0, .int .i64 0, .slice none 0 0, .slice none 0 0, .bool false, .int .i64 0, .int .i64 0, .slice none 0 0, .slice none 0 0, .slice none 0 0, .int .i64 0])) (by unfold kZero; kernel_rfl) ?_)
   rintro b11 w11 zb11 HB11 e11 z11
   have zs_e11 := e11.size
   replace E := E.trans (Ext.keep e11)
   replace HG1 := HG1.ext e11
   replace HG2 := HG2.ext e11
   replace HS1 := HS1.ext e11
   replace HB3 := HB3.ext e11
   replace HB4 := HB4.ext e11
   replace HG10 := HG10.ext e11
   try simp only [Value.cells] at HB11
   refine l_to (to_storeA (n := 20) rfl rfl (show _ = (Value.agg _) from rfl) (by kernel_rfl) rfl (by first | (simp [slice_one]; done) | (simp only [List.forall_mem_cons, List.cons_append, List.nil_append]; repeat' (first | exact rfl | apply And.intro | (intro u hu; cases hu; done)))) HB11 dj5 ?_)
   rintro w12 HB11 k12 z12
   have zs_k12 := k12.size
   try simp only [List.set_cons_zero, List.set_cons_succ, setAt, List.take_zero, List.take_succ_cons, List.drop_zero, List.drop_succ_cons, List.nil_append, List.cons_append, List.append_nil, List.length_cons, List.length_nil] at HB11
   replace E := E.step k12 dj3
   replace HG1 := HG1.keep k12 dj1
   replace HG2 := HG2.keep k12 dj1
   replace HS1 := HS1.keep k12 dj1
   replace HB3 := HB3.keep k12 dj4
   replace HB4 := HB4.keep k12 dj4
   replace HG10 := HG10.keep k12 dj1
   refine l_v (v_assign (t := .int _ _) rfl) ?_
   refine l_nil ?_
   refine n_then ?_
   refine c_seq ?_
   refine wp_reg (by decide +kernel) ?_
   refine l_v (v_loadA (by kernel_rfl) rfl (by first | exact HB11.pv | exact HB4.pv | exact HB3.pv | assumption) rfl) ?_
   refine l_to (to_f1 (by kernel_rfl) (show _ = (Value.agg _) from rfl) (CallsR.mono (CBytes_any HG10) ?_))
   rintro _ w13 ⟨⟨a13, y13, d13, f13, rfl, HS13, h13⟩, e13⟩
   have zs_e13 := e13.size
   replace HS13 := HS13.all
   replace E := E.trans (Ext.keep e13)
   replace HG1 := HG1.ext e13
   replace HG2 := HG2.ext e13
   replace HS1 := HS1.ext e13
   replace HB3 := HB3.ext e13
   replace HB4 := HB4.ext e13
   replace HG10 := HG10.ext e13
   replace HB11 := HB11.ext e13
   refine l_v (v_move (t := .tuple _) rfl) ?_
   refine l_v (v_extract (t := .slice _ _ _) rfl rfl) ?_
   refine l_v (v_extract (t := .int _ _) rfl rfl) ?_
   refine l_v (v_assign (t := .slice _ _ _) rfl) ?_
   refine l_v (v_assign (t := .int _ _) rfl) ?_
   refine l_nil ?_
   refine n_then ?_
   refine c_seq ?_
   refine wp_reg (by decide +kernel) ?_
   refine l_v (v_move (t := .int _ _) rfl) ?_
   refine l_to (to_f1 (by kernel_rfl) (show _ = (Value.int _ _) from rfl) (CallsR.mono (num_c) ?_))
   rintro _ w102 ⟨rfl, e102⟩
   have zs_e102 := e102.size
   replace E := E.trans (Ext.keep e102)
   replace HG1 := HG1.ext e102
   replace HG2 := HG2.ext e102
   replace HS1 := HS1.ext e102
   replace HB3 := HB3.ext e102
   replace HB4 := HB4.ext e102
   replace HG10 := HG10.ext e102
   replace HB11 := HB11.ext e102
   replace HS13 := HS13.ext e102
   refine l_v (v_eql rfl rfl) ?_
   refine l_v (v_move (t := .bool _) rfl) ?_
   refine l_g1 rfl rfl (fun hG => v_move (t := .int _ _) rfl) ?_
   refine l_g1f rfl rfl (fun hG => to_f1 (by kernel_rfl) (gd hG rfl) (num_c)) ?_
   rintro w103 e103
   have zs_e103 := e103.size
   replace E := E.trans (Ext.keep e103)
   replace HG1 := HG1.ext e103
   replace HG2 := HG2.ext e103
   replace HS1 := HS1.ext e103
   replace HB3 := HB3.ext e103
   replace HB4 := HB4.ext e103
   replace HG10 := HG10.ext e103
   replace HB11 := HB11.ext e103
   replace HS13 := HS13.ext e103
   refine l_g1 rfl rfl (fun hG => v_neq (gd hG rfl) rfl) ?_
   refine l_g1 rfl rfl (fun hG => v_move (t := .bool _) (gd hG rfl)) ?_
   refine l_g2 rfl rfl (fun hG => v_move (t := .slice _ _ _) rfl) ?_
   refine l_g2 rfl rfl (fun hG => v_b2s (et := 5) (by kernel_rfl) (by kernel_rfl) (by kernel_rfl) (gd hG rfl) HS13) ?_
   refine l_g2 rfl rfl (fun hG => v_move (t := .slice _ _ _) rfl) ?_
   refine l_g2 rfl rfl (fun hG => v_b2s (et := 5) (by kernel_rfl) (by kernel_rfl) (by kernel_rfl) (gd hG rfl) HS1) ?_
   refine l_g2 rfl rfl (fun hG => v_sne (gd hG rfl) (gd hG rfl)) ?_
   refine l_g1 rfl rfl (fun hG => v_or (gd hG rfl) (gda hG rfl)) ?_
   refine l_v (v_and rfl rfl) ?_
   refine l_nil ?_
   refine n_then ?_
   refine c_cond rfl rfl (fun hbad => ?_) (fun hbad => ?_)
   ·
    refine c_seq ?_
    refine wp_reg (by decide +kernel) ?_
    refine l_v (v_assign rfl) ?_
    refine l_nil ?_
    refine n_then ?_
    refine c_ret ?_
    refine r_then ?_
    refine ret1v rfl (by decide) (show _ = (Value.bool _) from rfl) ?_
    exfalso
    simp only [Bool.and_eq_true, decide_eq_true_eq, Bool.or_eq_true, bne_iff_ne] at hbad
    obtain ⟨h1, h2⟩ := back_ok h10 h13 (by simpa using hbad.1)
    simp [h1, h2] at hbad
   ·
    refine c_skip ?_
    refine n_then ?_
    refine c_seq ?_
    refine c_seq ?_
    refine wp_reg (by decide +kernel) ?_
    refine l_v (v_loadA (by kernel_rfl) rfl (by first | exact HB11.pv | exact HB4.pv | exact HB3.pv | assumption) rfl) ?_
    refine l_to (to_f2 (by kernel_rfl) (show _ = (Value.agg _) from rfl) (show _ = (Value.int _ _) from rfl) (CallsR.mono (Long_c (m := 60000) HG1 (by decide) (by decide)) ?_))
    rintro _ w104 ⟨rfl, e104⟩
    have zs_e104 := e104.size
    replace E := E.trans (Ext.keep e104)
    replace HG1 := HG1.ext e104
    replace HG2 := HG2.ext e104
    replace HS1 := HS1.ext e104
    replace HB3 := HB3.ext e104
    replace HB4 := HB4.ext e104
    replace HG10 := HG10.ext e104
    replace HB11 := HB11.ext e104
    replace HS13 := HS13.ext e104
    refine l_v (v_move (t := .bool _) rfl) ?_
    refine l_g1 rfl rfl (fun hG => v_loadA (by kernel_rfl) rfl (by first | exact HB11.pv | exact HB4.pv | exact HB3.pv | assumption) rfl) ?_
    refine l_g1f rfl rfl (fun hG => to_f2 (by kernel_rfl) (gd hG rfl) (show _ = (Value.int _ _) from rfl) (Long_c (m := 60000) HG2 (by decide) (by decide))) ?_
    rintro w105 e105
    have zs_e105 := e105.size
    replace E := E.trans (Ext.keep e105)
    replace HG1 := HG1.ext e105
    replace HG2 := HG2.ext e105
    replace HS1 := HS1.ext e105
    replace HB3 := HB3.ext e105
    replace HB4 := HB4.ext e105
    replace HG10 := HG10.ext e105
    replace HB11 := HB11.ext e105
    replace HS13 := HS13.ext e105
    refine l_v (v_or rfl rfl) ?_
    refine l_nil ?_
    refine n_then ?_
    refine c_cond rfl rfl (fun hlong => ?_) (fun hlong => ?_)
    ·
     refine c_seq ?_
     refine wp_reg (by decide +kernel) ?_
     refine l_v (v_assign rfl) ?_
     refine l_nil ?_
     refine n_then ?_
     refine c_ret ?_
     refine r_then ?_
     refine ret1v rfl (by decide) (show _ = (Value.bool _) from rfl) ?_
     exact ⟨rfl, E⟩
    ·
     simp only [Bool.or_eq_false_iff] at hlong
     have hsum := longC_sum (by decide) hlong.1
     refine c_skip ?_
     refine n_then ?_
     refine c_seq ?_
     refine wp_reg (by decide +kernel) ?_
     refine l_v (v_loadA (by kernel_rfl) rfl (by first | exact HB11.pv | exact HB4.pv | exact HB3.pv | assumption) rfl) ?_
     refine l_to (to_f1 (by kernel_rfl) (show _ = (Value.agg _) from rfl) (CallsR.mono (CBytes_any HG1) ?_))
     rintro _ w30 ⟨⟨a30, y30, d30, f30, rfl, HS30, h30⟩, e30⟩
     have zs_e30 := e30.size
     replace HS30 := HS30.all
     replace E := E.trans (Ext.keep e30)
     replace HG1 := HG1.ext e30
     replace HG2 := HG2.ext e30
     replace HS1 := HS1.ext e30
     replace HB3 := HB3.ext e30
     replace HB4 := HB4.ext e30
     replace HG10 := HG10.ext e30
     replace HB11 := HB11.ext e30
     replace HS13 := HS13.ext e30
     refine l_v (v_move (t := .tuple _) rfl) ?_
     refine l_v (v_extract (t := .slice _ _ _) rfl rfl) ?_
     refine l_v (v_extract (t := .int _ _) rfl rfl) ?_
     refine l_v (v_assign (t := .slice _ _ _) rfl) ?_
     refine l_v (v_assign (t := .int _ _) rfl) ?_
     refine l_nil ?_
     refine n_then ?_
     refine c_seq ?_
     refine wp_reg (by decide +kernel) ?_
     refine l_v (v_loadA (by kernel_rfl) rfl (by first | exact HB11.pv | exact HB4.pv | exact HB3.pv | assumption) rfl) ?_
     refine l_to (to_f1 (by kernel_rfl) (show _ = (Value.agg _) from rfl) (CallsR.mono (CBytes_any HG2) ?_))
     rintro _ w31 ⟨⟨a31, y31, d31, f31, rfl, HS31, h31⟩, e31⟩
     have zs_e31 := e31.size
     replace HS31 := HS31.all
     replace E := E.trans (Ext.keep e31)
     replace HG1 := HG1.ext e31
     replace HG2 := HG2.ext e31
     replace HS1 := HS1.ext e31
     replace HB3 := HB3.ext e31
     replace HB4 := HB4.ext e31
     replace HG10 := HG10.ext e31
     replace HB11 := HB11.ext e31
     replace HS13 := HS13.ext e31
     replace HS30 := HS30.ext e31
     refine l_v (v_move (t := .tuple _) rfl) ?_
     refine l_v (v_extract (t := .slice _ _ _) rfl rfl) ?_
     refine l_v (v_extract (t := .int _ _) rfl rfl) ?_
     refine l_v (v_assign (t := .slice _ _ _) rfl) ?_
     refine l_v (v_assign (t := .int _ _) rfl) ?_
     refine l_nil ?_
     refine n_then ?_
     refine c_seq ?_
     refine c_seq ?_
     refine wp_reg (by decide +kernel) ?_
     refine l_v (v_move (t := .int _ _) rfl) ?_
     refine l_to (to_f1 (by kernel_rfl) (show _ = (Value.int _ _) from rfl) (CallsR.mono (num_c) ?_))
     rintro _ w106 ⟨rfl, e106⟩
     have zs_e106 := e106.size
     replace E := E.trans (Ext.keep e106)
     replace HG1 := HG1.ext e106
     replace HG2 := HG2.ext e106
     replace HS1 := HS1.ext e106
     replace HB3 := HB3.ext e106
     replace HB4 := HB4.ext e106
     replace HG10 := HG10.ext e106
     replace HB11 := HB11.ext e106
     replace HS13 := HS13.ext e106
     replace HS30 := HS30.ext e106
     replace HS31 := HS31.ext e106
     refine l_v (v_neq rfl rfl) ?_
     refine l_nil ?_
     refine n_then ?_
     refine c_cond rfl rfl (fun hne => ?_) (fun hne => ?_)
     ·
      refine c_seq ?_
      refine wp_reg (by decide +kernel) ?_
      refine l_v (v_move (t := .int _ _) rfl) ?_
      refine l_to (to_f1 (by kernel_rfl) (show _ = (Value.int _ _) from rfl) (CallsR.mono (num_c) ?_))
      rintro _ w107 ⟨rfl, e107⟩
      have zs_e107 := e107.size
      replace E := E.trans (Ext.keep e107)
      replace HG1 := HG1.ext e107
      replace HG2 := HG2.ext e107
      replace HS1 := HS1.ext e107
      replace HB3 := HB3.ext e107
      replace HB4 := HB4.ext e107
      replace HG10 := HG10.ext e107
      replace HB11 := HB11.ext e107
      replace HS13 := HS13.ext e107
      replace HS30 := HS30.ext e107
      replace HS31 := HS31.ext e107
      refine l_v (v_eql rfl rfl) ?_
      refine l_v (v_move (t := .bool _) rfl) ?_
      refine l_g1 rfl rfl (fun hG => v_loadA (by kernel_rfl) rfl (by first | exact HB11.pv | exact HB4.pv | exact HB3.pv | assumption) rfl) ?_
      refine l_g1f rfl rfl (fun hG => to_f1 (by kernel_rfl) (gd hG rfl) (CMay_c HG1)) ?_
      rintro w108 e108
      have zs_e108 := e108.size
      replace E := E.trans (Ext.keep e108)
      replace HG1 := HG1.ext e108
      replace HG2 := HG2.ext e108
      replace HS1 := HS1.ext e108
      replace HB3 := HB3.ext e108
      replace HB4 := HB4.ext e108
      replace HG10 := HG10.ext e108
      replace HB11 := HB11.ext e108
      replace HS13 := HS13.ext e108
      replace HS30 := HS30.ext e108
      replace HS31 := HS31.ext e108
      refine l_g1 rfl rfl (fun hG => v_not (gd hG rfl)) ?_
      refine l_v (v_and rfl rfl) ?_
      refine l_v (v_assign (t := .bool _) rfl) ?_
      refine l_nil ?_
      refine n_then ?_
      refine c_ret ?_
      refine r_then ?_
      refine ret1v rfl (by decide) (show _ = (Value.bool _) from rfl) ?_
      refine ⟨?_, E⟩
      rcases h30 with ⟨_, h1, _⟩ | ⟨h0, h1, _⟩
      ·
       simp [h1] at hne
      ·
       simp [h0, h1]
     ·
      obtain ⟨hma, hfa, hya⟩ : mayCm a = true ∧ f30 = 0 ∧ y30 = cmW a := by
       rcases h30 with h | ⟨_, h1, _⟩
       ·
        exact h
       ·
        simp [h1] at hne
      have hlen : y30.length ≤ 1000000 := by rw [hya]; exact cmW_len hma hsum
      refine c_skip ?_
      refine n_then ?_
      refine c_seq ?_
      refine wp_reg (by decide +kernel) ?_
      refine l_v (v_move (t := .slice _ _ _) rfl) ?_
      refine l_to (to_f1 (by kernel_rfl) (show _ = (Value.slice _ _ _) from rfl) (CallsR.mono (CRead_any HS30 (hlen)) ?_))
      rintro _ w40 ⟨⟨u40, x40, r40, rfl, HG40, h40⟩, e40⟩
      have zs_e40 := e40.size
      replace HG40 := HG40.all
      obtain ⟨k40, rq40, mv40, en40, an40, ke40, g40⟩ := x40
      obtain ⟨a40x0, c40x0, a40x1, c40x1, a40x2, c40x2, a40x3, c40x3, a40x4, c40x4, a40x5, c40x5, a40x6, c40x6, a40x7, c40x7, a40x8, c40x8, hu40, _⟩ := HG40.cm
      subst hu40
      replace E := E.trans (Ext.keep e40)
      replace HG1 := HG1.ext e40
      replace HG2 := HG2.ext e40
      replace HS1 := HS1.ext e40
      replace HB3 := HB3.ext e40
      replace HB4 := HB4.ext e40
      replace HG10 := HG10.ext e40
      replace HB11 := HB11.ext e40
      replace HS13 := HS13.ext e40
      replace HS30 := HS30.ext e40
      replace HS31 := HS31.ext e40
      refine l_v (v_move (t := .tuple _) rfl) ?_
      refine l_v (v_extract (t := .agg _) rfl rfl) ?_
      refine l_v (v_extract (t := .int _ _) rfl rfl) ?_
      refine l_to (to_alloc (z := (.agg #[.int .i64 0, .int .i64 0, .int .i64 0, .int .i64 0, .slice none 0 0, .slice none 0 0, .slice none 0 0, .slice none 0 0, .bool false, .int .i64 0, .int .i64 0, .slice none 0 0, .slice none 0 0, .bool false, .int .i64 0, .int .i64 0, .slice none 0 0, .slice none 0 0, .slice none 0 0, .int .i64 0])) (by unfold kZero; kernel_rfl) ?_)
      rintro b41 w41 zb41 HB41 e41 z41
      have zs_e41 := e41.size
      replace E := E.trans (Ext.keep e41)
      replace HG1 := HG1.ext e41
      replace HG2 := HG2.ext e41
      replace HS1 := HS1.ext e41
      replace HB3 := HB3.ext e41
      replace HB4 := HB4.ext e41
      replace HG10 := HG10.ext e41
      replace HB11 := HB11.ext e41
      replace HS13 := HS13.ext e41
      replace HS30 := HS30.ext e41
      replace HS31 := HS31.ext e41
      replace HG40 := HG40.ext e41
      try simp only [Value.cells] at HB41
      refine l_to (to_storeA (n := 20) rfl rfl (show _ = (Value.agg _) from rfl) (by kernel_rfl) rfl (by first | (simp [slice_one]; done) | (simp only [List.forall_mem_cons, List.cons_append, List.nil_append]; repeat' (first | exact rfl | apply And.intro | (intro u hu; cases hu; done)))) HB41 dj5 ?_)
      rintro w42 HB41 k42 z42
      have zs_k42 := k42.size
      try simp only [List.set_cons_zero, List.set_cons_succ, setAt, List.take_zero, List.take_succ_cons, List.drop_zero, List.drop_succ_cons, List.nil_append, List.cons_append, List.append_nil, List.length_cons, List.length_nil] at HB41
      replace E := E.step k42 dj3
      replace HG1 := HG1.keep k42 dj1
      replace HG2 := HG2.keep k42 dj1
      replace HS1 := HS1.keep k42 dj1
      replace HB3 := HB3.keep k42 dj4
      replace HB4 := HB4.keep k42 dj4
      replace HG10 := HG10.keep k42 dj1
      replace HB11 := HB11.keep k42 dj4
      replace HS13 := HS13.keep k42 dj1
      replace HS30 := HS30.keep k42 dj1
      replace HS31 := HS31.keep k42 dj1
      replace HG40 := HG40.keep k42 dj1
      obtain ⟨hr0, hx0⟩ : r40 = 0 ∧ (k40, rq40, mv40, en40, an40, ke40, g40) = a := by
       have hb := rdAll_back hma
       rw [hya] at h40
       rcases h40 with ⟨h1, h2⟩ | ⟨_, _, h2⟩
       ·
        rw [hb] at h2; exact ⟨h1, (Option.some.inj h2).symm⟩
       ·
        rw [hb] at h2; cases h2
      refine l_v (v_assign (t := .int _ _) rfl) ?_
      refine l_nil ?_
      refine n_then ?_
      by_cases hmb : mayCm b = true
      ·
       obtain ⟨hfb, hyb⟩ : f31 = 0 ∧ y31 = cmW b := by
        rcases h31 with ⟨_, h⟩ | ⟨h1, _⟩
        ·
         exact h
        ·
         rw [hmb] at h1; cases h1
       by_cases hab : a = b
       ·
        refine c_seq ?_
        refine wp_regd (NoK) (by kernel_rfl) (by decide +kernel) (by decide +kernel) ?_
        refine rt_v (fun vals w hR hd => v_move (t := .int _ _) rfl) ?_
        refine rt_vf (fun vals w hR hd => to_f1 (by kernel_rfl) (hd 0 rfl) (num_c)) ?_
        refine rt_v (fun vals w hR hd => OpVat.as (b := true) (v_eql (hd 1 rfl) rfl) (by simp [hr0])) ?_
        refine rt_v (fun vals w hR hd => v_move (t := .bool _) (hd 2 rfl)) ?_
        refine rt_hv rfl (fun vals w hd => hd 3 rfl) (fun vals w hR hd => v_loadA (by kernel_rfl) rfl (by first | exact (HB41.ext hR).pv | exact (HB11.ext hR).pv | exact (HB4.ext hR).pv | exact (HB3.ext hR).pv | assumption) rfl) ?_
        refine rt_hv rfl (fun vals w hd => hd 3 rfl) (fun vals w hR hd => v_loadA (by kernel_rfl) rfl (by first | exact (HB41.ext hR).pv | exact (HB11.ext hR).pv | exact (HB4.ext hR).pv | exact (HB3.ext hR).pv | assumption) rfl) ?_
        refine rt_hvf rfl (fun vals w hd => hd 3 rfl) (fun vals w hR hd => to_f2 (by kernel_rfl) (hd 4 rfl) (hd 5 rfl) (refCSame_k (t := true) (HG40.ext hR) (HG1.ext hR) (decide_eq_true hx0))) ?_
        refine rt_v (fun vals w hR hd => v_andT (hd 3 rfl) (hd 6 rfl)) ?_
        refine rt_v (fun vals w hR hd => v_move (t := .bool _) (hd 7 rfl)) ?_
        refine rt_hv rfl (fun vals w hd => hd 8 rfl) (fun vals w hR hd => v_move (t := .int _ _) rfl) ?_
        refine rt_hvf rfl (fun vals w hd => hd 8 rfl) (fun vals w hR hd => to_f1 (by kernel_rfl) (hd 9 rfl) (num_c)) ?_
        refine rt_hv rfl (fun vals w hd => hd 8 rfl) (fun vals w hR hd => OpVat.as (b := false) (v_neq (hd 10 rfl) rfl) (by simp [hfb])) ?_
        refine rt_hv rfl (fun vals w hd => hd 8 rfl) (fun vals w hR hd => v_move (t := .bool _) (hd 11 rfl)) ?_
        refine rt_hv rfl (fun vals w hd => hd 12 rfl) (fun vals w hR hd => v_move (t := .slice _ _ _) rfl) ?_
        refine rt_hv rfl (fun vals w hd => hd 12 rfl) (fun vals w hR hd => v_b2s (et := 5) (by kernel_rfl) (by kernel_rfl) (by kernel_rfl) (hd 13 rfl) (HS30.ext hR)) ?_
        refine rt_hv rfl (fun vals w hd => hd 12 rfl) (fun vals w hR hd => v_move (t := .slice _ _ _) rfl) ?_
        refine rt_hv rfl (fun vals w hd => hd 12 rfl) (fun vals w hR hd => v_b2s (et := 5) (by kernel_rfl) (by kernel_rfl) (by kernel_rfl) (hd 15 rfl) (HS31.ext hR)) ?_
        refine rt_hv rfl (fun vals w hd => hd 12 rfl) (fun vals w hR hd => OpVat.as (b := true) (v_seq (hd 14 rfl) (hd 16 rfl)) (decide_eq_true (by rw [hya, hyb, hab]))) ?_
        refine rt_hv rfl (fun vals w hd => hd 12 rfl) (fun vals w hR hd => v_loadA (by kernel_rfl) rfl (by first | exact (HB41.ext hR).pv | exact (HB11.ext hR).pv | exact (HB4.ext hR).pv | exact (HB3.ext hR).pv | assumption) rfl) ?_
        refine rt_hv rfl (fun vals w hd => hd 12 rfl) (fun vals w hR hd => v_loadA (by kernel_rfl) rfl (by first | exact (HB41.ext hR).pv | exact (HB11.ext hR).pv | exact (HB4.ext hR).pv | exact (HB3.ext hR).pv | assumption) rfl) ?_
        refine rt_hvf rfl (fun vals w hd => hd 12 rfl) (fun vals w hR hd => to_f2 (by kernel_rfl) (hd 18 rfl) (hd 19 rfl) (CSame_k (t := true) (HG1.ext hR) (HG2.ext hR) (decide_eq_true hab))) ?_
        refine rt_hv rfl (fun vals w hd => hd 12 rfl) (fun vals w hR hd => OpVat.as (b := true) (v_beql (by kernel_rfl) (hd 17 rfl) (hd 20 rfl)) (by simp)) ?_
        refine rt_hv rfl (fun vals w hd => hd 8 rfl) (fun vals w hR hd => v_orT (hd 12 rfl) (hd 21 rfl)) ?_
        refine rt_v (fun vals w hR hd => v_andT (hd 8 rfl) (hd 22 rfl)) ?_
        refine rt_v (fun vals w hR hd => v_assign (t := .bool _) (hd 23 rfl)) ?_
        refine rt_nil (fun w109 e109 => ?_)
        rintro _ rfl _ rfl _ rfl _ rfl _ rfl _ rfl _ rfl _ rfl _ rfl _ rfl _ rfl _ rfl _ rfl _ rfl _ rfl _ rfl _ rfl _ rfl _ rfl _ rfl _ rfl _ rfl _ rfl _ rfl _ rfl
        have zs_e109 := e109.size
        replace E := E.trans (Ext.keep e109)
        replace HG1 := HG1.ext e109
        replace HG2 := HG2.ext e109
        replace HS1 := HS1.ext e109
        replace HB3 := HB3.ext e109
        replace HB4 := HB4.ext e109
        replace HG10 := HG10.ext e109
        replace HB11 := HB11.ext e109
        replace HS13 := HS13.ext e109
        replace HS30 := HS30.ext e109
        replace HS31 := HS31.ext e109
        replace HG40 := HG40.ext e109
        replace HB41 := HB41.ext e109
        refine fin_nil ?_
        refine n_then ?_
        refine c_ret ?_
        refine ret1v rfl (by decide) (show _ = (Value.bool _) from rfl) ?_
        exact ⟨rfl, E⟩
       ·
        refine c_seq ?_
        refine wp_regd (NoK) (by kernel_rfl) (by decide +kernel) (by decide +kernel) ?_
        refine rt_v (fun vals w hR hd => v_move (t := .int _ _) rfl) ?_
        refine rt_vf (fun vals w hR hd => to_f1 (by kernel_rfl) (hd 0 rfl) (num_c)) ?_
        refine rt_v (fun vals w hR hd => OpVat.as (b := true) (v_eql (hd 1 rfl) rfl) (by simp [hr0])) ?_
        refine rt_v (fun vals w hR hd => v_move (t := .bool _) (hd 2 rfl)) ?_
        refine rt_hv rfl (fun vals w hd => hd 3 rfl) (fun vals w hR hd => v_loadA (by kernel_rfl) rfl (by first | exact (HB41.ext hR).pv | exact (HB11.ext hR).pv | exact (HB4.ext hR).pv | exact (HB3.ext hR).pv | assumption) rfl) ?_
        refine rt_hv rfl (fun vals w hd => hd 3 rfl) (fun vals w hR hd => v_loadA (by kernel_rfl) rfl (by first | exact (HB41.ext hR).pv | exact (HB11.ext hR).pv | exact (HB4.ext hR).pv | exact (HB3.ext hR).pv | assumption) rfl) ?_
        refine rt_hvf rfl (fun vals w hd => hd 3 rfl) (fun vals w hR hd => to_f2 (by kernel_rfl) (hd 4 rfl) (hd 5 rfl) (refCSame_k (t := true) (HG40.ext hR) (HG1.ext hR) (decide_eq_true hx0))) ?_
        refine rt_v (fun vals w hR hd => v_andT (hd 3 rfl) (hd 6 rfl)) ?_
        refine rt_v (fun vals w hR hd => v_move (t := .bool _) (hd 7 rfl)) ?_
        refine rt_hv rfl (fun vals w hd => hd 8 rfl) (fun vals w hR hd => v_move (t := .int _ _) rfl) ?_
        refine rt_hvf rfl (fun vals w hd => hd 8 rfl) (fun vals w hR hd => to_f1 (by kernel_rfl) (hd 9 rfl) (num_c)) ?_
        refine rt_hv rfl (fun vals w hd => hd 8 rfl) (fun vals w hR hd => OpVat.as (b := false) (v_neq (hd 10 rfl) rfl) (by simp [hfb])) ?_
        refine rt_hv rfl (fun vals w hd => hd 8 rfl) (fun vals w hR hd => v_move (t := .bool _) (hd 11 rfl)) ?_
        refine rt_hv rfl (fun vals w hd => hd 12 rfl) (fun vals w hR hd => v_move (t := .slice _ _ _) rfl) ?_
        refine rt_hv rfl (fun vals w hd => hd 12 rfl) (fun vals w hR hd => v_b2s (et := 5) (by kernel_rfl) (by kernel_rfl) (by kernel_rfl) (hd 13 rfl) (HS30.ext hR)) ?_
        refine rt_hv rfl (fun vals w hd => hd 12 rfl) (fun vals w hR hd => v_move (t := .slice _ _ _) rfl) ?_
        refine rt_hv rfl (fun vals w hd => hd 12 rfl) (fun vals w hR hd => v_b2s (et := 5) (by kernel_rfl) (by kernel_rfl) (by kernel_rfl) (hd 15 rfl) (HS31.ext hR)) ?_
        refine rt_hv rfl (fun vals w hd => hd 12 rfl) (fun vals w hR hd => OpVat.as (b := false) (v_seq (hd 14 rfl) (hd 16 rfl)) (decide_eq_false (by rw [hya, hyb]; exact fun h => hab (by have h1 := rdAll_back hma; rw [h, rdAll_back hmb] at h1; exact (Option.some.inj h1).symm)))) ?_
        refine rt_hv rfl (fun vals w hd => hd 12 rfl) (fun vals w hR hd => v_loadA (by kernel_rfl) rfl (by first | exact (HB41.ext hR).pv | exact (HB11.ext hR).pv | exact (HB4.ext hR).pv | exact (HB3.ext hR).pv | assumption) rfl) ?_
        refine rt_hv rfl (fun vals w hd => hd 12 rfl) (fun vals w hR hd => v_loadA (by kernel_rfl) rfl (by first | exact (HB41.ext hR).pv | exact (HB11.ext hR).pv | exact (HB4.ext hR).pv | exact (HB3.ext hR).pv | assumption) rfl) ?_
        refine rt_hvf rfl (fun vals w hd => hd 12 rfl) (fun vals w hR hd => to_f2 (by kernel_rfl) (hd 18 rfl) (hd 19 rfl) (CSame_k (t := false) (HG1.ext hR) (HG2.ext hR) (decide_eq_false hab))) ?_
        refine rt_hv rfl (fun vals w hd => hd 12 rfl) (fun vals w hR hd => OpVat.as (b := true) (v_beql (by kernel_rfl) (hd 17 rfl) (hd 20 rfl)) (by simp)) ?_
        refine rt_hv rfl (fun vals w hd => hd 8 rfl) (fun vals w hR hd => v_orT (hd 12 rfl) (hd 21 rfl)) ?_
        refine rt_v (fun vals w hR hd => v_andT (hd 8 rfl) (hd 22 rfl)) ?_
        refine rt_v (fun vals w hR hd => v_assign (t := .bool _) (hd 23 rfl)) ?_
        refine rt_nil (fun w110 e110 => ?_)
        rintro _ rfl _ rfl _ rfl _ rfl _ rfl _ rfl _ rfl _ rfl _ rfl _ rfl _ rfl _ rfl _ rfl _ rfl _ rfl _ rfl _ rfl _ rfl _ rfl _ rfl _ rfl _ rfl _ rfl _ rfl _ rfl
        have zs_e110 := e110.size
        replace E := E.trans (Ext.keep e110)
        replace HG1 := HG1.ext e110
        replace HG2 := HG2.ext e110
        replace HS1 := HS1.ext e110
        replace HB3 := HB3.ext e110
        replace HB4 := HB4.ext e110
        replace HG10 := HG10.ext e110
        replace HB11 := HB11.ext e110
        replace HS13 := HS13.ext e110
        replace HS30 := HS30.ext e110
        replace HS31 := HS31.ext e110
        replace HG40 := HG40.ext e110
        replace HB41 := HB41.ext e110
        refine fin_nil ?_
        refine n_then ?_
        refine c_ret ?_
        refine ret1v rfl (by decide) (show _ = (Value.bool _) from rfl) ?_
        exact ⟨rfl, E⟩
      ·
       refine c_seq ?_
       obtain hfb : f31 = 2 := by
        rcases h31 with ⟨h1, _⟩ | ⟨_, h, _⟩
        ·
         exact absurd h1 hmb
        ·
         exact h
       refine wp_regd (NoK) (by kernel_rfl) (by decide +kernel) (by decide +kernel) ?_
       refine rt_v (fun vals w hR hd => v_move (t := .int _ _) rfl) ?_
       refine rt_vf (fun vals w hR hd => to_f1 (by kernel_rfl) (hd 0 rfl) (num_c)) ?_
       refine rt_v (fun vals w hR hd => OpVat.as (b := true) (v_eql (hd 1 rfl) rfl) (by simp [hr0])) ?_
       refine rt_v (fun vals w hR hd => v_move (t := .bool _) (hd 2 rfl)) ?_
       refine rt_hv rfl (fun vals w hd => hd 3 rfl) (fun vals w hR hd => v_loadA (by kernel_rfl) rfl (by first | exact (HB41.ext hR).pv | exact (HB11.ext hR).pv | exact (HB4.ext hR).pv | exact (HB3.ext hR).pv | assumption) rfl) ?_
       refine rt_hv rfl (fun vals w hd => hd 3 rfl) (fun vals w hR hd => v_loadA (by kernel_rfl) rfl (by first | exact (HB41.ext hR).pv | exact (HB11.ext hR).pv | exact (HB4.ext hR).pv | exact (HB3.ext hR).pv | assumption) rfl) ?_
       refine rt_hvf rfl (fun vals w hd => hd 3 rfl) (fun vals w hR hd => to_f2 (by kernel_rfl) (hd 4 rfl) (hd 5 rfl) (refCSame_k (t := true) (HG40.ext hR) (HG1.ext hR) (decide_eq_true hx0))) ?_
       refine rt_v (fun vals w hR hd => v_andT (hd 3 rfl) (hd 6 rfl)) ?_
       refine rt_v (fun vals w hR hd => v_move (t := .bool _) (hd 7 rfl)) ?_
       refine rt_hv rfl (fun vals w hd => hd 8 rfl) (fun vals w hR hd => v_move (t := .int _ _) rfl) ?_
       refine rt_hvf rfl (fun vals w hd => hd 8 rfl) (fun vals w hR hd => to_f1 (by kernel_rfl) (hd 9 rfl) (num_c)) ?_
       refine rt_hv rfl (fun vals w hd => hd 8 rfl) (fun vals w hR hd => OpVat.as (b := true) (v_neq (hd 10 rfl) rfl) (by simp [hfb])) ?_
       refine rt_hv rfl (fun vals w hd => hd 8 rfl) (fun vals w hR hd => v_move (t := .bool _) (hd 11 rfl)) ?_
       refine rt_skip (u := .bool true) rfl (fun vals w hd => hd 12 rfl) rfl ?_
       refine rt_skip (u := .bool true) rfl (fun vals w hd => hd 12 rfl) rfl ?_
       refine rt_skip (u := .bool true) rfl (fun vals w hd => hd 12 rfl) rfl ?_
       refine rt_skip (u := .bool true) rfl (fun vals w hd => hd 12 rfl) rfl ?_
       refine rt_skip (u := .bool true) rfl (fun vals w hd => hd 12 rfl) rfl ?_
       refine rt_skip (u := .bool true) rfl (fun vals w hd => hd 12 rfl) rfl ?_
       refine rt_skip (u := .bool true) rfl (fun vals w hd => hd 12 rfl) rfl ?_
       refine rt_skip (u := .bool true) rfl (fun vals w hd => hd 12 rfl) rfl ?_
       refine rt_skip (u := .bool true) rfl (fun vals w hd => hd 12 rfl) rfl ?_
       refine rt_hv rfl (fun vals w hd => hd 8 rfl) (fun vals w hR hd => v_orC (hd 12 rfl)) ?_
       refine rt_v (fun vals w hR hd => v_andT (hd 8 rfl) (hd 22 rfl)) ?_
       refine rt_v (fun vals w hR hd => v_assign (t := .bool _) (hd 23 rfl)) ?_
       refine rt_nil (fun w111 e111 => ?_)
       rintro _ rfl _ rfl _ rfl _ rfl _ rfl _ rfl _ rfl _ rfl _ rfl _ rfl _ rfl _ rfl _ rfl _ rfl _ rfl _ rfl _ rfl _ rfl _ rfl _ rfl _ rfl _ rfl _ rfl _ rfl _ rfl
       have zs_e111 := e111.size
       replace E := E.trans (Ext.keep e111)
       replace HG1 := HG1.ext e111
       replace HG2 := HG2.ext e111
       replace HS1 := HS1.ext e111
       replace HB3 := HB3.ext e111
       replace HB4 := HB4.ext e111
       replace HG10 := HG10.ext e111
       replace HB11 := HB11.ext e111
       replace HS13 := HS13.ext e111
       replace HS30 := HS30.ext e111
       replace HS31 := HS31.ext e111
       replace HG40 := HG40.ext e111
       replace HB41 := HB41.ext e111
       refine fin_nil ?_
       refine n_then ?_
       refine c_ret ?_
       refine ret1v rfl (by decide) (show _ = (Value.bool _) from rfl) ?_
       exact ⟨rfl, E⟩
  ·
   refine c_skip ?_
   refine n_then ?_
   refine c_seq ?_
   refine c_seq ?_
   refine wp_reg (by decide +kernel) ?_
   refine l_v (v_loadA (by kernel_rfl) rfl (by first | exact HB4.pv | exact HB3.pv | assumption) rfl) ?_
   refine l_to (to_f2 (by kernel_rfl) (show _ = (Value.agg _) from rfl) (show _ = (Value.int _ _) from rfl) (CallsR.mono (Long_c (m := 60000) HG1 (by decide) (by decide)) ?_))
   rintro _ w112 ⟨rfl, e112⟩
   have zs_e112 := e112.size
   replace E := E.trans (Ext.keep e112)
   replace HG1 := HG1.ext e112
   replace HG2 := HG2.ext e112
   replace HS1 := HS1.ext e112
   replace HB3 := HB3.ext e112
   replace HB4 := HB4.ext e112
   refine l_v (v_move (t := .bool _) rfl) ?_
   refine l_g1 rfl rfl (fun hG => v_loadA (by kernel_rfl) rfl (by first | exact HB4.pv | exact HB3.pv | assumption) rfl) ?_
   refine l_g1f rfl rfl (fun hG => to_f2 (by kernel_rfl) (gd hG rfl) (show _ = (Value.int _ _) from rfl) (Long_c (m := 60000) HG2 (by decide) (by decide))) ?_
   rintro w113 e113
   have zs_e113 := e113.size
   replace E := E.trans (Ext.keep e113)
   replace HG1 := HG1.ext e113
   replace HG2 := HG2.ext e113
   replace HS1 := HS1.ext e113
   replace HB3 := HB3.ext e113
   replace HB4 := HB4.ext e113
   refine l_v (v_or rfl rfl) ?_
   refine l_nil ?_
   refine n_then ?_
   refine c_cond rfl rfl (fun hlong => ?_) (fun hlong => ?_)
   ·
    refine c_seq ?_
    refine wp_reg (by decide +kernel) ?_
    refine l_v (v_assign rfl) ?_
    refine l_nil ?_
    refine n_then ?_
    refine c_ret ?_
    refine r_then ?_
    refine ret1v rfl (by decide) (show _ = (Value.bool _) from rfl) ?_
    exact ⟨rfl, E⟩
   ·
    simp only [Bool.or_eq_false_iff] at hlong
    have hsum := longC_sum (by decide) hlong.1
    refine c_skip ?_
    refine n_then ?_
    refine c_seq ?_
    refine wp_reg (by decide +kernel) ?_
    refine l_v (v_loadA (by kernel_rfl) rfl (by first | exact HB4.pv | exact HB3.pv | assumption) rfl) ?_
    refine l_to (to_f1 (by kernel_rfl) (show _ = (Value.agg _) from rfl) (CallsR.mono (CBytes_any HG1) ?_))
    rintro _ w60 ⟨⟨a60, y60, d60, f60, rfl, HS60, h60⟩, e60⟩
    have zs_e60 := e60.size
    replace HS60 := HS60.all
    replace E := E.trans (Ext.keep e60)
    replace HG1 := HG1.ext e60
    replace HG2 := HG2.ext e60
    replace HS1 := HS1.ext e60
    replace HB3 := HB3.ext e60
    replace HB4 := HB4.ext e60
    refine l_v (v_move (t := .tuple _) rfl) ?_
    refine l_v (v_extract (t := .slice _ _ _) rfl rfl) ?_
    refine l_v (v_extract (t := .int _ _) rfl rfl) ?_
    refine l_v (v_assign (t := .slice _ _ _) rfl) ?_
    refine l_v (v_assign (t := .int _ _) rfl) ?_
    refine l_nil ?_
    refine n_then ?_
    refine c_seq ?_
    refine wp_reg (by decide +kernel) ?_
    refine l_v (v_loadA (by kernel_rfl) rfl (by first | exact HB4.pv | exact HB3.pv | assumption) rfl) ?_
    refine l_to (to_f1 (by kernel_rfl) (show _ = (Value.agg _) from rfl) (CallsR.mono (CBytes_any HG2) ?_))
    rintro _ w61 ⟨⟨a61, y61, d61, f61, rfl, HS61, h61⟩, e61⟩
    have zs_e61 := e61.size
    replace HS61 := HS61.all
    replace E := E.trans (Ext.keep e61)
    replace HG1 := HG1.ext e61
    replace HG2 := HG2.ext e61
    replace HS1 := HS1.ext e61
    replace HB3 := HB3.ext e61
    replace HB4 := HB4.ext e61
    replace HS60 := HS60.ext e61
    refine l_v (v_move (t := .tuple _) rfl) ?_
    refine l_v (v_extract (t := .slice _ _ _) rfl rfl) ?_
    refine l_v (v_extract (t := .int _ _) rfl rfl) ?_
    refine l_v (v_assign (t := .slice _ _ _) rfl) ?_
    refine l_v (v_assign (t := .int _ _) rfl) ?_
    refine l_nil ?_
    refine n_then ?_
    refine c_seq ?_
    refine c_seq ?_
    refine wp_reg (by decide +kernel) ?_
    refine l_v (v_move (t := .int _ _) rfl) ?_
    refine l_to (to_f1 (by kernel_rfl) (show _ = (Value.int _ _) from rfl) (CallsR.mono (num_c) ?_))
    rintro _ w114 ⟨rfl, e114⟩
    have zs_e114 := e114.size
    replace E := E.trans (Ext.keep e114)
    replace HG1 := HG1.ext e114
    replace HG2 := HG2.ext e114
    replace HS1 := HS1.ext e114
    replace HB3 := HB3.ext e114
    replace HB4 := HB4.ext e114
    replace HS60 := HS60.ext e114
    replace HS61 := HS61.ext e114
    refine l_v (v_neq rfl rfl) ?_
    refine l_nil ?_
    refine n_then ?_
    refine c_cond rfl rfl (fun hne => ?_) (fun hne => ?_)
    ·
     refine c_seq ?_
     refine wp_reg (by decide +kernel) ?_
     refine l_v (v_move (t := .int _ _) rfl) ?_
     refine l_to (to_f1 (by kernel_rfl) (show _ = (Value.int _ _) from rfl) (CallsR.mono (num_c) ?_))
     rintro _ w115 ⟨rfl, e115⟩
     have zs_e115 := e115.size
     replace E := E.trans (Ext.keep e115)
     replace HG1 := HG1.ext e115
     replace HG2 := HG2.ext e115
     replace HS1 := HS1.ext e115
     replace HB3 := HB3.ext e115
     replace HB4 := HB4.ext e115
     replace HS60 := HS60.ext e115
     replace HS61 := HS61.ext e115
     refine l_v (v_eql rfl rfl) ?_
     refine l_v (v_move (t := .bool _) rfl) ?_
     refine l_g1 rfl rfl (fun hG => v_loadA (by kernel_rfl) rfl (by first | exact HB4.pv | exact HB3.pv | assumption) rfl) ?_
     refine l_g1f rfl rfl (fun hG => to_f1 (by kernel_rfl) (gd hG rfl) (CMay_c HG1)) ?_
     rintro w116 e116
     have zs_e116 := e116.size
     replace E := E.trans (Ext.keep e116)
     replace HG1 := HG1.ext e116
     replace HG2 := HG2.ext e116
     replace HS1 := HS1.ext e116
     replace HB3 := HB3.ext e116
     replace HB4 := HB4.ext e116
     replace HS60 := HS60.ext e116
     replace HS61 := HS61.ext e116
     refine l_g1 rfl rfl (fun hG => v_not (gd hG rfl)) ?_
     refine l_v (v_and rfl rfl) ?_
     refine l_v (v_assign (t := .bool _) rfl) ?_
     refine l_nil ?_
     refine n_then ?_
     refine c_ret ?_
     refine r_then ?_
     refine ret1v rfl (by decide) (show _ = (Value.bool _) from rfl) ?_
     refine ⟨?_, E⟩
     rcases h60 with ⟨_, h1, _⟩ | ⟨h0, h1, _⟩
     ·
      simp [h1] at hne
     ·
      simp [h0, h1]
    ·
     obtain ⟨hma, hfa, hya⟩ : mayCm a = true ∧ f60 = 0 ∧ y60 = cmW a := by
      rcases h60 with h | ⟨_, h1, _⟩
      ·
       exact h
      ·
       simp [h1] at hne
     have hlen : y60.length ≤ 1000000 := by rw [hya]; exact cmW_len hma hsum
     refine c_skip ?_
     refine n_then ?_
     refine c_seq ?_
     refine wp_reg (by decide +kernel) ?_
     refine l_v (v_move (t := .slice _ _ _) rfl) ?_
     refine l_to (to_f1 (by kernel_rfl) (show _ = (Value.slice _ _ _) from rfl) (CallsR.mono (CRead_any HS60 (hlen)) ?_))
     rintro _ w70 ⟨⟨u70, x70, r70, rfl, HG70, h70⟩, e70⟩
     have zs_e70 := e70.size
     replace HG70 := HG70.all
     obtain ⟨k70, rq70, mv70, en70, an70, ke70, g70⟩ := x70
     obtain ⟨a70x0, c70x0, a70x1, c70x1, a70x2, c70x2, a70x3, c70x3, a70x4, c70x4, a70x5, c70x5, a70x6, c70x6, a70x7, c70x7, a70x8, c70x8, hu70, _⟩ := HG70.cm
     subst hu70
     replace E := E.trans (Ext.keep e70)
     replace HG1 := HG1.ext e70
     replace HG2 := HG2.ext e70
     replace HS1 := HS1.ext e70
     replace HB3 := HB3.ext e70
     replace HB4 := HB4.ext e70
     replace HS60 := HS60.ext e70
     replace HS61 := HS61.ext e70
     refine l_v (v_move (t := .tuple _) rfl) ?_
     refine l_v (v_extract (t := .agg _) rfl rfl) ?_
     refine l_v (v_extract (t := .int _ _) rfl rfl) ?_
     refine l_to (to_alloc (z := (.agg #[.int .i64 0, .int .i64 0, .int .i64 0, .int .i64 0, .slice none 0 0, .slice none 0 0, .slice none 0 0, .slice none 0 0, .bool false, .int .i64 0, .int .i64 0, .slice none 0 0, .slice none 0 0, .bool false, .int .i64 0, .int .i64 0, .slice none 0 0, .slice none 0 0, .slice none 0 0, .int .i64 0])) (by unfold kZero; kernel_rfl) ?_)
     rintro b71 w71 zb71 HB71 e71 z71
     have zs_e71 := e71.size
     replace E := E.trans (Ext.keep e71)
     replace HG1 := HG1.ext e71
     replace HG2 := HG2.ext e71
     replace HS1 := HS1.ext e71
     replace HB3 := HB3.ext e71
     replace HB4 := HB4.ext e71
     replace HS60 := HS60.ext e71
     replace HS61 := HS61.ext e71
     replace HG70 := HG70.ext e71
     try simp only [Value.cells] at HB71
     refine l_to (to_storeA (n := 20) rfl rfl (show _ = (Value.agg _) from rfl) (by kernel_rfl) rfl (by first | (simp [slice_one]; done) | (simp only [List.forall_mem_cons, List.cons_append, List.nil_append]; repeat' (first | exact rfl | apply And.intro | (intro u hu; cases hu; done)))) HB71 dj5 ?_)
     rintro w72 HB71 k72 z72
     have zs_k72 := k72.size
     try simp only [List.set_cons_zero, List.set_cons_succ, setAt, List.take_zero, List.take_succ_cons, List.drop_zero, List.drop_succ_cons, List.nil_append, List.cons_append, List.append_nil, List.length_cons, List.length_nil] at HB71
     replace E := E.step k72 dj3
     replace HG1 := HG1.keep k72 dj1
     replace HG2 := HG2.keep k72 dj1
     replace HS1 := HS1.keep k72 dj1
     replace HB3 := HB3.keep k72 dj4
     replace HB4 := HB4.keep k72 dj4
     replace HS60 := HS60.keep k72 dj1
     replace HS61 := HS61.keep k72 dj1
     replace HG70 := HG70.keep k72 dj1
     obtain ⟨hr0, hx0⟩ : r70 = 0 ∧ (k70, rq70, mv70, en70, an70, ke70, g70) = a := by
      have hb := rdAll_back hma
      rw [hya] at h70
      rcases h70 with ⟨h1, h2⟩ | ⟨_, _, h2⟩
      ·
       rw [hb] at h2; exact ⟨h1, (Option.some.inj h2).symm⟩
      ·
       rw [hb] at h2; cases h2
     refine l_v (v_assign (t := .int _ _) rfl) ?_
     refine l_nil ?_
     refine n_then ?_
     by_cases hmb : mayCm b = true
     ·
      obtain ⟨hfb, hyb⟩ : f61 = 0 ∧ y61 = cmW b := by
       rcases h61 with ⟨_, h⟩ | ⟨h1, _⟩
       ·
        exact h
       ·
        rw [hmb] at h1; cases h1
      by_cases hab : a = b
      ·
       refine c_seq ?_
       refine wp_regd (NoK) (by kernel_rfl) (by decide +kernel) (by decide +kernel) ?_
       refine rt_v (fun vals w hR hd => v_move (t := .int _ _) rfl) ?_
       refine rt_vf (fun vals w hR hd => to_f1 (by kernel_rfl) (hd 0 rfl) (num_c)) ?_
       refine rt_v (fun vals w hR hd => OpVat.as (b := true) (v_eql (hd 1 rfl) rfl) (by simp [hr0])) ?_
       refine rt_v (fun vals w hR hd => v_move (t := .bool _) (hd 2 rfl)) ?_
       refine rt_hv rfl (fun vals w hd => hd 3 rfl) (fun vals w hR hd => v_loadA (by kernel_rfl) rfl (by first | exact (HB71.ext hR).pv | exact (HB4.ext hR).pv | exact (HB3.ext hR).pv | assumption) rfl) ?_
       refine rt_hv rfl (fun vals w hd => hd 3 rfl) (fun vals w hR hd => v_loadA (by kernel_rfl) rfl (by first | exact (HB71.ext hR).pv | exact (HB4.ext hR).pv | exact (HB3.ext hR).pv | assumption) rfl) ?_
       refine rt_hvf rfl (fun vals w hd => hd 3 rfl) (fun vals w hR hd => to_f2 (by kernel_rfl) (hd 4 rfl) (hd 5 rfl) (refCSame_k (t := true) (HG70.ext hR) (HG1.ext hR) (decide_eq_true hx0))) ?_
       refine rt_v (fun vals w hR hd => v_andT (hd 3 rfl) (hd 6 rfl)) ?_
       refine rt_v (fun vals w hR hd => v_move (t := .bool _) (hd 7 rfl)) ?_
       refine rt_hv rfl (fun vals w hd => hd 8 rfl) (fun vals w hR hd => v_move (t := .int _ _) rfl) ?_
       refine rt_hvf rfl (fun vals w hd => hd 8 rfl) (fun vals w hR hd => to_f1 (by kernel_rfl) (hd 9 rfl) (num_c)) ?_
       refine rt_hv rfl (fun vals w hd => hd 8 rfl) (fun vals w hR hd => OpVat.as (b := false) (v_neq (hd 10 rfl) rfl) (by simp [hfb])) ?_
       refine rt_hv rfl (fun vals w hd => hd 8 rfl) (fun vals w hR hd => v_move (t := .bool _) (hd 11 rfl)) ?_
       refine rt_hv rfl (fun vals w hd => hd 12 rfl) (fun vals w hR hd => v_move (t := .slice _ _ _) rfl) ?_
       refine rt_hv rfl (fun vals w hd => hd 12 rfl) (fun vals w hR hd => v_b2s (et := 5) (by kernel_rfl) (by kernel_rfl) (by kernel_rfl) (hd 13 rfl) (HS60.ext hR)) ?_
       refine rt_hv rfl (fun vals w hd => hd 12 rfl) (fun vals w hR hd => v_move (t := .slice _ _ _) rfl) ?_
       refine rt_hv rfl (fun vals w hd => hd 12 rfl) (fun vals w hR hd => v_b2s (et := 5) (by kernel_rfl) (by kernel_rfl) (by kernel_rfl) (hd 15 rfl) (HS61.ext hR)) ?_
       refine rt_hv rfl (fun vals w hd => hd 12 rfl) (fun vals w hR hd => OpVat.as (b := true) (v_seq (hd 14 rfl) (hd 16 rfl)) (decide_eq_true (by rw [hya, hyb, hab]))) ?_
       refine rt_hv rfl (fun vals w hd => hd 12 rfl) (fun vals w hR hd => v_loadA (by kernel_rfl) rfl (by first | exact (HB71.ext hR).pv | exact (HB4.ext hR).pv | exact (HB3.ext hR).pv | assumption) rfl) ?_
       refine rt_hv rfl (fun vals w hd => hd 12 rfl) (fun vals w hR hd => v_loadA (by kernel_rfl) rfl (by first | exact (HB71.ext hR).pv | exact (HB4.ext hR).pv | exact (HB3.ext hR).pv | assumption) rfl) ?_
       refine rt_hvf rfl (fun vals w hd => hd 12 rfl) (fun vals w hR hd => to_f2 (by kernel_rfl) (hd 18 rfl) (hd 19 rfl) (CSame_k (t := true) (HG1.ext hR) (HG2.ext hR) (decide_eq_true hab))) ?_
       refine rt_hv rfl (fun vals w hd => hd 12 rfl) (fun vals w hR hd => OpVat.as (b := true) (v_beql (by kernel_rfl) (hd 17 rfl) (hd 20 rfl)) (by simp)) ?_
       refine rt_hv rfl (fun vals w hd => hd 8 rfl) (fun vals w hR hd => v_orT (hd 12 rfl) (hd 21 rfl)) ?_
       refine rt_v (fun vals w hR hd => v_andT (hd 8 rfl) (hd 22 rfl)) ?_
       refine rt_v (fun vals w hR hd => v_assign (t := .bool _) (hd 23 rfl)) ?_
       refine rt_nil (fun w117 e117 => ?_)
       rintro _ rfl _ rfl _ rfl _ rfl _ rfl _ rfl _ rfl _ rfl _ rfl _ rfl _ rfl _ rfl _ rfl _ rfl _ rfl _ rfl _ rfl _ rfl _ rfl _ rfl _ rfl _ rfl _ rfl _ rfl _ rfl
       have zs_e117 := e117.size
       replace E := E.trans (Ext.keep e117)
       replace HG1 := HG1.ext e117
       replace HG2 := HG2.ext e117
       replace HS1 := HS1.ext e117
       replace HB3 := HB3.ext e117
       replace HB4 := HB4.ext e117
       replace HS60 := HS60.ext e117
       replace HS61 := HS61.ext e117
       replace HG70 := HG70.ext e117
       replace HB71 := HB71.ext e117
       refine fin_nil ?_
       refine n_then ?_
       refine c_ret ?_
       refine ret1v rfl (by decide) (show _ = (Value.bool _) from rfl) ?_
       exact ⟨rfl, E⟩
      ·
       refine c_seq ?_
       refine wp_regd (NoK) (by kernel_rfl) (by decide +kernel) (by decide +kernel) ?_
       refine rt_v (fun vals w hR hd => v_move (t := .int _ _) rfl) ?_
       refine rt_vf (fun vals w hR hd => to_f1 (by kernel_rfl) (hd 0 rfl) (num_c)) ?_
       refine rt_v (fun vals w hR hd => OpVat.as (b := true) (v_eql (hd 1 rfl) rfl) (by simp [hr0])) ?_
       refine rt_v (fun vals w hR hd => v_move (t := .bool _) (hd 2 rfl)) ?_
       refine rt_hv rfl (fun vals w hd => hd 3 rfl) (fun vals w hR hd => v_loadA (by kernel_rfl) rfl (by first | exact (HB71.ext hR).pv | exact (HB4.ext hR).pv | exact (HB3.ext hR).pv | assumption) rfl) ?_
       refine rt_hv rfl (fun vals w hd => hd 3 rfl) (fun vals w hR hd => v_loadA (by kernel_rfl) rfl (by first | exact (HB71.ext hR).pv | exact (HB4.ext hR).pv | exact (HB3.ext hR).pv | assumption) rfl) ?_
       refine rt_hvf rfl (fun vals w hd => hd 3 rfl) (fun vals w hR hd => to_f2 (by kernel_rfl) (hd 4 rfl) (hd 5 rfl) (refCSame_k (t := true) (HG70.ext hR) (HG1.ext hR) (decide_eq_true hx0))) ?_
       refine rt_v (fun vals w hR hd => v_andT (hd 3 rfl) (hd 6 rfl)) ?_
       refine rt_v (fun vals w hR hd => v_move (t := .bool _) (hd 7 rfl)) ?_
       refine rt_hv rfl (fun vals w hd => hd 8 rfl) (fun vals w hR hd => v_move (t := .int _ _) rfl) ?_
       refine rt_hvf rfl (fun vals w hd => hd 8 rfl) (fun vals w hR hd => to_f1 (by kernel_rfl) (hd 9 rfl) (num_c)) ?_
       refine rt_hv rfl (fun vals w hd => hd 8 rfl) (fun vals w hR hd => OpVat.as (b := false) (v_neq (hd 10 rfl) rfl) (by simp [hfb])) ?_
       refine rt_hv rfl (fun vals w hd => hd 8 rfl) (fun vals w hR hd => v_move (t := .bool _) (hd 11 rfl)) ?_
       refine rt_hv rfl (fun vals w hd => hd 12 rfl) (fun vals w hR hd => v_move (t := .slice _ _ _) rfl) ?_
       refine rt_hv rfl (fun vals w hd => hd 12 rfl) (fun vals w hR hd => v_b2s (et := 5) (by kernel_rfl) (by kernel_rfl) (by kernel_rfl) (hd 13 rfl) (HS60.ext hR)) ?_
       refine rt_hv rfl (fun vals w hd => hd 12 rfl) (fun vals w hR hd => v_move (t := .slice _ _ _) rfl) ?_
       refine rt_hv rfl (fun vals w hd => hd 12 rfl) (fun vals w hR hd => v_b2s (et := 5) (by kernel_rfl) (by kernel_rfl) (by kernel_rfl) (hd 15 rfl) (HS61.ext hR)) ?_
       refine rt_hv rfl (fun vals w hd => hd 12 rfl) (fun vals w hR hd => OpVat.as (b := false) (v_seq (hd 14 rfl) (hd 16 rfl)) (decide_eq_false (by rw [hya, hyb]; exact fun h => hab (by have h1 := rdAll_back hma; rw [h, rdAll_back hmb] at h1; exact (Option.some.inj h1).symm)))) ?_
       refine rt_hv rfl (fun vals w hd => hd 12 rfl) (fun vals w hR hd => v_loadA (by kernel_rfl) rfl (by first | exact (HB71.ext hR).pv | exact (HB4.ext hR).pv | exact (HB3.ext hR).pv | assumption) rfl) ?_
       refine rt_hv rfl (fun vals w hd => hd 12 rfl) (fun vals w hR hd => v_loadA (by kernel_rfl) rfl (by first | exact (HB71.ext hR).pv | exact (HB4.ext hR).pv | exact (HB3.ext hR).pv | assumption) rfl) ?_
       refine rt_hvf rfl (fun vals w hd => hd 12 rfl) (fun vals w hR hd => to_f2 (by kernel_rfl) (hd 18 rfl) (hd 19 rfl) (CSame_k (t := false) (HG1.ext hR) (HG2.ext hR) (decide_eq_false hab))) ?_
       refine rt_hv rfl (fun vals w hd => hd 12 rfl) (fun vals w hR hd => OpVat.as (b := true) (v_beql (by kernel_rfl) (hd 17 rfl) (hd 20 rfl)) (by simp)) ?_
       refine rt_hv rfl (fun vals w hd => hd 8 rfl) (fun vals w hR hd => v_orT (hd 12 rfl) (hd 21 rfl)) ?_
       refine rt_v (fun vals w hR hd => v_andT (hd 8 rfl) (hd 22 rfl)) ?_
       refine rt_v (fun vals w hR hd => v_assign (t := .bool _) (hd 23 rfl)) ?_
       refine rt_nil (fun w118 e118 => ?_)
       rintro _ rfl _ rfl _ rfl _ rfl _ rfl _ rfl _ rfl _ rfl _ rfl _ rfl _ rfl _ rfl _ rfl _ rfl _ rfl _ rfl _ rfl _ rfl _ rfl _ rfl _ rfl _ rfl _ rfl _ rfl _ rfl
       have zs_e118 := e118.size
       replace E := E.trans (Ext.keep e118)
       replace HG1 := HG1.ext e118
       replace HG2 := HG2.ext e118
       replace HS1 := HS1.ext e118
       replace HB3 := HB3.ext e118
       replace HB4 := HB4.ext e118
       replace HS60 := HS60.ext e118
       replace HS61 := HS61.ext e118
       replace HG70 := HG70.ext e118
       replace HB71 := HB71.ext e118
       refine fin_nil ?_
       refine n_then ?_
       refine c_ret ?_
       refine ret1v rfl (by decide) (show _ = (Value.bool _) from rfl) ?_
       exact ⟨rfl, E⟩
     ·
      refine c_seq ?_
      obtain hfb : f61 = 2 := by
       rcases h61 with ⟨h1, _⟩ | ⟨_, h, _⟩
       ·
        exact absurd h1 hmb
       ·
        exact h
      refine wp_regd (NoK) (by kernel_rfl) (by decide +kernel) (by decide +kernel) ?_
      refine rt_v (fun vals w hR hd => v_move (t := .int _ _) rfl) ?_
      refine rt_vf (fun vals w hR hd => to_f1 (by kernel_rfl) (hd 0 rfl) (num_c)) ?_
      refine rt_v (fun vals w hR hd => OpVat.as (b := true) (v_eql (hd 1 rfl) rfl) (by simp [hr0])) ?_
      refine rt_v (fun vals w hR hd => v_move (t := .bool _) (hd 2 rfl)) ?_
      refine rt_hv rfl (fun vals w hd => hd 3 rfl) (fun vals w hR hd => v_loadA (by kernel_rfl) rfl (by first | exact (HB71.ext hR).pv | exact (HB4.ext hR).pv | exact (HB3.ext hR).pv | assumption) rfl) ?_
      refine rt_hv rfl (fun vals w hd => hd 3 rfl) (fun vals w hR hd => v_loadA (by kernel_rfl) rfl (by first | exact (HB71.ext hR).pv | exact (HB4.ext hR).pv | exact (HB3.ext hR).pv | assumption) rfl) ?_
      refine rt_hvf rfl (fun vals w hd => hd 3 rfl) (fun vals w hR hd => to_f2 (by kernel_rfl) (hd 4 rfl) (hd 5 rfl) (refCSame_k (t := true) (HG70.ext hR) (HG1.ext hR) (decide_eq_true hx0))) ?_
      refine rt_v (fun vals w hR hd => v_andT (hd 3 rfl) (hd 6 rfl)) ?_
      refine rt_v (fun vals w hR hd => v_move (t := .bool _) (hd 7 rfl)) ?_
      refine rt_hv rfl (fun vals w hd => hd 8 rfl) (fun vals w hR hd => v_move (t := .int _ _) rfl) ?_
      refine rt_hvf rfl (fun vals w hd => hd 8 rfl) (fun vals w hR hd => to_f1 (by kernel_rfl) (hd 9 rfl) (num_c)) ?_
      refine rt_hv rfl (fun vals w hd => hd 8 rfl) (fun vals w hR hd => OpVat.as (b := true) (v_neq (hd 10 rfl) rfl) (by simp [hfb])) ?_
      refine rt_hv rfl (fun vals w hd => hd 8 rfl) (fun vals w hR hd => v_move (t := .bool _) (hd 11 rfl)) ?_
      refine rt_skip (u := .bool true) rfl (fun vals w hd => hd 12 rfl) rfl ?_
      refine rt_skip (u := .bool true) rfl (fun vals w hd => hd 12 rfl) rfl ?_
      refine rt_skip (u := .bool true) rfl (fun vals w hd => hd 12 rfl) rfl ?_
      refine rt_skip (u := .bool true) rfl (fun vals w hd => hd 12 rfl) rfl ?_
      refine rt_skip (u := .bool true) rfl (fun vals w hd => hd 12 rfl) rfl ?_
      refine rt_skip (u := .bool true) rfl (fun vals w hd => hd 12 rfl) rfl ?_
      refine rt_skip (u := .bool true) rfl (fun vals w hd => hd 12 rfl) rfl ?_
      refine rt_skip (u := .bool true) rfl (fun vals w hd => hd 12 rfl) rfl ?_
      refine rt_skip (u := .bool true) rfl (fun vals w hd => hd 12 rfl) rfl ?_
      refine rt_hv rfl (fun vals w hd => hd 8 rfl) (fun vals w hR hd => v_orC (hd 12 rfl)) ?_
      refine rt_v (fun vals w hR hd => v_andT (hd 8 rfl) (hd 22 rfl)) ?_
      refine rt_v (fun vals w hR hd => v_assign (t := .bool _) (hd 23 rfl)) ?_
      refine rt_nil (fun w119 e119 => ?_)
      rintro _ rfl _ rfl _ rfl _ rfl _ rfl _ rfl _ rfl _ rfl _ rfl _ rfl _ rfl _ rfl _ rfl _ rfl _ rfl _ rfl _ rfl _ rfl _ rfl _ rfl _ rfl _ rfl _ rfl _ rfl _ rfl
      have zs_e119 := e119.size
      replace E := E.trans (Ext.keep e119)
      replace HG1 := HG1.ext e119
      replace HG2 := HG2.ext e119
      replace HS1 := HS1.ext e119
      replace HB3 := HB3.ext e119
      replace HB4 := HB4.ext e119
      replace HS60 := HS60.ext e119
      replace HS61 := HS61.ext e119
      replace HG70 := HG70.ext e119
      replace HB71 := HB71.ext e119
      refine fin_nil ?_
      refine n_then ?_
      refine c_ret ?_
      refine ret1v rfl (by decide) (show _ = (Value.bool _) from rfl) ?_
      exact ⟨rfl, E⟩
end Go.Proofs.Ytogafjlbpodgjaa
