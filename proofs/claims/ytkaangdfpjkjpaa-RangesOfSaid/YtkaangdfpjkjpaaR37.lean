/- A part of the proof: steps and lemmas for the walks through the given program. -/
import Derived.Test.YtkaangdfpjkjpaaR36
namespace Go.Proofs.Ytkaangdfpjkjpaa
open Go.Vc
set_option linter.unusedVariables false
set_option linter.unusedSimpArgs false
set_option maxRecDepth 100000

theorem fromG_ge : ∀ (l : List RgV) (g : Int) (p i : Nat), fromG l g p = (i : Int) → p ≤ i ∧ i < p + l.length
  | [], g, p, i, h => by simp only [fromG] at h; omega
  | r :: l, g, p, i, h => by
    rw [fromG] at h
    by_cases hg : r.2.2.2 = g
    · rw [if_pos hg] at h; simp; omega
    · rw [if_neg hg] at h
      have := fromG_ge l g (p + 1) i h
      simp; omega
theorem nxG_ge {m : MpV} {g : Int} {p i : Nat} (h : nxG m g p = (i : Int)) : p ≤ i ∧ i < m.2.length := by
  rw [nxG] at h
  split at h
  · have := fromG_ge _ _ _ _ h
    rw [List.length_drop] at this
    omega
  · omega
theorem once_c {w : World} {F : Nat → Prop} {v : Value} {e g mo : Int} {rs : List RgV} (HG1 : AgV tMp w F v (e, rs)) : CallsR Try.prog 40 #[v, .int .i64 g, .int .i64 mo] w (fun o w' => o = .bool true ∧ Ext w w') := by
  obtain ⟨a, c, rfl, HSr, he⟩ := HG1.mp
  simp only at HSr he
  have hmx := HSr.len_max
  refine enterM 51 Try.func40 rfl rfl (by simp) ?_
  refine c_seq ?_
  have E := Keep.refl (K := NoK) w
  replace HG1 := HG1.all
  replace HSr := HSr.all
  refine wp_reg (by decide +kernel) ?_
  refine l_to (to_box (show _ = (Value.agg _) from rfl) ?_)
  rintro b3 w3 zb3 HB3 e3 z3
  have zs_e3 := e3.size
  replace E := E.trans (Ext.keep e3)
  replace HG1 := HG1.ext e3
  replace HSr := HSr.ext e3
  try simp only [Value.cells] at HB3
  refine l_to (to_box (show _ = (Value.int _ _) from rfl) ?_)
  rintro b4 w4 zb4 HB4 e4 z4
  have zs_e4 := e4.size
  replace E := E.trans (Ext.keep e4)
  replace HG1 := HG1.ext e4
  replace HSr := HSr.ext e4
  replace HB3 := HB3.ext e4
  try simp only [Value.cells] at HB4
  refine l_to (to_box (show _ = (Value.int _ _) from rfl) ?_)
  rintro b5 w5 zb5 HB5 e5 z5
  have zs_e5 := e5.size
  replace E := E.trans (Ext.keep e5)
  replace HG1 := HG1.ext e5
  replace HSr := HSr.ext e5
  replace HB3 := HB3.ext e5
  replace HB4 := HB4.ext e5
  try simp only [Value.cells] at HB5
  refine l_to (to_alloc (z := (.bool false)) (by unfold kZero; kernel_rfl) ?_)
  rintro b6 w6 zb6 HB6 e6 z6
  have zs_e6 := e6.size
  replace E := E.trans (Ext.keep e6)
  replace HG1 := HG1.ext e6
  replace HSr := HSr.ext e6
  replace HB3 := HB3.ext e6
  replace HB4 := HB4.ext e6
  replace HB5 := HB5.ext e6
  try simp only [Value.cells] at HB6
  refine l_nil ?_
  refine n_then ?_
  refine c_seq ?_
  refine wp_reg (by decide +kernel) ?_
  refine l_v (v_loadA (by kernel_rfl) rfl (by first | exact HB6.pv | exact HB5.pv | exact HB4.pv | exact HB3.pv | assumption) rfl) ?_
  refine l_v (v_load (by kernel_rfl) rfl (by first | exact HB6.cell rfl | exact HB5.cell rfl | exact HB4.cell rfl | exact HB3.cell rfl | assumption)) ?_
  refine l_to (to_f2 (by kernel_rfl) (show _ = (Value.agg _) from rfl) (show _ = (Value.int _ _) from rfl) (CallsR.mono (Of_c) ?_))
  rintro _ w7 ⟨b72, b73, hb72, hb73, rfl, HB72, HB73, e7⟩
  have zs_e7 := e7.size
  have zl73 := HB73.lt
  replace E := E.trans (Ext.keep e7)
  replace HG1 := HG1.ext e7
  replace HSr := HSr.ext e7
  replace HB3 := HB3.ext e7
  replace HB4 := HB4.ext e7
  replace HB5 := HB5.ext e7
  replace HB6 := HB6.ext e7
  refine l_v (v_assign (t := .func _ _ _) rfl) ?_
  refine l_nil ?_
  refine n_then ?_
  refine c_seq ?_
  refine c_seq ?_
  refine wp_reg (by decide +kernel) ?_
  refine l_v (v_move (t := .func _ _ _) rfl) ?_
  refine l_v (v_feqlnil (ps := #[105]) (rs := #[]) (v := false) (by kernel_rfl) rfl rfl) ?_
  refine l_nil ?_
  refine n_then ?_
  refine c_cond rfl rfl (fun hn => ?_) (fun hn => ?_)
  · skip
    cases hn
  · skip
    refine c_skip ?_
    refine n_then ?_
    refine c_seq ?_
    refine wp_reg (by decide +kernel) ?_
    refine l_to (to_alloc (z := (.int .i64 0)) (by unfold kZero; kernel_rfl) ?_)
    rintro b8 w8 zb8 HB8 e8 z8
    have zs_e8 := e8.size
    replace E := E.trans (Ext.keep e8)
    replace HG1 := HG1.ext e8
    replace HSr := HSr.ext e8
    replace HB3 := HB3.ext e8
    replace HB4 := HB4.ext e8
    replace HB5 := HB5.ext e8
    replace HB6 := HB6.ext e8
    replace HB72 := HB72.ext e8
    replace HB73 := HB73.ext e8
    try simp only [Value.cells] at HB8
    refine l_to (to_alloc (z := (.int .i64 0)) (by unfold kZero; kernel_rfl) ?_)
    rintro b9 w9 zb9 HB9 e9 z9
    have zs_e9 := e9.size
    replace E := E.trans (Ext.keep e9)
    replace HG1 := HG1.ext e9
    replace HSr := HSr.ext e9
    replace HB3 := HB3.ext e9
    replace HB4 := HB4.ext e9
    replace HB5 := HB5.ext e9
    replace HB6 := HB6.ext e9
    replace HB72 := HB72.ext e9
    replace HB73 := HB73.ext e9
    replace HB8 := HB8.ext e9
    try simp only [Value.cells] at HB9
    refine l_to (to_store rfl rfl (show _ = (Value.int _ _) from rfl) rfl (by kernel_rfl) HB8 (by first | exact of_decide_eq_true rfl | (simp; done) | decide) ?_)
    rintro w101 HX101 k101 z101
    have zs_k101 := k101.size
    replace E := E.step k101 (by intro i hi he; (try dsimp only [NoK] at hi he ⊢); first | exact he.elim | omega | exact he)
    replace HG1 := HG1.keep k101 (by intro i _ hi he; (try dsimp only [NoK, AllB] at hi he); first | exact hi.elim | exact he.elim | omega | (rcases hi with hi | hi <;> omega) | (rcases he with he | he <;> omega))
    replace HSr := HSr.keep k101 (by intro i _ hi he; (try dsimp only [NoK, AllB] at hi he); first | exact hi.elim | exact he.elim | omega | (rcases hi with hi | hi <;> omega) | (rcases he with he | he <;> omega))
    replace HB3 := HB3.keep k101 (by intro h; (try dsimp only at h); first | omega)
    replace HB4 := HB4.keep k101 (by intro h; (try dsimp only at h); first | omega)
    replace HB5 := HB5.keep k101 (by intro h; (try dsimp only at h); first | omega)
    replace HB6 := HB6.keep k101 (by intro h; (try dsimp only at h); first | omega)
    replace HB72 := HB72.keep k101 (by intro h; (try dsimp only at h); first | omega)
    replace HB73 := HB73.keep k101 (by intro h; (try dsimp only at h); first | omega)
    replace HB9 := HB9.keep k101 (by intro h; (try dsimp only at h); first | omega)
    replace HB8 := HX101
    clear HX101
    try simp only [List.set_cons_zero, List.set_cons_succ, setAt, List.take_zero, List.take_succ_cons, List.drop_zero, List.drop_succ_cons, List.nil_append, List.cons_append, List.append_nil, List.length_cons, List.length_nil, Nat.zero_add, Nat.reduceAdd, List.drop_nil] at HB8
    refine l_to (to_store rfl rfl (show _ = (Value.int _ _) from rfl) rfl (by kernel_rfl) HB9 (by first | exact of_decide_eq_true rfl | (simp; done) | decide) ?_)
    rintro w102 HX102 k102 z102
    have zs_k102 := k102.size
    replace E := E.step k102 (by intro i hi he; (try dsimp only [NoK] at hi he ⊢); first | exact he.elim | omega | exact he)
    replace HG1 := HG1.keep k102 (by intro i _ hi he; (try dsimp only [NoK, AllB] at hi he); first | exact hi.elim | exact he.elim | omega | (rcases hi with hi | hi <;> omega) | (rcases he with he | he <;> omega))
    replace HSr := HSr.keep k102 (by intro i _ hi he; (try dsimp only [NoK, AllB] at hi he); first | exact hi.elim | exact he.elim | omega | (rcases hi with hi | hi <;> omega) | (rcases he with he | he <;> omega))
    replace HB3 := HB3.keep k102 (by intro h; (try dsimp only at h); first | omega)
    replace HB4 := HB4.keep k102 (by intro h; (try dsimp only at h); first | omega)
    replace HB5 := HB5.keep k102 (by intro h; (try dsimp only at h); first | omega)
    replace HB6 := HB6.keep k102 (by intro h; (try dsimp only at h); first | omega)
    replace HB72 := HB72.keep k102 (by intro h; (try dsimp only at h); first | omega)
    replace HB73 := HB73.keep k102 (by intro h; (try dsimp only at h); first | omega)
    replace HB8 := HB8.keep k102 (by intro h; (try dsimp only at h); first | omega)
    replace HB9 := HX102
    clear HX102
    try simp only [List.set_cons_zero, List.set_cons_succ, setAt, List.take_zero, List.take_succ_cons, List.drop_zero, List.drop_succ_cons, List.nil_append, List.cons_append, List.append_nil, List.length_cons, List.length_nil, Nat.zero_add, Nat.reduceAdd, List.drop_nil] at HB9
    refine l_nil ?_
    refine n_then ?_
    refine c_seq ?_
    refine c_seq ?_
    refine wp_reg (by decide +kernel) ?_
    refine l_v (v_move (t := .func _ _ _) rfl) ?_
    refine l_nil ?_
    refine n_then ?_
    refine c_block ?_
    refine c_rangeY (N := 51) rfl (show _ = (Value.func _ _ _) from rfl) (by kernel_rfl) (by decide) E (fun x => [.int .i64 (x.1 : Int), .agg x.2.toArray]) (fun _ => rfl) (yOf w102.heap.size e rs g) (fun xs => nxG (e, rs) g (prv xs) = -1) (fun _ => True) (fun i => i = b6 ∨ i = b8 ∨ i = b9) (fun i h => by have h := h; (try dsimp only at h); omega) ((Of1_seq (K := fun i => i = b6 ∨ b8 ≤ i) HG1 HB72 HB73 (fun i h => by omega) (by omega) (by omega)).mono (fun i h => by omega)) (fun pre W => Blk W b8 [.int .i64 ((prv pre : Int) - 1)] 3 ∧ Blk W b9 [.int .i64 (pre.length : Int)] 3 ∧ Blk W b6 [.bool false] 4 ∧ pre.length ≤ prv pre ∧ prv pre ≤ rs.length) (fun c pre W => c = .ret ∧ Blk W b6 [.bool true] 4) (fun s W W' t h => ⟨h.1.turn t, h.2.1.turn t, h.2.2.1.turn t, h.2.2.2⟩) (fun c s W W' t h => ⟨h.1, h.2.turn t⟩) (⟨HB8, HB9, HB6, Nat.le_refl _, Nat.zero_le _⟩) (fun pre x e1 W => ∃ b11 r, Holds [(3, .pointer (some ⟨b3, 0, none⟩)), (4, .pointer (some ⟨b4, 0, none⟩)), (5, .pointer (some ⟨b5, 0, none⟩)), (6, .pointer (some ⟨b6, 0, none⟩)), (8, .pointer (some ⟨b8, 0, none⟩)), (9, .pointer (some ⟨b9, 0, none⟩)), (10, .int .i64 (x.1 : Int)), (11, .pointer (some ⟨b11, 0, none⟩))] e1 ∧ Blk W b11 x.2 37 ∧ w102.heap.size + 2 ≤ b11 ∧ nxG (e, rs) g (prv pre) = (x.1 : Int) ∧ rs[x.1]? = some r ∧ tRg.rep W (fun b => w102.heap.size + 2 ≤ b) x.2 r) (fun pre x e1 W W' t h => by obtain ⟨b11, r, h1, h2, h3, h4, h5, h6⟩ := h; exact ⟨b11, r, h1, h2.turn t.turn, h3, h4, h5, tRg.keep h6 t.keep (fun b _ hb hh => by omega)⟩) ?_ ?_ ?_ ?_
    · skip
      rintro l pre x w103 E EK hY ⟨HB8, HB9, HB6, hp1, hp2⟩
      have zs_EK103 := EK.size
      have zs_E103 := E.size
      replace HG1 := HG1.keep EK (by intro i _ hi he; (try dsimp only [NoK, AllB] at hi he); first | exact hi.elim | exact he.elim | omega | (rcases hi with hi | hi <;> omega) | (rcases he with he | he <;> omega))
      replace HSr := HSr.keep EK (by intro i _ hi he; (try dsimp only [NoK, AllB] at hi he); first | exact hi.elim | exact he.elim | omega | (rcases hi with hi | hi <;> omega) | (rcases he with he | he <;> omega))
      replace HB3 := HB3.keep EK (by intro h; (try dsimp only at h); first | omega)
      replace HB4 := HB4.keep EK (by intro h; (try dsimp only at h); first | omega)
      replace HB5 := HB5.keep EK (by intro h; (try dsimp only at h); first | omega)
      obtain ⟨hm, hnx, hzz, r, hxr, hr⟩ := hY
      obtain ⟨a1, c1, a2, c2, hcs, _, _, _⟩ := tRg_cells hr
      have EL1 := Keep.refl (K := NoK) w103
      refine c_seq ?_
      refine wp_reg (by decide +kernel) ?_
      refine l_v (v_assign (t := .int _ _) rfl) ?_
      refine l_nil ?_
      refine n_then ?_
      refine wp_reg (by decide +kernel) ?_
      refine l_to (to_alloc (z := (.agg #[.slice none 0 0, .slice none 0 0, .bool false, .int .i64 0])) (by unfold kZero; kernel_rfl) ?_)
      rintro b11 w21 zb11 HB23 e21 z21
      have zs_e21 := e21.size
      replace HG1 := HG1.ext e21
      replace HSr := HSr.ext e21
      replace HB3 := HB3.ext e21
      replace HB4 := HB4.ext e21
      replace HB5 := HB5.ext e21
      replace E := E.trans (Ext.keep e21)
      replace HB8 := HB8.ext e21
      replace HB9 := HB9.ext e21
      replace HB6 := HB6.ext e21
      replace EL1 := EL1.trans (Ext.keep e21)
      try simp only [Value.cells] at HB23
      refine l_to (to_storeA (n := 4) rfl rfl (show _ = (Value.agg _) from rfl) (by kernel_rfl) (tRg.len hr) (tRg.one hr) HB23 (by first | exact of_decide_eq_true rfl | (simp; done) | decide) ?_)
      rintro w22 HB24 k22 z22
      have zs_k22 := k22.size
      rw [show x.2.toArray.toList = x.2 from rfl, setAt_all (by rw [hcs]; rfl)] at HB24
      replace HG1 := HG1.keep k22 (by intro i _ hi he; (try dsimp only [NoK, AllB] at hi he); first | exact hi.elim | exact he.elim | omega | (rcases hi with hi | hi <;> omega) | (rcases he with he | he <;> omega))
      replace HSr := HSr.keep k22 (by intro i _ hi he; (try dsimp only [NoK, AllB] at hi he); first | exact hi.elim | exact he.elim | omega | (rcases hi with hi | hi <;> omega) | (rcases he with he | he <;> omega))
      replace HB3 := HB3.keep k22 (by intro h; (try dsimp only at h); first | omega)
      replace HB4 := HB4.keep k22 (by intro h; (try dsimp only at h); first | omega)
      replace HB5 := HB5.keep k22 (by intro h; (try dsimp only at h); first | omega)
      replace E := E.step k22 (by intro i hi he; (try dsimp only [NoK] at hi he ⊢); first | exact he.elim | omega | exact he)
      replace HB8 := HB8.keep k22 (by intro h; (try dsimp only at h); first | omega)
      replace HB9 := HB9.keep k22 (by intro h; (try dsimp only at h); first | omega)
      replace HB6 := HB6.keep k22 (by intro h; (try dsimp only at h); first | omega)
      replace EL1 := EL1.step k22 (by intro i hi he; (try dsimp only [NoK] at hi he ⊢); first | exact he.elim | omega | exact he)
      refine l_nil ?_
      refine n_then ?_
      exact ⟨_, rfl, EL1, ⟨HB8, HB9, HB6, hp1, hp2⟩, b11, r, ⟨rfl, rfl, rfl, rfl, rfl, rfl, rfl, rfl, trivial⟩, HB24, by omega, hnx, hxr, tRg.keep hr EL1 (fun _ _ _ h => h)⟩
    · skip
      rintro l pre x e1 w104 E EK ⟨HB8, HB9, HB6, hp1, hp2⟩ ⟨b11, r, hh, HB23, hb11, hnx, hxr, hr⟩
      have zs_EK104 := EK.size
      have zs_E104 := E.size
      replace HG1 := HG1.keep EK (by intro i _ hi he; (try dsimp only [NoK, AllB] at hi he); first | exact hi.elim | exact he.elim | omega | (rcases hi with hi | hi <;> omega) | (rcases he with he | he <;> omega))
      replace HSr := HSr.keep EK (by intro i _ hi he; (try dsimp only [NoK, AllB] at hi he); first | exact hi.elim | exact he.elim | omega | (rcases hi with hi | hi <;> omega) | (rcases he with he | he <;> omega))
      replace HB3 := HB3.keep EK (by intro h; (try dsimp only at h); first | omega)
      replace HB4 := HB4.keep EK (by intro h; (try dsimp only at h); first | omega)
      replace HB5 := HB5.keep EK (by intro h; (try dsimp only at h); first | omega)
      obtain ⟨jj, rfl⟩ : ∃ j, e1 = updL _ j := ⟨_, hh.upd⟩
      obtain ⟨xi, xcs⟩ := x
      have EL1 := Keep.refl (K := fun i => i = b6 ∨ i = b8 ∨ i = b9) w104
      refine c_block ?_
      refine c_seq ?_
      obtain ⟨a1, c1, a2, c2, hcs, _, _, _⟩ := tRg_cells hr
      simp only at hcs hxr hnx hr HB23
      subst hcs
      have hpx := nxG_ge hnx
      simp only at hpx
      obtain ⟨q, cs, hq, hF, _, HPq, hr2⟩ := HSr.el hxr
      subst hq
      have HG23 : AgV tRg _ _ _ r := ⟨_, rfl, hr⟩
      have HG24 : AgV tRg _ _ _ r := ⟨cs, rfl, hr2⟩
      obtain ⟨b33, d3, b5', d5, rfl, _, _, hg⟩ := tRg_cells hr2
      refine wp_reg (by decide +kernel) ?_
      refine l_v (v_loadA (by kernel_rfl) rfl (by first | exact HPq | exact HB23.pv | exact HB6.pv | exact HB9.pv | exact HB8.pv | exact HB5.pv | exact HB4.pv | exact HB3.pv | assumption) rfl) ?_
      refine l_v (v_load (by kernel_rfl) rfl (by first | exact pv_1 HPq | exact HB23.cell rfl | exact HB6.cell rfl | exact HB9.cell rfl | exact HB8.cell rfl | exact HB5.cell rfl | exact HB4.cell rfl | exact HB3.cell rfl | assumption)) ?_
      refine l_v (v_load (by kernel_rfl) rfl (by first | exact pv_1 HPq | exact HB23.cell rfl | exact HB6.cell rfl | exact HB9.cell rfl | exact HB8.cell rfl | exact HB5.cell rfl | exact HB4.cell rfl | exact HB3.cell rfl | assumption)) ?_
      refine l_to (to_f3 (by kernel_rfl) (show _ = (Value.agg _) from rfl) (show _ = (Value.int _ _) from rfl) (show _ = (Value.int _ _) from rfl) (CallsR.mono (lnext_c HG1 hp2) ?_))
      rintro _ w105 ⟨rfl, e105⟩
      have zs_e105 := e105.size
      replace HG1 := HG1.ext e105
      replace HSr := HSr.ext e105
      replace HB3 := HB3.ext e105
      replace HB4 := HB4.ext e105
      replace HB5 := HB5.ext e105
      replace E := E.trans (Ext.keep e105)
      replace HB8 := HB8.ext e105
      replace HB9 := HB9.ext e105
      replace HB6 := HB6.ext e105
      replace HB23 := HB23.ext e105
      replace EL1 := EL1.trans (Ext.keep e105)
      replace HPq := HPq.ext e105
      replace HG23 := HG23.ext e105
      replace HG24 := HG24.ext e105
      refine l_to (to_store rfl rfl (show _ = (Value.int _ _) from rfl) rfl (by kernel_rfl) HB8 (by first | exact of_decide_eq_true rfl | (simp; done) | decide) ?_)
      rintro w106 HX106 k106 z106
      have zs_k106 := k106.size
      replace HG1 := HG1.keep k106 (by intro i _ hi he; (try dsimp only [NoK, AllB] at hi he); first | exact hi.elim | exact he.elim | omega | (rcases hi with hi | hi <;> omega) | (rcases he with he | he <;> omega))
      replace HSr := HSr.keep k106 (by intro i _ hi he; (try dsimp only [NoK, AllB] at hi he); first | exact hi.elim | exact he.elim | omega | (rcases hi with hi | hi <;> omega) | (rcases he with he | he <;> omega))
      replace HB3 := HB3.keep k106 (by intro h; (try dsimp only at h); first | omega)
      replace HB4 := HB4.keep k106 (by intro h; (try dsimp only at h); first | omega)
      replace HB5 := HB5.keep k106 (by intro h; (try dsimp only at h); first | omega)
      replace E := E.step k106 (by intro i hi he; (try dsimp only [NoK] at hi he ⊢); first | exact he.elim | omega | exact he)
      replace HB9 := HB9.keep k106 (by intro h; (try dsimp only at h); first | omega)
      replace HB6 := HB6.keep k106 (by intro h; (try dsimp only at h); first | omega)
      replace HB23 := HB23.keep k106 (by intro h; (try dsimp only at h); first | omega)
      replace EL1 := EL1.step k106 (by intro i hi he; (try dsimp only [NoK] at hi he ⊢); first | exact he.elim | omega | exact he)
      replace HPq := HPq.keep k106 (by intro h; (try dsimp only at h); (try simp only [add_block] at h); first | omega)
      replace HG23 := HG23.keep k106 (by intro i _ hi he; (try dsimp only [NoK, AllB] at hi he); first | exact hi.elim | exact he.elim | omega | (rcases hi with hi | hi <;> omega) | (rcases he with he | he <;> omega))
      replace HG24 := HG24.keep k106 (by intro i _ hi he; (try dsimp only [NoK, AllB] at hi he); first | exact hi.elim | exact he.elim | omega | (rcases hi with hi | hi <;> omega) | (rcases he with he | he <;> omega))
      replace HB8 := HX106
      clear HX106
      try simp only [List.set_cons_zero, List.set_cons_succ, setAt, List.take_zero, List.take_succ_cons, List.drop_zero, List.drop_succ_cons, List.nil_append, List.cons_append, List.append_nil, List.length_cons, List.length_nil, Nat.zero_add, Nat.reduceAdd, List.drop_nil] at HB8
      refine l_nil ?_
      refine n_then ?_
      refine c_seq ?_
      refine c_seq ?_
      refine wp_regd (NoK) (by kernel_rfl) (by decide +kernel) (by decide +kernel) ?_
      refine rt_v (fun vals w hR hd => v_load (by kernel_rfl) rfl (by first | exact pv_1 (HPq.ext hR) | exact (HB23.ext hR).cell rfl | exact (HB6.ext hR).cell rfl | exact (HB9.ext hR).cell rfl | exact (HB8.ext hR).cell rfl | exact (HB5.ext hR).cell rfl | exact (HB4.ext hR).cell rfl | exact (HB3.ext hR).cell rfl | assumption)) ?_
      refine rt_v (fun vals w hR hd => OpVat.as (b := false) (v_lss (hd 0 rfl) rfl) (decide_eq_false (by rw [hnx]; omega))) ?_
      refine rt_v (fun vals w hR hd => v_move (t := .bool _) (hd 1 rfl)) ?_
      refine rt_hv rfl (fun vals w hd => hd 2 rfl) (fun vals w hR hd => v_move (t := .int _ _) rfl) ?_
      refine rt_hv rfl (fun vals w hd => hd 2 rfl) (fun vals w hR hd => v_load (by kernel_rfl) rfl (by first | exact pv_1 (HPq.ext hR) | exact (HB23.ext hR).cell rfl | exact (HB6.ext hR).cell rfl | exact (HB9.ext hR).cell rfl | exact (HB8.ext hR).cell rfl | exact (HB5.ext hR).cell rfl | exact (HB4.ext hR).cell rfl | exact (HB3.ext hR).cell rfl | assumption)) ?_
      refine rt_hv rfl (fun vals w hd => hd 2 rfl) (fun vals w hR hd => OpVat.as (b := false) (v_neq (hd 3 rfl) (hd 4 rfl)) (by rw [hnx]; simp)) ?_
      refine rt_v (fun vals w hR hd => v_orT (hd 2 rfl) (hd 5 rfl)) ?_
      refine rt_v (fun vals w hR hd => v_move (t := .bool _) (hd 6 rfl)) ?_
      refine rt_hv rfl (fun vals w hd => hd 7 rfl) (fun vals w hR hd => v_loadA (by kernel_rfl) rfl (by first | exact (HPq.ext hR) | exact (HB23.ext hR).pv | exact (HB6.ext hR).pv | exact (HB9.ext hR).pv | exact (HB8.ext hR).pv | exact (HB5.ext hR).pv | exact (HB4.ext hR).pv | exact (HB3.ext hR).pv | assumption) rfl) ?_
      refine rt_hv rfl (fun vals w hd => hd 7 rfl) (fun vals w hR hd => v_fieldAddr (off := 1) (ft := 22) (by kernel_rfl) rfl) ?_
      refine rt_hv rfl (fun vals w hd => hd 7 rfl) (fun vals w hR hd => v_load (by kernel_rfl) (hd 9 rfl) (by first | exact (HPq.ext hR) 1 _ rfl | exact (HB23.ext hR).pv 1 _ rfl | exact (HB6.ext hR).pv 1 _ rfl | exact (HB9.ext hR).pv 1 _ rfl | exact (HB8.ext hR).pv 1 _ rfl | exact (HB5.ext hR).pv 1 _ rfl | exact (HB4.ext hR).pv 1 _ rfl | exact (HB3.ext hR).pv 1 _ rfl | assumption)) ?_
      refine rt_hv rfl (fun vals w hd => hd 7 rfl) (fun vals w hR hd => v_load (by kernel_rfl) rfl (by first | exact pv_1 (HPq.ext hR) | exact (HB23.ext hR).cell rfl | exact (HB6.ext hR).cell rfl | exact (HB9.ext hR).cell rfl | exact (HB8.ext hR).cell rfl | exact (HB5.ext hR).cell rfl | exact (HB4.ext hR).cell rfl | exact (HB3.ext hR).cell rfl | assumption)) ?_
      refine rt_hv rfl (fun vals w hd => hd 7 rfl) (fun vals w hR hd => v_indexAddr (et := 37) (sz := 4) (k := xi) (by kernel_rfl) (by kernel_rfl) (hd 10 rfl) (hd 11 rfl) (by rw [hnx]) (by omega)) ?_
      refine rt_hv rfl (fun vals w hd => hd 7 rfl) (fun vals w hR hd => v_loadA (by kernel_rfl) (hd 12 rfl) (by first | exact (HPq.ext hR) | exact (HB23.ext hR).pv | exact (HB6.ext hR).pv | exact (HB9.ext hR).pv | exact (HB8.ext hR).pv | exact (HB5.ext hR).pv | exact (HB4.ext hR).pv | exact (HB3.ext hR).pv | assumption) rfl) ?_
      refine rt_hvf rfl (fun vals w hd => hd 7 rfl) (fun vals w hR hd => to_f2 (by kernel_rfl) (hd 8 rfl) (hd 13 rfl) (SameRange_c (HG23.ext hR) (HG24.ext hR))) ?_
      refine rt_hv rfl (fun vals w hd => hd 7 rfl) (fun vals w hR hd => v_not (hd 14 rfl)) ?_
      refine rt_v (fun vals w hR hd => v_orT (hd 7 rfl) (hd 15 rfl)) ?_
      refine rt_nil (fun w107 e107 => ?_)
      rintro _ rfl _ rfl _ rfl _ rfl _ rfl _ rfl _ rfl _ rfl _ rfl _ rfl _ rfl _ rfl _ rfl _ rfl _ rfl _ rfl _ rfl
      have zs_e107 := e107.size
      replace HG1 := HG1.ext e107
      replace HSr := HSr.ext e107
      replace HB3 := HB3.ext e107
      replace HB4 := HB4.ext e107
      replace HB5 := HB5.ext e107
      replace E := E.trans (Ext.keep e107)
      replace HB8 := HB8.ext e107
      replace HB9 := HB9.ext e107
      replace HB6 := HB6.ext e107
      replace HB23 := HB23.ext e107
      replace EL1 := EL1.trans (Ext.keep e107)
      replace HPq := HPq.ext e107
      replace HG23 := HG23.ext e107
      replace HG24 := HG24.ext e107
      refine fin_nil ?_
      refine n_then ?_
      refine c_cond rfl rfl (fun hq => ?_) (fun hq => ?_)
      · skip
        simp [sameR] at hq
      · skip
        refine c_skip ?_
        refine n_then ?_
        refine c_seq ?_
        refine wp_reg (by decide +kernel) ?_
        refine l_v (v_load (by kernel_rfl) rfl (by first | exact pv_1 HPq | exact HB23.cell rfl | exact HB6.cell rfl | exact HB9.cell rfl | exact HB8.cell rfl | exact HB5.cell rfl | exact HB4.cell rfl | exact HB3.cell rfl | assumption)) ?_
        refine l_v (v_add rfl rfl (by first | exact wr_i64 (by omega) (by omega) | rfl)) ?_
        refine l_to (to_store rfl rfl (show _ = (Value.int _ _) from rfl) rfl (by kernel_rfl) HB9 (by first | exact of_decide_eq_true rfl | (simp; done) | decide) ?_)
        rintro w108 HX108 k108 z108
        have zs_k108 := k108.size
        replace HG1 := HG1.keep k108 (by intro i _ hi he; (try dsimp only [NoK, AllB] at hi he); first | exact hi.elim | exact he.elim | omega | (rcases hi with hi | hi <;> omega) | (rcases he with he | he <;> omega))
        replace HSr := HSr.keep k108 (by intro i _ hi he; (try dsimp only [NoK, AllB] at hi he); first | exact hi.elim | exact he.elim | omega | (rcases hi with hi | hi <;> omega) | (rcases he with he | he <;> omega))
        replace HB3 := HB3.keep k108 (by intro h; (try dsimp only at h); first | omega)
        replace HB4 := HB4.keep k108 (by intro h; (try dsimp only at h); first | omega)
        replace HB5 := HB5.keep k108 (by intro h; (try dsimp only at h); first | omega)
        replace E := E.step k108 (by intro i hi he; (try dsimp only [NoK] at hi he ⊢); first | exact he.elim | omega | exact he)
        replace HB8 := HB8.keep k108 (by intro h; (try dsimp only at h); first | omega)
        replace HB6 := HB6.keep k108 (by intro h; (try dsimp only at h); first | omega)
        replace HB23 := HB23.keep k108 (by intro h; (try dsimp only at h); first | omega)
        replace EL1 := EL1.step k108 (by intro i hi he; (try dsimp only [NoK] at hi he ⊢); first | exact he.elim | omega | exact he)
        replace HPq := HPq.keep k108 (by intro h; (try dsimp only at h); (try simp only [add_block] at h); first | omega)
        replace HG23 := HG23.keep k108 (by intro i _ hi he; (try dsimp only [NoK, AllB] at hi he); first | exact hi.elim | exact he.elim | omega | (rcases hi with hi | hi <;> omega) | (rcases he with he | he <;> omega))
        replace HG24 := HG24.keep k108 (by intro i _ hi he; (try dsimp only [NoK, AllB] at hi he); first | exact hi.elim | exact he.elim | omega | (rcases hi with hi | hi <;> omega) | (rcases he with he | he <;> omega))
        replace HB9 := HX108
        clear HX108
        try simp only [List.set_cons_zero, List.set_cons_succ, setAt, List.take_zero, List.take_succ_cons, List.drop_zero, List.drop_succ_cons, List.nil_append, List.cons_append, List.append_nil, List.length_cons, List.length_nil, Nat.zero_add, Nat.reduceAdd, List.drop_nil] at HB9
        refine l_nil ?_
        refine n_then ?_
        refine c_seq ?_
        refine wp_reg (by decide +kernel) ?_
        refine l_v (v_load (by kernel_rfl) rfl (by first | exact pv_1 HPq | exact HB23.cell rfl | exact HB6.cell rfl | exact HB9.cell rfl | exact HB8.cell rfl | exact HB5.cell rfl | exact HB4.cell rfl | exact HB3.cell rfl | assumption)) ?_
        refine l_v (v_load (by kernel_rfl) rfl (by first | exact pv_1 HPq | exact HB23.cell rfl | exact HB6.cell rfl | exact HB9.cell rfl | exact HB8.cell rfl | exact HB5.cell rfl | exact HB4.cell rfl | exact HB3.cell rfl | assumption)) ?_
        refine l_v (v_eql rfl rfl) ?_
        refine l_nil ?_
        refine n_then ?_
        refine c_cond rfl rfl (fun hx => ?_) (fun hx => ?_)
        · skip
          refine c_seq ?_
          refine wp_reg (by decide +kernel) ?_
          refine l_to (to_store rfl rfl (show _ = (Value.bool _) from rfl) rfl (by kernel_rfl) HB6 (by first | exact of_decide_eq_true rfl | (simp; done) | decide) ?_)
          rintro w109 HX109 k109 z109
          have zs_k109 := k109.size
          replace HG1 := HG1.keep k109 (by intro i _ hi he; (try dsimp only [NoK, AllB] at hi he); first | exact hi.elim | exact he.elim | omega | (rcases hi with hi | hi <;> omega) | (rcases he with he | he <;> omega))
          replace HSr := HSr.keep k109 (by intro i _ hi he; (try dsimp only [NoK, AllB] at hi he); first | exact hi.elim | exact he.elim | omega | (rcases hi with hi | hi <;> omega) | (rcases he with he | he <;> omega))
          replace HB3 := HB3.keep k109 (by intro h; (try dsimp only at h); first | omega)
          replace HB4 := HB4.keep k109 (by intro h; (try dsimp only at h); first | omega)
          replace HB5 := HB5.keep k109 (by intro h; (try dsimp only at h); first | omega)
          replace E := E.step k109 (by intro i hi he; (try dsimp only [NoK] at hi he ⊢); first | exact he.elim | omega | exact he)
          replace HB8 := HB8.keep k109 (by intro h; (try dsimp only at h); first | omega)
          replace HB9 := HB9.keep k109 (by intro h; (try dsimp only at h); first | omega)
          replace HB23 := HB23.keep k109 (by intro h; (try dsimp only at h); first | omega)
          replace EL1 := EL1.step k109 (by intro i hi he; (try dsimp only [NoK] at hi he ⊢); first | exact he.elim | omega | exact he)
          replace HPq := HPq.keep k109 (by intro h; (try dsimp only at h); (try simp only [add_block] at h); first | omega)
          replace HG23 := HG23.keep k109 (by intro i _ hi he; (try dsimp only [NoK, AllB] at hi he); first | exact hi.elim | exact he.elim | omega | (rcases hi with hi | hi <;> omega) | (rcases he with he | he <;> omega))
          replace HG24 := HG24.keep k109 (by intro i _ hi he; (try dsimp only [NoK, AllB] at hi he); first | exact hi.elim | exact he.elim | omega | (rcases hi with hi | hi <;> omega) | (rcases he with he | he <;> omega))
          replace HB6 := HX109
          clear HX109
          try simp only [List.set_cons_zero, List.set_cons_succ, setAt, List.take_zero, List.take_succ_cons, List.drop_zero, List.drop_succ_cons, List.nil_append, List.cons_append, List.append_nil, List.length_cons, List.length_nil, Nat.zero_add, Nat.reduceAdd, List.drop_nil] at HB6
          refine l_nil ?_
          refine n_then ?_
          refine c_ret ?_
          refine r_blk ?_
          refine ⟨EL1, ?_⟩
          exact ⟨rfl, HB6⟩
        · skip
          refine c_skip ?_
          refine n_blk ?_
          refine ⟨EL1, ?_⟩
          refine ⟨?_, ?_, HB6, ?_, ?_⟩
          · rw [hnx] at HB8; rw [prv_snoc]; simpa using HB8
          · simpa using HB9
          · rw [prv_snoc]; simp; omega
          · rw [prv_snoc]; exact hpx.2
    · skip
      rintro D xs w110 hD E EK hS ⟨HB8, HB9, HB6, hp1, hp2⟩ HD
      have zs_EK110 := EK.size
      have zs_E110 := E.size
      replace HG1 := HG1.keep EK (by intro i _ hi he; (try dsimp only [NoK, AllB] at hi he); first | exact hi.elim | exact he.elim | omega | (rcases hi with hi | hi <;> omega) | (rcases he with he | he <;> omega))
      replace HSr := HSr.keep EK (by intro i _ hi he; (try dsimp only [NoK, AllB] at hi he); first | exact hi.elim | exact he.elim | omega | (rcases hi with hi | hi <;> omega) | (rcases he with he | he <;> omega))
      replace HB3 := HB3.keep EK (by intro h; (try dsimp only at h); first | omega)
      replace HB4 := HB4.keep EK (by intro h; (try dsimp only at h); first | omega)
      replace HB5 := HB5.keep EK (by intro h; (try dsimp only at h); first | omega)
      refine n_blk ?_
      refine n_then ?_
      refine c_seq ?_
      refine wp_reg (by decide +kernel) ?_
      refine l_v (v_loadA (by kernel_rfl) rfl (by first | exact HB6.pv | exact HB9.pv | exact HB8.pv | exact HB5.pv | exact HB4.pv | exact HB3.pv | assumption) rfl) ?_
      refine l_v (v_load (by kernel_rfl) rfl (by first | exact HB6.cell rfl | exact HB9.cell rfl | exact HB8.cell rfl | exact HB5.cell rfl | exact HB4.cell rfl | exact HB3.cell rfl | assumption)) ?_
      refine l_v (v_load (by kernel_rfl) rfl (by first | exact HB6.cell rfl | exact HB9.cell rfl | exact HB8.cell rfl | exact HB5.cell rfl | exact HB4.cell rfl | exact HB3.cell rfl | assumption)) ?_
      refine l_to (to_f3 (by kernel_rfl) (show _ = (Value.agg _) from rfl) (show _ = (Value.int _ _) from rfl) (show _ = (Value.int _ _) from rfl) (CallsR.mono (lnext_c HG1 hp2) ?_))
      rintro _ w111 ⟨rfl, e111⟩
      have zs_e111 := e111.size
      replace HG1 := HG1.ext e111
      replace HSr := HSr.ext e111
      replace HB3 := HB3.ext e111
      replace HB4 := HB4.ext e111
      replace HB5 := HB5.ext e111
      replace E := E.trans (Ext.keep e111)
      replace HB8 := HB8.ext e111
      replace HB9 := HB9.ext e111
      replace HB6 := HB6.ext e111
      replace HD := defB_keep HD e111 (fun h => h)
      refine l_v (v_lss rfl rfl) ?_
      refine l_to (to_store rfl rfl (show _ = (Value.bool _) from rfl) rfl (by kernel_rfl) HB6 (by first | exact of_decide_eq_true rfl | (simp; done) | decide) ?_)
      rintro w112 HX112 k112 z112
      have zs_k112 := k112.size
      replace HG1 := HG1.keep k112 (by intro i _ hi he; (try dsimp only [NoK, AllB] at hi he); first | exact hi.elim | exact he.elim | omega | (rcases hi with hi | hi <;> omega) | (rcases he with he | he <;> omega))
      replace HSr := HSr.keep k112 (by intro i _ hi he; (try dsimp only [NoK, AllB] at hi he); first | exact hi.elim | exact he.elim | omega | (rcases hi with hi | hi <;> omega) | (rcases he with he | he <;> omega))
      replace HB3 := HB3.keep k112 (by intro h; (try dsimp only at h); first | omega)
      replace HB4 := HB4.keep k112 (by intro h; (try dsimp only at h); first | omega)
      replace HB5 := HB5.keep k112 (by intro h; (try dsimp only at h); first | omega)
      replace E := E.step k112 (by intro i hi he; (try dsimp only [NoK] at hi he ⊢); first | exact he.elim | omega | exact he)
      replace HB8 := HB8.keep k112 (by intro h; (try dsimp only at h); first | omega)
      replace HB9 := HB9.keep k112 (by intro h; (try dsimp only at h); first | omega)
      replace HD := defB_keep HD k112 (by intro h; have h := h; (try dsimp only at h); omega)
      replace HB6 := HX112
      clear HX112
      try simp only [List.set_cons_zero, List.set_cons_succ, setAt, List.take_zero, List.take_succ_cons, List.drop_zero, List.drop_succ_cons, List.nil_append, List.cons_append, List.append_nil, List.length_cons, List.length_nil, Nat.zero_add, Nat.reduceAdd, List.drop_nil] at HB6
      refine l_nil ?_
      refine n_then ?_
      refine c_ret ?_
      refine retM1s HD rfl (by decide) rfl (by kernel_rfl) (HB6.cell rfl) ?_
      have E := keep_put E (by omega : w.heap.size ≤ D) (.deferred none)
      refine ⟨?_, E⟩
      rw [hS]; rfl
    · skip
      rintro D _ pre w113 hD E EK hpre ⟨rfl, HB6⟩ HD
      have zs_EK113 := EK.size
      have zs_E113 := E.size
      replace HG1 := HG1.keep EK (by intro i _ hi he; (try dsimp only [NoK, AllB] at hi he); first | exact hi.elim | exact he.elim | omega | (rcases hi with hi | hi <;> omega) | (rcases he with he | he <;> omega))
      replace HSr := HSr.keep EK (by intro i _ hi he; (try dsimp only [NoK, AllB] at hi he); first | exact hi.elim | exact he.elim | omega | (rcases hi with hi | hi <;> omega) | (rcases he with he | he <;> omega))
      replace HB3 := HB3.keep EK (by intro h; (try dsimp only at h); first | omega)
      replace HB4 := HB4.keep EK (by intro h; (try dsimp only at h); first | omega)
      replace HB5 := HB5.keep EK (by intro h; (try dsimp only at h); first | omega)
      refine c_ret ?_
      refine r_blk ?_
      refine r_then ?_
      refine retM1s HD rfl (by decide) rfl (by kernel_rfl) (HB6.cell rfl) ?_
      have E := keep_put E (by omega : w.heap.size ≤ D) (.deferred none)
      exact ⟨rfl, E⟩
end Go.Proofs.Ytkaangdfpjkjpaa
