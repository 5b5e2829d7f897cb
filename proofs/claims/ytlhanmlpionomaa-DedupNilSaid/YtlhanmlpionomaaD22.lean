/- A part of the proof: steps and lemmas for the walks through the given program. -/
import Derived.Test.YtlhanmlpionomaaD21
namespace Go.Proofs.Ytlhanmlpionomaa
open Go.Vc
set_option linter.unusedVariables false
set_option linter.unusedSimpArgs false
set_option maxRecDepth 100000

theorem look_s {S : TbS} {c n : Int} {w : World} {F : Nat → Prop} {b bm : Nat} (HB1 : Blk w b [.map (some bm)] 65) (HT0 : TbI w F bm S) (hok : TbOk S) : CallsR Try.prog 13 #[.pointer (some ⟨b, 0, none⟩), .int .i64 c, .int .i64 n] w (fun o w' => (∃ a1 c1 a2 c2, o = .tuple #[.agg #[.int .i64 (lookN S c n).1.1, .slice a1 (lookN S c n).1.2.1.length c1, .slice a2 (lookN S c n).1.2.2.length c2], .int .i64 (lookN S c n).2.1, .int .i64 (lookN S c n).2.2] ∧ AgV tAnF w' (fun i => w.heap.size ≤ i ∧ i < w'.heap.size) (.agg #[.int .i64 (lookN S c n).1.1, .slice a1 (lookN S c n).1.2.1.length c1, .slice a2 (lookN S c n).1.2.2.length c2]) (lookN S c n).1) ∧ Ext w w') := by
  refine CallsR.mono (Look_c (c := c) (n := n) HB1 HT0 hok) fun o w' h => ⟨?_, h.2⟩
  obtain ⟨⟨v, rfl, h3⟩, _⟩ := h
  obtain ⟨a1, c1, a2, c2, rfl, _⟩ := h3.anF
  exact ⟨a1, c1, a2, c2, rfl, h3.mono fun i hi h => ⟨h, hi⟩⟩
theorem reflook_s {S : TbS} {c n : Int} {w : World} {F : Nat → Prop} {b : Nat} {cells : List Value} (HB1 : Blk w b cells 48) (HT1 : RfC w F cells S) (hok : TbOk S) : CallsR Try.prog 14 #[.pointer (some ⟨b, 0, none⟩), .int .i64 c, .int .i64 n] w (fun o w' => (∃ a1 c1 a2 c2, o = .tuple #[.agg #[.int .i64 (lookN S c n).1.1, .slice a1 (lookN S c n).1.2.1.length c1, .slice a2 (lookN S c n).1.2.2.length c2], .int .i64 (lookN S c n).2.1, .int .i64 (lookN S c n).2.2] ∧ AgV tAn w' F (.agg #[.int .i64 (lookN S c n).1.1, .slice a1 (lookN S c n).1.2.1.length c1, .slice a2 (lookN S c n).1.2.2.length c2]) (lookN S c n).1) ∧ Ext w w') := by
  refine CallsR.mono (refLook_c (c := c) (n := n) HB1 HT1 hok) fun o w' h => ⟨?_, h.2⟩
  obtain ⟨⟨v, rfl, h3⟩, _⟩ := h
  obtain ⟨a1, c1, a2, c2, rfl, _⟩ := h3.an
  exact ⟨a1, c1, a2, c2, rfl, h3⟩
set_option maxHeartbeats 4000000 in
theorem DedupLooks_c {w : World} {F : Nat → Prop} {v : Value} {l : List DsV} {c n : Int} (HS1 : SlV tDs w F v l) : CallsR Try.prog 3 #[v, .int .i64 c, .int .i64 n] w (fun o w' => o = .bool true ∧ Ext w w') := by
  obtain ⟨a0, c0, rfl⟩ := HS1.shape
  obtain ⟨n0, hn0⟩ : ∃ n, n = w.heap.size := ⟨_, rfl⟩
  refine enter 77 Try.func3 rfl rfl (by simp) ?_
  refine c_seq ?_
  have E := Keep.refl (K := NoK) w
  replace HS1 := HS1.all
  refine wp_reg (by decide +kernel) ?_
  refine l_v (v_assign rfl) ?_
  refine l_nil ?_
  refine n_then ?_
  refine c_seq ?_
  refine c_seq ?_
  refine wp_reg (by decide +kernel) ?_
  refine l_v (v_move (t := .slice _ _ _) rfl) ?_
  refine l_to (to_f1 (by kernel_rfl) (show _ = (Value.slice _ _ _) from rfl) (CallsR.mono (much_c HS1) ?_))
  rintro _ w101 ⟨rfl, e101⟩
  have zs_e101 := e101.size
  replace E := E.trans (Ext.keep e101)
  replace HS1 := HS1.ext e101
  refine l_nil ?_
  refine n_then ?_
  refine c_cond rfl rfl (fun hm => ?_) (fun hm => ?_)
  · skip
    refine c_seq ?_
    refine wp_reg (by decide +kernel) ?_
    refine l_to (to_f0 (by kernel_rfl) (CallsR.mono (known_c) ?_))
    rintro _ w102 ⟨rfl, e102⟩
    have zs_e102 := e102.size
    replace E := E.trans (Ext.keep e102)
    replace HS1 := HS1.ext e102
    refine l_v (v_assign (t := .bool _) rfl) ?_
    refine l_nil ?_
    refine n_then ?_
    refine c_ret ?_
    refine r_then ?_
    refine ret1v rfl (by decide) (show _ = (Value.bool _) from rfl) ?_
    exact ⟨rfl, E⟩
  · skip
    refine c_skip ?_
    refine n_then ?_
    refine c_seq ?_
    refine wp_reg (by decide +kernel) ?_
    refine l_v (v_move (t := .slice _ _ _) rfl) ?_
    refine l_to (to_f1 (by kernel_rfl) (show _ = (Value.slice _ _ _) from rfl) (CallsR.mono (fill_c HS1 hm) ?_))
    rintro _ w24 ⟨⟨b, bm, br, cells, S, rfl, hT⟩, e24⟩
    have zs_e24 := e24.size
    replace E := E.trans (Ext.keep e24)
    replace HS1 := HS1.ext e24
    refine l_v (v_move (t := .tuple _) rfl) ?_
    refine l_v (v_extract (t := .pointer _) rfl rfl) ?_
    refine l_v (v_extract (t := .pointer _) rfl rfl) ?_
    refine l_v (v_extract (t := .bool _) rfl rfl) ?_
    refine l_v (v_assign (t := .pointer _) rfl) ?_
    refine l_v (v_assign (t := .pointer _) rfl) ?_
    refine l_v (v_assign (t := .bool _) rfl) ?_
    refine l_nil ?_
    refine n_then ?_
    refine c_seq ?_
    refine c_seq ?_
    refine wp_reg (by decide +kernel) ?_
    refine l_v (v_move (t := .bool _) rfl) ?_
    refine l_v (v_not rfl) ?_
    refine l_nil ?_
    refine n_then ?_
    refine c_cond rfl rfl (fun hnot => ?_) (fun hnot => ?_)
    · skip
      cases hnot
    · skip
      obtain ⟨hok, d1, d2, d3, d4, d5, d6, HB5, HT5, HB6, HT6⟩ := hT
      replace HT5 := HT5.mono (F' := fun i => i < w24.heap.size) fun i hi h => hi
      replace HT6 := HT6.mono (F' := fun i => i < w24.heap.size) fun i hi h => hi
      have zb5 := HB5.lt
      have zm5 := HT5.lt
      have zb6 := HB6.lt
      refine c_skip ?_
      refine n_then ?_
      refine c_seq ?_
      refine wp_reg (by decide +kernel) ?_
      refine l_v (v_move (t := .pointer _) rfl) ?_
      refine l_v (v_move (t := .int _ _) rfl) ?_
      refine l_v (v_move (t := .int _ _) rfl) ?_
      refine l_to (to_f3 (by kernel_rfl) (show _ = (Value.pointer _) from rfl) (show _ = (Value.int _ _) from rfl) (show _ = (Value.int _ _) from rfl) (CallsR.mono (look_s HB5 HT5 hok) ?_))
      rintro _ w34 ⟨⟨a1, c1, a2, c2, rfl, HG10⟩, e34⟩
      have zs_e34 := e34.size
      replace E := E.trans (Ext.keep e34)
      replace HS1 := HS1.ext e34
      replace HB5 := HB5.ext e34
      replace HT5 := HT5.ext e34
      replace HB6 := HB6.ext e34
      replace HT6 := HT6.ext e34
      refine l_v (v_move (t := .tuple _) rfl) ?_
      refine l_v (v_extract (t := .agg _) rfl rfl) ?_
      refine l_v (v_extract (t := .int _ _) rfl rfl) ?_
      refine l_v (v_extract (t := .int _ _) rfl rfl) ?_
      refine l_to (to_alloc (z := (.agg #[.int .i64 0, .slice none 0 0, .slice none 0 0])) (by unfold kZero; kernel_rfl) ?_)
      rintro b10 w10 zb10 HB10 e10 z10
      have zs_e10 := e10.size
      replace E := E.trans (Ext.keep e10)
      replace HS1 := HS1.ext e10
      replace HB5 := HB5.ext e10
      replace HT5 := HT5.ext e10
      replace HB6 := HB6.ext e10
      replace HT6 := HT6.ext e10
      replace HG10 := HG10.ext e10
      try simp only [Value.cells] at HB10
      refine l_to (to_storeA (n := 3) rfl rfl (show _ = (Value.agg _) from rfl) (by kernel_rfl) rfl (by first | (simp [slice_one]; done) | (simp only [List.forall_mem_cons, List.cons_append, List.nil_append]; repeat' (first | exact rfl | apply And.intro | (intro u hu; cases hu; done)))) HB10 (by first | exact of_decide_eq_true rfl | (simp; done) | decide | (simp only [List.length_set, hlen]; exact of_decide_eq_true rfl)) ?_)
      rintro w103 HX103 k103 z103
      have zs_k103 := k103.size
      replace E := E.step k103 (by intro i hi he; (try dsimp only [NoK] at hi he ⊢); first | exact he.elim | omega | exact he)
      replace HS1 := HS1.keep k103 (by intro i _ hi he; (try dsimp only [NoK, AllB] at hi he); first | exact hi.elim | exact he.elim | omega | (rcases hi with hi | hi <;> omega) | (rcases he with he | he <;> omega))
      replace HB5 := HB5.keep k103 (by intro h; (try dsimp only at h); first | omega)
      replace HT5 := HT5.keep k103 (by intro i _ hi he; (try dsimp only [NoK, AllB] at hi he); first | exact hi.elim | exact he.elim | omega | (rcases hi with hi | hi <;> omega) | (rcases he with he | he <;> omega))
      replace HB6 := HB6.keep k103 (by intro h; (try dsimp only at h); first | omega)
      replace HT6 := HT6.keep k103 (by intro i _ hi he; (try dsimp only [NoK, AllB] at hi he); first | exact hi.elim | exact he.elim | omega | (rcases hi with hi | hi <;> omega) | (rcases he with he | he <;> omega))
      replace HG10 := HG10.keep k103 (by intro i _ hi he; (try dsimp only [NoK, AllB] at hi he); first | exact hi.elim | exact he.elim | omega | (rcases hi with hi | hi <;> omega) | (rcases he with he | he <;> omega))
      replace HB10 := HX103
      clear HX103
      try simp only [List.set_cons_zero, List.set_cons_succ, setAt, List.take_zero, List.take_succ_cons, List.drop_zero, List.drop_succ_cons, List.nil_append, List.cons_append, List.append_nil, List.length_cons, List.length_nil, Nat.zero_add, Nat.reduceAdd, List.drop_nil] at HB10
      refine l_v (v_assign (t := .int _ _) rfl) ?_
      refine l_v (v_assign (t := .int _ _) rfl) ?_
      refine l_nil ?_
      refine n_then ?_
      refine c_seq ?_
      refine wp_reg (by decide +kernel) ?_
      refine l_v (v_move (t := .pointer _) rfl) ?_
      refine l_v (v_move (t := .int _ _) rfl) ?_
      refine l_v (v_move (t := .int _ _) rfl) ?_
      refine l_to (to_f3 (by kernel_rfl) (show _ = (Value.pointer _) from rfl) (show _ = (Value.int _ _) from rfl) (show _ = (Value.int _ _) from rfl) (CallsR.mono (reflook_s HB6 HT6 hok) ?_))
      rintro _ w42 ⟨⟨a3, c3, a4, c4, rfl, HG13⟩, e42⟩
      have zs_e42 := e42.size
      replace E := E.trans (Ext.keep e42)
      replace HS1 := HS1.ext e42
      replace HB5 := HB5.ext e42
      replace HT5 := HT5.ext e42
      replace HB6 := HB6.ext e42
      replace HT6 := HT6.ext e42
      replace HG10 := HG10.ext e42
      replace HB10 := HB10.ext e42
      refine l_v (v_move (t := .tuple _) rfl) ?_
      refine l_v (v_extract (t := .agg _) rfl rfl) ?_
      refine l_v (v_extract (t := .int _ _) rfl rfl) ?_
      refine l_v (v_extract (t := .int _ _) rfl rfl) ?_
      refine l_to (to_alloc (z := (.agg #[.int .i64 0, .slice none 0 0, .slice none 0 0])) (by unfold kZero; kernel_rfl) ?_)
      rintro b13 w13 zb13 HB13 e13 z13
      have zs_e13 := e13.size
      replace E := E.trans (Ext.keep e13)
      replace HS1 := HS1.ext e13
      replace HB5 := HB5.ext e13
      replace HT5 := HT5.ext e13
      replace HB6 := HB6.ext e13
      replace HT6 := HT6.ext e13
      replace HG10 := HG10.ext e13
      replace HB10 := HB10.ext e13
      replace HG13 := HG13.ext e13
      try simp only [Value.cells] at HB13
      refine l_to (to_storeA (n := 3) rfl rfl (show _ = (Value.agg _) from rfl) (by kernel_rfl) rfl (by first | (simp [slice_one]; done) | (simp only [List.forall_mem_cons, List.cons_append, List.nil_append]; repeat' (first | exact rfl | apply And.intro | (intro u hu; cases hu; done)))) HB13 (by first | exact of_decide_eq_true rfl | (simp; done) | decide | (simp only [List.length_set, hlen]; exact of_decide_eq_true rfl)) ?_)
      rintro w104 HX104 k104 z104
      have zs_k104 := k104.size
      replace E := E.step k104 (by intro i hi he; (try dsimp only [NoK] at hi he ⊢); first | exact he.elim | omega | exact he)
      replace HS1 := HS1.keep k104 (by intro i _ hi he; (try dsimp only [NoK, AllB] at hi he); first | exact hi.elim | exact he.elim | omega | (rcases hi with hi | hi <;> omega) | (rcases he with he | he <;> omega))
      replace HB5 := HB5.keep k104 (by intro h; (try dsimp only at h); first | omega)
      replace HT5 := HT5.keep k104 (by intro i _ hi he; (try dsimp only [NoK, AllB] at hi he); first | exact hi.elim | exact he.elim | omega | (rcases hi with hi | hi <;> omega) | (rcases he with he | he <;> omega))
      replace HB6 := HB6.keep k104 (by intro h; (try dsimp only at h); first | omega)
      replace HT6 := HT6.keep k104 (by intro i _ hi he; (try dsimp only [NoK, AllB] at hi he); first | exact hi.elim | exact he.elim | omega | (rcases hi with hi | hi <;> omega) | (rcases he with he | he <;> omega))
      replace HG10 := HG10.keep k104 (by intro i _ hi he; (try dsimp only [NoK, AllB] at hi he); first | exact hi.elim | exact he.elim | omega | (rcases hi with hi | hi <;> omega) | (rcases he with he | he <;> omega))
      replace HB10 := HB10.keep k104 (by intro h; (try dsimp only at h); first | omega)
      replace HG13 := HG13.keep k104 (by intro i _ hi he; (try dsimp only [NoK, AllB] at hi he); first | exact hi.elim | exact he.elim | omega | (rcases hi with hi | hi <;> omega) | (rcases he with he | he <;> omega))
      replace HB13 := HX104
      clear HX104
      try simp only [List.set_cons_zero, List.set_cons_succ, setAt, List.take_zero, List.take_succ_cons, List.drop_zero, List.drop_succ_cons, List.nil_append, List.cons_append, List.append_nil, List.length_cons, List.length_nil, Nat.zero_add, Nat.reduceAdd, List.drop_nil] at HB13
      refine l_v (v_assign (t := .int _ _) rfl) ?_
      refine l_v (v_assign (t := .int _ _) rfl) ?_
      refine l_nil ?_
      refine n_then ?_
      refine c_seq ?_
      refine c_seq ?_
      refine wp_reg (by decide +kernel) ?_
      refine l_v (v_loadA (by kernel_rfl) rfl (by first | exact HB13.pv | exact HB10.pv | exact HB6.pv | exact HB5.pv | assumption) rfl) ?_
      refine l_v (v_loadA (by kernel_rfl) rfl (by first | exact HB13.pv | exact HB10.pv | exact HB6.pv | exact HB5.pv | assumption) rfl) ?_
      refine l_to (to_f2 (by kernel_rfl) (show _ = (Value.agg _) from rfl) (show _ = (Value.agg _) from rfl) (CallsR.mono (refSameAnswer_c (AgV.imp imp_an HG10) HG13) ?_))
      rintro _ w105 ⟨rfl, e105⟩
      have zs_e105 := e105.size
      replace E := E.trans (Ext.keep e105)
      replace HS1 := HS1.ext e105
      replace HB5 := HB5.ext e105
      replace HT5 := HT5.ext e105
      replace HB6 := HB6.ext e105
      replace HT6 := HT6.ext e105
      replace HG10 := HG10.ext e105
      replace HB10 := HB10.ext e105
      replace HG13 := HG13.ext e105
      replace HB13 := HB13.ext e105
      refine l_v (v_not rfl) ?_
      refine l_v (v_move (t := .bool _) rfl) ?_
      refine l_g1 rfl rfl (fun hG => v_move (t := .int _ _) rfl) ?_
      refine l_g1 rfl rfl (fun hG => v_move (t := .int _ _) rfl) ?_
      refine l_g1 rfl rfl (fun hG => v_neq (gd hG rfl) (gd hG rfl)) ?_
      refine l_v (v_or rfl rfl) ?_
      refine l_v (v_move (t := .bool _) rfl) ?_
      refine l_g1 rfl rfl (fun hG => v_move (t := .int _ _) rfl) ?_
      refine l_g1f rfl rfl (fun hG => to_f1 (by kernel_rfl) (gd hG rfl) (num_c)) ?_
      rintro w106 e106
      have zs_e106 := e106.size
      replace E := E.trans (Ext.keep e106)
      replace HS1 := HS1.ext e106
      replace HB5 := HB5.ext e106
      replace HT5 := HT5.ext e106
      replace HB6 := HB6.ext e106
      replace HT6 := HT6.ext e106
      replace HG10 := HG10.ext e106
      replace HB10 := HB10.ext e106
      replace HG13 := HG13.ext e106
      replace HB13 := HB13.ext e106
      refine l_g1 rfl rfl (fun hG => v_move (t := .int _ _) rfl) ?_
      refine l_g1 rfl rfl (fun hG => v_neq (gd hG rfl) (gd hG rfl)) ?_
      refine l_v (v_or rfl rfl) ?_
      refine l_nil ?_
      refine n_then ?_
      refine c_cond rfl rfl (fun hq => ?_) (fun hq => ?_)
      · skip
        simp at hq
      · skip
        refine c_skip ?_
        refine n_then ?_
        refine c_seq ?_
        refine wp_reg (by decide +kernel) ?_
        refine l_v (v_loadA (by kernel_rfl) rfl (by first | exact HB13.pv | exact HB10.pv | exact HB6.pv | exact HB5.pv | assumption) rfl) ?_
        refine l_to (to_f1 (by kernel_rfl) (show _ = (Value.agg _) from rfl) (CallsR.mono (spoil_c HG10 (fun i h => by omega)) ?_))
        rintro _ w62 k62
        have zs_k62 := k62.size
        replace E := E.step k62 (by intro i hi he; (try dsimp only [NoK] at hi he ⊢); first | exact he.elim | omega | exact he)
        replace HS1 := HS1.keep k62 (by intro i _ hi he; (try dsimp only [NoK, AllB] at hi he); first | exact hi.elim | exact he.elim | omega | (rcases hi with hi | hi <;> omega) | (rcases he with he | he <;> omega))
        replace HB5 := HB5.keep k62 (by intro h; (try dsimp only at h); first | omega)
        replace HT5 := HT5.keep k62 (by intro i _ hi he; (try dsimp only [NoK, AllB] at hi he); first | exact hi.elim | exact he.elim | omega | (rcases hi with hi | hi <;> omega) | (rcases he with he | he <;> omega))
        replace HB6 := HB6.keep k62 (by intro h; (try dsimp only at h); first | omega)
        replace HT6 := HT6.keep k62 (by intro i _ hi he; (try dsimp only [NoK, AllB] at hi he); first | exact hi.elim | exact he.elim | omega | (rcases hi with hi | hi <;> omega) | (rcases he with he | he <;> omega))
        replace HB10 := HB10.keep k62 (by intro h; (try dsimp only at h); first | omega)
        replace HG13 := HG13.keep k62 (by intro i _ hi he; (try dsimp only [NoK, AllB] at hi he); first | exact hi.elim | exact he.elim | omega | (rcases hi with hi | hi <;> omega) | (rcases he with he | he <;> omega))
        replace HB13 := HB13.keep k62 (by intro h; (try dsimp only at h); first | omega)
        refine l_nil ?_
        refine n_then ?_
        refine c_seq ?_
        refine wp_reg (by decide +kernel) ?_
        refine l_v (v_move (t := .pointer _) rfl) ?_
        refine l_v (v_move (t := .int _ _) rfl) ?_
        refine l_v (v_move (t := .int _ _) rfl) ?_
        refine l_to (to_f3 (by kernel_rfl) (show _ = (Value.pointer _) from rfl) (show _ = (Value.int _ _) from rfl) (show _ = (Value.int _ _) from rfl) (CallsR.mono (look_s HB5 HT5 hok) ?_))
        rintro _ w67 ⟨⟨a5, c5, a6, c6, rfl, HG16⟩, e67⟩
        have zs_e67 := e67.size
        replace E := E.trans (Ext.keep e67)
        replace HS1 := HS1.ext e67
        replace HB5 := HB5.ext e67
        replace HT5 := HT5.ext e67
        replace HB6 := HB6.ext e67
        replace HT6 := HT6.ext e67
        replace HB10 := HB10.ext e67
        replace HG13 := HG13.ext e67
        replace HB13 := HB13.ext e67
        refine l_v (v_move (t := .tuple _) rfl) ?_
        refine l_v (v_extract (t := .agg _) rfl rfl) ?_
        refine l_v (v_extract (t := .int _ _) rfl rfl) ?_
        refine l_v (v_extract (t := .int _ _) rfl rfl) ?_
        refine l_to (to_alloc (z := (.agg #[.int .i64 0, .slice none 0 0, .slice none 0 0])) (by unfold kZero; kernel_rfl) ?_)
        rintro b16 w16 zb16 HB16 e16 z16
        have zs_e16 := e16.size
        replace E := E.trans (Ext.keep e16)
        replace HS1 := HS1.ext e16
        replace HB5 := HB5.ext e16
        replace HT5 := HT5.ext e16
        replace HB6 := HB6.ext e16
        replace HT6 := HT6.ext e16
        replace HB10 := HB10.ext e16
        replace HG13 := HG13.ext e16
        replace HB13 := HB13.ext e16
        replace HG16 := HG16.ext e16
        try simp only [Value.cells] at HB16
        refine l_to (to_storeA (n := 3) rfl rfl (show _ = (Value.agg _) from rfl) (by kernel_rfl) rfl (by first | (simp [slice_one]; done) | (simp only [List.forall_mem_cons, List.cons_append, List.nil_append]; repeat' (first | exact rfl | apply And.intro | (intro u hu; cases hu; done)))) HB16 (by first | exact of_decide_eq_true rfl | (simp; done) | decide | (simp only [List.length_set, hlen]; exact of_decide_eq_true rfl)) ?_)
        rintro w107 HX107 k107 z107
        have zs_k107 := k107.size
        replace E := E.step k107 (by intro i hi he; (try dsimp only [NoK] at hi he ⊢); first | exact he.elim | omega | exact he)
        replace HS1 := HS1.keep k107 (by intro i _ hi he; (try dsimp only [NoK, AllB] at hi he); first | exact hi.elim | exact he.elim | omega | (rcases hi with hi | hi <;> omega) | (rcases he with he | he <;> omega))
        replace HB5 := HB5.keep k107 (by intro h; (try dsimp only at h); first | omega)
        replace HT5 := HT5.keep k107 (by intro i _ hi he; (try dsimp only [NoK, AllB] at hi he); first | exact hi.elim | exact he.elim | omega | (rcases hi with hi | hi <;> omega) | (rcases he with he | he <;> omega))
        replace HB6 := HB6.keep k107 (by intro h; (try dsimp only at h); first | omega)
        replace HT6 := HT6.keep k107 (by intro i _ hi he; (try dsimp only [NoK, AllB] at hi he); first | exact hi.elim | exact he.elim | omega | (rcases hi with hi | hi <;> omega) | (rcases he with he | he <;> omega))
        replace HB10 := HB10.keep k107 (by intro h; (try dsimp only at h); first | omega)
        replace HG13 := HG13.keep k107 (by intro i _ hi he; (try dsimp only [NoK, AllB] at hi he); first | exact hi.elim | exact he.elim | omega | (rcases hi with hi | hi <;> omega) | (rcases he with he | he <;> omega))
        replace HB13 := HB13.keep k107 (by intro h; (try dsimp only at h); first | omega)
        replace HG16 := HG16.keep k107 (by intro i _ hi he; (try dsimp only [NoK, AllB] at hi he); first | exact hi.elim | exact he.elim | omega | (rcases hi with hi | hi <;> omega) | (rcases he with he | he <;> omega))
        replace HB16 := HX107
        clear HX107
        try simp only [List.set_cons_zero, List.set_cons_succ, setAt, List.take_zero, List.take_succ_cons, List.drop_zero, List.drop_succ_cons, List.nil_append, List.cons_append, List.append_nil, List.length_cons, List.length_nil, Nat.zero_add, Nat.reduceAdd, List.drop_nil] at HB16
        refine l_v (v_assign (t := .int _ _) rfl) ?_
        refine l_v (v_assign (t := .int _ _) rfl) ?_
        refine l_nil ?_
        refine n_then ?_
        refine c_seq ?_
        refine wp_reg (by decide +kernel) ?_
        refine l_v (v_loadA (by kernel_rfl) rfl (by first | exact HB16.pv | exact HB13.pv | exact HB10.pv | exact HB6.pv | exact HB5.pv | assumption) rfl) ?_
        refine l_v (v_loadA (by kernel_rfl) rfl (by first | exact HB16.pv | exact HB13.pv | exact HB10.pv | exact HB6.pv | exact HB5.pv | assumption) rfl) ?_
        refine l_to (to_f2 (by kernel_rfl) (show _ = (Value.agg _) from rfl) (show _ = (Value.agg _) from rfl) (CallsR.mono (refSameAnswer_c (AgV.imp imp_an HG16) HG13) ?_))
        rintro _ w108 ⟨rfl, e108⟩
        have zs_e108 := e108.size
        replace E := E.trans (Ext.keep e108)
        replace HS1 := HS1.ext e108
        replace HB5 := HB5.ext e108
        replace HT5 := HT5.ext e108
        replace HB6 := HB6.ext e108
        replace HT6 := HT6.ext e108
        replace HB10 := HB10.ext e108
        replace HG13 := HG13.ext e108
        replace HB13 := HB13.ext e108
        replace HG16 := HG16.ext e108
        replace HB16 := HB16.ext e108
        refine l_v (v_move (t := .bool _) rfl) ?_
        refine l_g1f rfl rfl (fun hG => to_f0 (by kernel_rfl) (known_c)) ?_
        rintro w109 e109
        have zs_e109 := e109.size
        replace E := E.trans (Ext.keep e109)
        replace HS1 := HS1.ext e109
        replace HB5 := HB5.ext e109
        replace HT5 := HT5.ext e109
        replace HB6 := HB6.ext e109
        replace HT6 := HT6.ext e109
        replace HB10 := HB10.ext e109
        replace HG13 := HG13.ext e109
        replace HB13 := HB13.ext e109
        replace HG16 := HG16.ext e109
        replace HB16 := HB16.ext e109
        refine l_v (v_and rfl rfl) ?_
        refine l_v (v_assign (t := .bool _) rfl) ?_
        refine l_nil ?_
        refine n_then ?_
        refine c_ret ?_
        refine ret1v rfl (by decide) (show _ = (Value.bool _) from rfl) ?_
        refine ⟨?_, E⟩
        simp
end Go.Proofs.Ytlhanmlpionomaa
