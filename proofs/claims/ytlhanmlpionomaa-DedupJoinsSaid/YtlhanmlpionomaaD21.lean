/- A part of the proof: steps and lemmas for the walks through the given program. -/
import Derived.Test.YtlhanmlpionomaaD20
namespace Go.Proofs.Ytlhanmlpionomaa
open Go.Vc
set_option linter.unusedVariables false
set_option linter.unusedSimpArgs false
set_option maxRecDepth 100000

def zeroC : List Value := [.int .i64 0, .int .i64 0, .int .i64 0, .int .i64 0, .int .i64 0, .int .i64 0, .slice none 0 0, .slice none 0 0, .int .i64 0, .slice none 0 0, .slice none 0 0, .int .i64 0, .slice none 0 0, .slice none 0 0, .int .i64 0, .slice none 0 0, .slice none 0 0, .int .i64 0, .slice none 0 0, .slice none 0 0]
theorem RfC.new (w : World) (F : Nat → Prop) : RfC w F zeroC (fun _ => none) := by
  refine ⟨rfl, fun c hc => ?_, fun c hc => ?_⟩
  · have h : c = 0 ∨ c = 1 ∨ c = 2 ∨ c = 3 ∨ c = 4 := by omega
    rcases h with rfl | rfl | rfl | rfl | rfl <;> rfl
  · have h : c = 0 ∨ c = 1 ∨ c = 2 ∨ c = 3 ∨ c = 4 := by omega
    have h0 : tAn.rep w F [.int .i64 0, .slice none 0 0, .slice none 0 0] an0 := tAn_mk (SlV.nil _ _ _) (SlV.nil _ _ _) ⟨by decide, by decide⟩
    rcases h with rfl | rfl | rfl | rfl | rfl <;> exact h0
def S6 : TbS := updS S0 2 (3, (6, [], []))
theorem S6_ok : TbOk S6 := putN_ok (S := S0) (c := 2) (n := 3) (a := (6, [], [])) ok_new
theorem pt7 : putN S0 2 3 (6, [], []) = (0, S6) := rfl
/-- two tables that are filled alike -/
structure TT (W : World) (n0 b bm br : Nat) (cells : List Value) (S : TbS) : Prop where
  ok : TbOk S
  g1 : n0 ≤ b
  g2 : n0 ≤ bm
  g3 : n0 ≤ br
  g4 : b ≠ bm
  g5 : b ≠ br
  g6 : bm ≠ br
  b1 : Blk W b [.map (some bm)] 65
  t1 : TbI W (fun i => n0 ≤ i ∧ i ≠ b ∧ i ≠ bm ∧ i ≠ br) bm S
  b2 : Blk W br cells 48
  t2 : RfC W (fun i => n0 ≤ i ∧ i ≠ b ∧ i ≠ bm ∧ i ≠ br) cells S
theorem TT.keep {W W' : World} {K : Nat → Prop} {n0 b bm br : Nat} {cells : List Value} {S : TbS} (h : TT W n0 b bm br cells S) (k : Keep K W W') (hk : ∀ i, i < W.heap.size → n0 ≤ i → ¬ K i) : TT W' n0 b bm br cells S :=
  ⟨h.ok, h.g1, h.g2, h.g3, h.g4, h.g5, h.g6, h.b1.keep k (hk _ h.b1.lt h.g1), h.t1.keep k (fun i hi hf => hk i hi (by rcases hf with hf | rfl; exact hf.1; exact h.g2)), h.b2.keep k (hk _ h.b2.lt h.g3), h.t2.keep k (fun i hi hf => hk i hi hf.1)⟩
theorem TT.ext {W W' : World} {n0 b bm br : Nat} {cells : List Value} {S : TbS} (h : TT W n0 b bm br cells S) (k : Ext W W') : TT W' n0 b bm br cells S := h.keep k (fun _ _ _ x => x)
set_option maxHeartbeats 16000000 in
theorem fill_c {w : World} {F : Nat → Prop} {v : Value} {l : List DsV} (HS1 : SlV tDs w F v l) (hsm : muchS l = false) : CallsR Try.prog 12 #[v] w (fun o w' => (∃ b bm br cells S, o = .tuple #[.pointer (some ⟨b, 0, none⟩), .pointer (some ⟨br, 0, none⟩), .bool true] ∧ TT w' w.heap.size b bm br cells S) ∧ Ext w w') := by
  obtain ⟨a0, c0, rfl⟩ := HS1.shape
  obtain ⟨hll, hsa⟩ := muchS_ok hsm
  have hmx := HS1.len_max
  obtain ⟨n0, hn0⟩ : ∃ n, n = w.heap.size := ⟨_, rfl⟩
  refine enter 89 Try.func12 rfl rfl (by simp) ?_
  refine c_seq ?_
  have E := Keep.refl (K := NoK) w
  replace HS1 := HS1.all
  refine wp_reg (by decide +kernel) ?_
  refine l_v (v_assign rfl) ?_
  refine l_v (v_assign rfl) ?_
  refine l_v (v_assign rfl) ?_
  refine l_nil ?_
  refine n_then ?_
  refine c_seq ?_
  refine wp_reg (by decide +kernel) ?_
  refine l_to (to_f0 (by kernel_rfl) (CallsR.mono (New_c) ?_))
  rintro _ w13 ⟨b5, m5, rfl, hm5, hb5, hn5, HB5, HT5, e13⟩
  have zs_e13 := e13.size
  have zb5 := HB5.lt
  have zm5 := HT5.lt
  replace E := E.trans (Ext.keep e13)
  replace HS1 := HS1.ext e13
  refine l_v (v_build (pl := [(0, 5), (5, 15)]) (z := .agg #[.int .i64 0, .int .i64 0, .int .i64 0, .int .i64 0, .int .i64 0, .int .i64 0, .slice none 0 0, .slice none 0 0, .int .i64 0, .slice none 0 0, .slice none 0 0, .int .i64 0, .slice none 0 0, .slice none 0 0, .int .i64 0, .slice none 0 0, .slice none 0 0, .int .i64 0, .slice none 0 0, .slice none 0 0]) (zl := [.int .i64 0, .int .i64 0, .int .i64 0, .int .i64 0, .int .i64 0, .int .i64 0, .slice none 0 0, .slice none 0 0, .int .i64 0, .slice none 0 0, .slice none 0 0, .int .i64 0, .slice none 0 0, .slice none 0 0, .int .i64 0, .slice none 0 0, .slice none 0 0, .int .i64 0, .slice none 0 0, .slice none 0 0]) (by kernel_rfl) (by unfold kZero; kernel_rfl) rfl rfl (cells := [_, _, _, _, _, _, _, _, _, _, _, _, _, _, _, _, _, _, _, _]) rfl) ?_
  refine l_to (to_box (show _ = (Value.agg _) from rfl) ?_)
  rintro b15 w15 zb15 HB15 e15 z15
  have zs_e15 := e15.size
  replace E := E.trans (Ext.keep e15)
  replace HS1 := HS1.ext e15
  replace HB5 := HB5.ext e15
  replace HT5 := HT5.ext e15
  try simp only [Value.cells] at HB15
  refine l_v (v_assign (t := .pointer _) rfl) ?_
  refine l_v (v_assign (t := .pointer _) rfl) ?_
  refine l_nil ?_
  refine n_then ?_
  refine c_seq ?_
  refine c_seq ?_
  refine wp_reg (by decide +kernel) ?_
  refine l_v (v_move (t := .pointer _) rfl) ?_
  refine l_v (v_peql (et := 65) (by kernel_rfl) rfl rfl) ?_
  refine l_nil ?_
  refine n_then ?_
  refine c_cond rfl rfl (fun hnil => ?_) (fun hnil => ?_)
  · skip
    cases hnil
  · skip
    refine c_skip ?_
    refine n_then ?_
    refine c_seq ?_
    refine c_seq ?_
    refine wp_reg (by decide +kernel) ?_
    refine l_v (v_assign rfl) ?_
    refine l_nil ?_
    refine n_then ?_
    refine c_block ?_
    refine c_loop (τ := Nat × Nat × Nat × Nat × List Value × TbS) [2, 3, 4, 5, 6, 7, 8, 9, 10, 11, 12, 18, 19, 20, 21, 22, 23, 24, 25, 26, 27, 28, 29, 30, 31, 32, 33, 34, 35, 36, 37, 38, 39, 40, 41, 42, 43, 44, 45, 46, 47, 48, 49, 50, 51, 52, 53, 54, 55, 56, 57, 58, 59, 60, 61, 62, 63, 64, 65, 66, 67, 68, 69, 70, 71, 72, 73, 74, 75, 76, 77, 78, 79, 80, 81, 82, 83, 84, 85, 86] (fun (i, b, bm, br, cells, S) => [(7, .int .i64 i), (5, .pointer (some ⟨b, 0, none⟩)), (6, .pointer (some ⟨br, 0, none⟩))]) (fun (i, b, bm, br, cells, S) W => Ext w W ∧ Keep (fun i => n0 ≤ i) w15 W ∧ i ≤ l.length ∧ TT W n0 b bm br cells S) (fun (i, b, bm, br, cells, S) => l.length - i) (0, b5, m5, b15, zeroC, S0) (by exact ⟨rfl, rfl, rfl, trivial⟩) (by exact ⟨E, Keep.refl _, Nat.zero_le _, ⟨ok_new, by omega, by omega, by omega, by omega, by omega, by omega, HB5, HT5.mono (fun i _ h => h.elim), HB15, RfC.new _ _⟩⟩) ?_
    rintro ⟨i, b, bm, br, cells, S⟩ w101 j ⟨E, EL1, h1, hT⟩
    have zs_EL1 := EL1.size
    replace HS1 := HS1.keep EL1 (by intro i _ hi he; (try dsimp only [NoK, AllB] at hi he); first | exact hi.elim | exact he.elim | omega | (rcases hi with hi | hi <;> omega) | (rcases he with he | he <;> omega))
    refine c_seq ?_
    refine c_seq ?_
    refine wp_reg (by decide +kernel) ?_
    refine l_v (v_move (t := .int _ _) rfl) ?_
    refine l_v (v_move (t := .slice _ _ _) rfl) ?_
    refine l_v (v_len (et := 58) (by kernel_rfl) rfl) ?_
    refine l_v (v_lss rfl rfl) ?_
    refine l_nil ?_
    refine n_then ?_
    refine c_cond rfl rfl (fun hlt => ?_) (fun hlt => ?_)
    · skip
      have hlt := dtrue hlt
      obtain ⟨x, hx, hdr⟩ := getE (l := l) (i := i) (by omega)
      have hxa := muchA_ok (hsa x (List.mem_of_getElem? hx))
      obtain ⟨q, cs, hq, hF, _, HPq, hr⟩ := HS1.el hx
      cases hq
      obtain ⟨a1, c1, a2, c2, rfl, HS3, HS4, g1, g2, g3⟩ := tDs_cells hr
      have HG3 := AgV.mkAn' HS3 HS4 g1
      obtain ⟨hok, d1, d2, d3, d4, d5, d6, HB5, HT5, HB6, HT6⟩ := hT
      have zb5 := HB5.lt
      have zm5 := HT5.lt
      have zb6 := HB6.lt
      obtain ⟨n1, hn1⟩ : ∃ n, n = w101.heap.size := ⟨_, rfl⟩
      replace HT5 := HT5.mono (F' := fun i => (n0 ≤ i ∧ i ≠ b ∧ i ≠ bm ∧ i ≠ br) ∧ i < n1) fun i hi h => ⟨h, by omega⟩
      replace HT6 := HT6.mono (F' := fun i => (n0 ≤ i ∧ i ≠ b ∧ i ≠ bm ∧ i ≠ br) ∧ i < n1) fun i hi h => ⟨h, by omega⟩
      have hok2 := putN_ok (c := x.1) (n := x.2.1) (a := x.2.2.1) hok
      refine c_skip ?_
      refine n_then ?_
      refine c_seq ?_
      refine c_block ?_
      refine c_seq ?_
      refine wp_reg (by decide +kernel) ?_
      refine l_v (v_move (t := .slice _ _ _) rfl) ?_
      refine l_v (v_move (t := .int _ _) rfl) ?_
      refine l_v (v_indexAddr (et := 58) (sz := 6) (k := i) (by kernel_rfl) (by kernel_rfl) rfl rfl (by first | rfl | omega) (by omega)) ?_
      refine l_v (v_loadA (by kernel_rfl) rfl (by first | exact HB6.pv | exact HB5.pv | exact HPq | assumption) rfl) ?_
      refine l_to (to_alloc (z := (.agg #[.int .i64 0, .int .i64 0, .int .i64 0, .slice none 0 0, .slice none 0 0, .bool false])) (by unfold kZero; kernel_rfl) ?_)
      rintro b8 w8 zb8 HB8 e8 z8
      have zs_e8 := e8.size
      replace E := E.trans (Ext.keep e8)
      replace HS1 := HS1.ext e8
      replace EL1 := EL1.trans (Ext.keep e8)
      replace HPq := HPq.ext e8
      replace HG3 := HG3.ext e8
      replace HB5 := HB5.ext e8
      replace HT5 := HT5.ext e8
      replace HB6 := HB6.ext e8
      replace HT6 := HT6.ext e8
      try simp only [Value.cells] at HB8
      refine l_to (to_storeA (n := 6) rfl rfl (show _ = (Value.agg _) from rfl) (by kernel_rfl) rfl (by first | (simp [slice_one]; done) | (simp only [List.forall_mem_cons, List.cons_append, List.nil_append]; repeat' (first | exact rfl | apply And.intro | (intro u hu; cases hu; done)))) HB8 (by first | exact of_decide_eq_true rfl | (simp; done) | decide | (simp only [List.length_set, hlen]; exact of_decide_eq_true rfl)) ?_)
      rintro w102 HX102 k102 z102
      have zs_k102 := k102.size
      replace E := E.step k102 (by intro i hi he; (try dsimp only [NoK] at hi he ⊢); first | exact he.elim | omega | exact he)
      replace HS1 := HS1.keep k102 (by intro i _ hi he; (try dsimp only [NoK, AllB] at hi he); first | exact hi.elim | exact he.elim | omega | (rcases hi with hi | hi <;> omega) | (rcases he with he | he <;> omega))
      replace EL1 := EL1.step k102 (by intro i hi he; (try dsimp only [NoK] at hi he ⊢); first | exact he.elim | omega | exact he)
      replace HPq := HPq.keep k102 (by intro h; (try dsimp only at h); (try simp only [add_block] at h); first | omega)
      replace HG3 := HG3.keep k102 (by intro i _ hi he; (try dsimp only [NoK, AllB] at hi he); first | exact hi.elim | exact he.elim | omega | (rcases hi with hi | hi <;> omega) | (rcases he with he | he <;> omega))
      replace HB5 := HB5.keep k102 (by intro h; (try dsimp only at h); first | omega)
      replace HT5 := HT5.keep k102 (by intro i _ hi he; (try dsimp only [NoK, AllB] at hi he); first | exact hi.elim | exact he.elim | omega | (rcases hi with hi | hi <;> omega) | (rcases he with he | he <;> omega))
      replace HB6 := HB6.keep k102 (by intro h; (try dsimp only at h); first | omega)
      replace HT6 := HT6.keep k102 (by intro i _ hi he; (try dsimp only [NoK, AllB] at hi he); first | exact hi.elim | exact he.elim | omega | (rcases hi with hi | hi <;> omega) | (rcases he with he | he <;> omega))
      replace HB8 := HX102
      clear HX102
      try simp only [List.set_cons_zero, List.set_cons_succ, setAt, List.take_zero, List.take_succ_cons, List.drop_zero, List.drop_succ_cons, List.nil_append, List.cons_append, List.append_nil, List.length_cons, List.length_nil, Nat.zero_add, Nat.reduceAdd, List.drop_nil] at HB8
      refine l_nil ?_
      refine n_then ?_
      refine c_seq ?_
      refine wp_reg (by decide +kernel) ?_
      refine l_v (v_fieldAddr (off := 2) (ft := 33) (by kernel_rfl) rfl) ?_
      refine l_v (v_loadA (by kernel_rfl) rfl (by first | exact (show Pv _ _ [_, _, _] from pv_sub 2 3 HB8.pv) | exact (show Pv _ _ [_, _, _] from pv_sub 2 3 HB6.pv) | exact (show Pv _ _ [_, _, _] from pv_sub 2 3 HB5.pv) | exact (show Pv _ _ [_, _, _] from pv_sub 2 3 HPq) | exact pv_at 2 HB8.pv | exact pv_at 2 HB6.pv | exact pv_at 2 HB5.pv | exact pv_at 2 HPq | exact HPq | assumption) rfl) ?_
      refine l_to (to_f1 (by kernel_rfl) (show _ = (Value.agg _) from rfl) (CallsR.mono (CopyAnswer_c HG3 (by omega) (by omega) (fun p hp => by have := hxa.2.2 p hp; omega)) ?_))
      rintro v9 w30 ⟨HG9, e30⟩
      have zs_e30 := e30.size
      have HG9 := HG9.mono (F' := fun i => w8.heap.size ≤ i ∧ i < w30.heap.size) fun i hi h => ⟨by omega, hi⟩
      obtain ⟨a3, c3, a4, c4, rfl, _⟩ := HG9.anF
      replace E := E.trans (Ext.keep e30)
      replace HS1 := HS1.ext e30
      replace EL1 := EL1.trans (Ext.keep e30)
      replace HPq := HPq.ext e30
      replace HG3 := HG3.ext e30
      replace HB5 := HB5.ext e30
      replace HT5 := HT5.ext e30
      replace HB6 := HB6.ext e30
      replace HT6 := HT6.ext e30
      replace HB8 := HB8.ext e30
      refine l_to (to_alloc (z := (.agg #[.int .i64 0, .slice none 0 0, .slice none 0 0])) (by unfold kZero; kernel_rfl) ?_)
      rintro b9 w9 zb9 HB9 e9 z9
      have zs_e9 := e9.size
      replace E := E.trans (Ext.keep e9)
      replace HS1 := HS1.ext e9
      replace EL1 := EL1.trans (Ext.keep e9)
      replace HPq := HPq.ext e9
      replace HG3 := HG3.ext e9
      replace HB5 := HB5.ext e9
      replace HT5 := HT5.ext e9
      replace HB6 := HB6.ext e9
      replace HT6 := HT6.ext e9
      replace HB8 := HB8.ext e9
      replace HG9 := HG9.ext e9
      try simp only [Value.cells] at HB9
      obtain ⟨n9, hn9⟩ : ∃ n, n = w9.heap.size := ⟨_, rfl⟩
      refine l_to (to_storeA (n := 3) rfl rfl (show _ = (Value.agg _) from rfl) (by kernel_rfl) rfl (by first | (simp [slice_one]; done) | (simp only [List.forall_mem_cons, List.cons_append, List.nil_append]; repeat' (first | exact rfl | apply And.intro | (intro u hu; cases hu; done)))) HB9 (by first | exact of_decide_eq_true rfl | (simp; done) | decide | (simp only [List.length_set, hlen]; exact of_decide_eq_true rfl)) ?_)
      rintro w103 HX103 k103 z103
      have zs_k103 := k103.size
      replace E := E.step k103 (by intro i hi he; (try dsimp only [NoK] at hi he ⊢); first | exact he.elim | omega | exact he)
      replace HS1 := HS1.keep k103 (by intro i _ hi he; (try dsimp only [NoK, AllB] at hi he); first | exact hi.elim | exact he.elim | omega | (rcases hi with hi | hi <;> omega) | (rcases he with he | he <;> omega))
      replace EL1 := EL1.step k103 (by intro i hi he; (try dsimp only [NoK] at hi he ⊢); first | exact he.elim | omega | exact he)
      replace HPq := HPq.keep k103 (by intro h; (try dsimp only at h); (try simp only [add_block] at h); first | omega)
      replace HG3 := HG3.keep k103 (by intro i _ hi he; (try dsimp only [NoK, AllB] at hi he); first | exact hi.elim | exact he.elim | omega | (rcases hi with hi | hi <;> omega) | (rcases he with he | he <;> omega))
      replace HB5 := HB5.keep k103 (by intro h; (try dsimp only at h); first | omega)
      replace HT5 := HT5.keep k103 (by intro i _ hi he; (try dsimp only [NoK, AllB] at hi he); first | exact hi.elim | exact he.elim | omega | (rcases hi with hi | hi <;> omega) | (rcases he with he | he <;> omega))
      replace HB6 := HB6.keep k103 (by intro h; (try dsimp only at h); first | omega)
      replace HT6 := HT6.keep k103 (by intro i _ hi he; (try dsimp only [NoK, AllB] at hi he); first | exact hi.elim | exact he.elim | omega | (rcases hi with hi | hi <;> omega) | (rcases he with he | he <;> omega))
      replace HB8 := HB8.keep k103 (by intro h; (try dsimp only at h); first | omega)
      replace HG9 := HG9.keep k103 (by intro i _ hi he; (try dsimp only [NoK, AllB] at hi he); first | exact hi.elim | exact he.elim | omega | (rcases hi with hi | hi <;> omega) | (rcases he with he | he <;> omega))
      replace HB9 := HX103
      clear HX103
      try simp only [List.set_cons_zero, List.set_cons_succ, setAt, List.take_zero, List.take_succ_cons, List.drop_zero, List.drop_succ_cons, List.nil_append, List.cons_append, List.append_nil, List.length_cons, List.length_nil, Nat.zero_add, Nat.reduceAdd, List.drop_nil] at HB9
      refine l_nil ?_
      refine n_then ?_
      refine c_seq ?_
      refine c_seq ?_
      refine wp_any (by kernel_rfl) ?_
      have e104 : Ext w103 { w103 with drawn := w103.drawn + 1 } := Keep.drawn _ _
      generalize hw104 : ({ w103 with drawn := w103.drawn + 1 } : World) = w104 at e104 ⊢
      clear hw104
      have zs_e104 := e104.size
      replace E := E.trans (Ext.keep e104)
      replace HS1 := HS1.ext e104
      replace EL1 := EL1.trans (Ext.keep e104)
      replace HPq := HPq.ext e104
      replace HG3 := HG3.ext e104
      replace HB5 := HB5.ext e104
      replace HT5 := HT5.ext e104
      replace HB6 := HB6.ext e104
      replace HT6 := HT6.ext e104
      replace HB8 := HB8.ext e104
      replace HG9 := HG9.ext e104
      replace HB9 := HB9.ext e104
      refine r_cut 15 rfl (by decide +kernel) (by decide +kernel) (by decide +kernel) ?_
      refine wp_regJW (fun i => i = bm) (Ch1J 6 (fun w => Blk w b [.map (some bm)] 65 ∧ TbI w (fun i => (n0 ≤ i ∧ i ≠ b ∧ i ≠ bm ∧ i ≠ br) ∧ i < n1) bm S ∧ AgV tAn w (fun i => w8.heap.size ≤ i ∧ i < w30.heap.size) (.agg #[.int .i64 x.2.2.1.1, .slice a3 x.2.2.1.2.1.length c3, .slice a4 x.2.2.1.2.2.length c4]) x.2.2.1 ∧ n9 ≤ w.heap.size) (fun _ w => Blk w b [.map (some bm)] 65 ∧ TbI w (fun i => ((n0 ≤ i ∧ i ≠ b ∧ i ≠ bm ∧ i ≠ br) ∧ i < n1) ∨ n9 ≤ i) bm (putN S x.1 x.2.1 x.2.2.1).2)) (by decide +kernel) (by decide +kernel) (fun vals done hd => Ch1J.start (⟨HB5, HT5, AgV.imp imp_an HG9, by omega⟩) (hd 6 (by decide))) ?_
      refine rj_vJ (fun done vals w hR hcl hdk hJ hdn hd => v_move (t := .pointer _) rfl) (fun done vals w hdk hJ => hJ.src (by decide)) ?_
      refine rj_vJ (fun done vals w hR hcl hdk hJ hdn hd => v_fieldAddr (off := 0) (ft := 3) (by kernel_rfl) rfl) (fun done vals w hdk hJ => hJ.src (by decide)) ?_
      refine rj_vJ (fun done vals w hR hcl hdk hJ hdn hd => v_load (by kernel_rfl) (hd 1 rfl) (by first | exact (HB9.keep hR (by intro h; (try dsimp only at h); first | omega)).pv 0 _ rfl | exact (HB8.keep hR (by intro h; (try dsimp only at h); first | omega)).pv 0 _ rfl | exact (HB6.keep hR (by intro h; (try dsimp only at h); first | omega)).pv 0 _ rfl | exact (HPq.keep hR (by intro h; (try dsimp only at h); (try simp only [add_block] at h); first | omega)) 0 _ rfl | assumption)) (fun done vals w hdk hJ => hJ.src (by decide)) ?_
      refine rj_vJ (fun done vals w hR hcl hdk hJ hdn hd => v_fieldAddr (off := 1) (ft := 2) (by kernel_rfl) rfl) (fun done vals w hdk hJ => hJ.src (by decide)) ?_
      refine rj_vJ (fun done vals w hR hcl hdk hJ hdn hd => v_load (by kernel_rfl) (hd 3 rfl) (by first | exact (HB9.keep hR (by intro h; (try dsimp only at h); first | omega)).pv 1 _ rfl | exact (HB8.keep hR (by intro h; (try dsimp only at h); first | omega)).pv 1 _ rfl | exact (HB6.keep hR (by intro h; (try dsimp only at h); first | omega)).pv 1 _ rfl | exact (HPq.keep hR (by intro h; (try dsimp only at h); (try simp only [add_block] at h); first | omega)) 1 _ rfl | exact pv_1 (HPq.keep hR (by intro h; (try dsimp only at h); (try simp only [add_block] at h); first | omega)) | assumption)) (fun done vals w hdk hJ => hJ.src (by decide)) ?_
      refine rj_vJ (fun done vals w hR hcl hdk hJ hdn hd => v_loadA (by kernel_rfl) rfl (by first | exact (HB9.keep hR (by intro h; (try dsimp only at h); first | omega)).pv | exact (HB8.keep hR (by intro h; (try dsimp only at h); first | omega)).pv | exact (HB6.keep hR (by intro h; (try dsimp only at h); first | omega)).pv | exact (HPq.keep hR (by intro h; (try dsimp only at h); (try simp only [add_block] at h); first | omega)) | assumption) rfl) (fun done vals w hdk hJ => hJ.src (by decide)) ?_
      refine rj_to (fun v _ => v = (.int .i64 (putN S x.1 x.2.1 x.2.2.1).1)) (fun _ _ _ h _ => h) (fun done vals w hR hcl hdk hJ hdn hd => by
          obtain ⟨h0, hn⟩ := hJ.st hdk
          exact to_f4 (by kernel_rfl) (hd 0 rfl) (hd 2 rfl) (hd 4 rfl) (hd 5 rfl) (CallsR.mono (Put_c h0.1 h0.2.1 (fun i h => by omega) d4 h0.2.2.1 g3) fun v w1 h => ⟨h.2, congrArg (Value.int .i64) (show _ = _ from rfl) ▸ h.1.1, hn _ _ (⟨h0.1.keep h.2 (fun h => d4 h), h.1.2.mono fun i _ hi => hi.elim .inl (fun hi => .inr (by have := h0.2.2.2; omega))⟩)⟩)) ?_
      refine rj_vfJ (fun done vals w hR hcl hdk hJ hdn hd => to_f1 (by kernel_rfl) (hd 6 rfl) (num_c)) (fun done vals w w1 hdk hJ e => hJ.srcE (fun w w' e h => ⟨h.1.ext e, h.2.1.ext e, h.2.2.1.keep e (fun _ _ _ x => x), Nat.le_trans h.2.2.2 e.size⟩) (fun v w w' e h => ⟨h.1.ext e, h.2.ext e⟩) e (by decide)) ?_
      refine rj_vJ (fun done vals w hR hcl hdk hJ hdn hd => v_move (t := .pointer _) rfl) (fun done vals w hdk hJ => hJ.src (by decide)) ?_
      refine rj_vJ (fun done vals w hR hcl hdk hJ hdn hd => v_fieldAddr (off := 0) (ft := 3) (by kernel_rfl) rfl) (fun done vals w hdk hJ => hJ.src (by decide)) ?_
      refine rj_vJ (fun done vals w hR hcl hdk hJ hdn hd => v_load (by kernel_rfl) (hd 9 rfl) (by first | exact (HB9.keep hR (by intro h; (try dsimp only at h); first | omega)).pv 0 _ rfl | exact (HB8.keep hR (by intro h; (try dsimp only at h); first | omega)).pv 0 _ rfl | exact (HB6.keep hR (by intro h; (try dsimp only at h); first | omega)).pv 0 _ rfl | exact (HPq.keep hR (by intro h; (try dsimp only at h); (try simp only [add_block] at h); first | omega)) 0 _ rfl | assumption)) (fun done vals w hdk hJ => hJ.src (by decide)) ?_
      refine rj_vJ (fun done vals w hR hcl hdk hJ hdn hd => v_fieldAddr (off := 1) (ft := 2) (by kernel_rfl) rfl) (fun done vals w hdk hJ => hJ.src (by decide)) ?_
      refine rj_vJ (fun done vals w hR hcl hdk hJ hdn hd => v_load (by kernel_rfl) (hd 11 rfl) (by first | exact (HB9.keep hR (by intro h; (try dsimp only at h); first | omega)).pv 1 _ rfl | exact (HB8.keep hR (by intro h; (try dsimp only at h); first | omega)).pv 1 _ rfl | exact (HB6.keep hR (by intro h; (try dsimp only at h); first | omega)).pv 1 _ rfl | exact (HPq.keep hR (by intro h; (try dsimp only at h); (try simp only [add_block] at h); first | omega)) 1 _ rfl | exact pv_1 (HPq.keep hR (by intro h; (try dsimp only at h); (try simp only [add_block] at h); first | omega)) | assumption)) (fun done vals w hdk hJ => hJ.src (by decide)) ?_
      refine rj_vJ (fun done vals w hR hcl hdk hJ hdn hd => v_fieldAddr (off := 2) (ft := 33) (by kernel_rfl) rfl) (fun done vals w hdk hJ => hJ.src (by decide)) ?_
      refine rj_vJ (fun done vals w hR hcl hdk hJ hdn hd => v_loadA (by kernel_rfl) (hd 13 rfl) (by first | exact (show Pv _ _ [_, _, _] from pv_sub 2 3 (HB9.keep hR (by intro h; (try dsimp only at h); first | omega)).pv) | exact (show Pv _ _ [_, _, _] from pv_sub 2 3 (HB8.keep hR (by intro h; (try dsimp only at h); first | omega)).pv) | exact (show Pv _ _ [_, _, _] from pv_sub 2 3 (HB6.keep hR (by intro h; (try dsimp only at h); first | omega)).pv) | exact (show Pv _ _ [_, _, _] from pv_sub 2 3 (HPq.keep hR (by intro h; (try dsimp only at h); (try simp only [add_block] at h); first | omega))) | exact pv_at 2 (HB9.keep hR (by intro h; (try dsimp only at h); first | omega)).pv | exact pv_at 2 (HB8.keep hR (by intro h; (try dsimp only at h); first | omega)).pv | exact pv_at 2 (HB6.keep hR (by intro h; (try dsimp only at h); first | omega)).pv | exact pv_at 2 (HPq.keep hR (by intro h; (try dsimp only at h); (try simp only [add_block] at h); first | omega)) | exact (HPq.keep hR (by intro h; (try dsimp only at h); (try simp only [add_block] at h); first | omega)) | assumption) rfl) (fun done vals w hdk hJ => hJ.src (by decide)) ?_
      refine rj_nil (fun vals w105 k105 J105 => ?_)
      rintro _ - rfl _ - rfl _ - rfl _ - rfl _ - rfl _ - rfl _ - rfl _ - rfl _ - rfl _ - rfl _ - rfl _ - rfl _ - rfl _ - rfl _ - rfl
      have zs_k105 := k105.size
      have hX105 := J105.fin
      obtain ⟨HB5, HT5⟩ := hX105
      replace E := E.step k105 (by intro i hi he; (try dsimp only [NoK] at hi he ⊢); first | exact he.elim | omega | exact he)
      replace HS1 := HS1.keep k105 (by intro i _ hi he; (try dsimp only [NoK, AllB] at hi he); first | exact hi.elim | exact he.elim | omega | (rcases hi with hi | hi <;> omega) | (rcases he with he | he <;> omega))
      replace EL1 := EL1.step k105 (by intro i hi he; (try dsimp only [NoK] at hi he ⊢); first | exact he.elim | omega | exact he)
      replace HPq := HPq.keep k105 (by intro h; (try dsimp only at h); (try simp only [add_block] at h); first | omega)
      replace HG3 := HG3.keep k105 (by intro i _ hi he; (try dsimp only [NoK, AllB] at hi he); first | exact hi.elim | exact he.elim | omega | (rcases hi with hi | hi <;> omega) | (rcases he with he | he <;> omega))
      replace HB6 := HB6.keep k105 (by intro h; (try dsimp only at h); first | omega)
      replace HT6 := HT6.keep k105 (by intro i _ hi he; (try dsimp only [NoK, AllB] at hi he); first | exact hi.elim | exact he.elim | omega | (rcases hi with hi | hi <;> omega) | (rcases he with he | he <;> omega))
      replace HB8 := HB8.keep k105 (by intro h; (try dsimp only at h); first | omega)
      replace HG9 := HG9.keep k105 (by intro i _ hi he; (try dsimp only [NoK, AllB] at hi he); first | exact hi.elim | exact he.elim | omega | (rcases hi with hi | hi <;> omega) | (rcases he with he | he <;> omega))
      replace HB9 := HB9.keep k105 (by intro h; (try dsimp only at h); first | omega)
      refine fin_nilJ ?_
      refine n_then ?_
      refine r_cut 1 rfl (by decide +kernel) (by decide +kernel) (by decide +kernel) ?_
      refine r_one (by decide +kernel) rfl ?_
      refine l_to (to_f4 (by kernel_rfl) (show _ = (Value.pointer _) from rfl) (show _ = (Value.int _ _) from rfl) (show _ = (Value.int _ _) from rfl) (show _ = (Value.agg _) from rfl) (CallsR.mono (refPut_c HB6 HT6 HG3 (fun i h => by omega) (fun i h => by omega)) ?_))
      rintro _ w46 ⟨⟨rfl, cells2, HB6, HT6⟩, k46⟩
      have zs_k46 := k46.size
      replace E := E.step k46 (by intro i hi he; (try dsimp only [NoK] at hi he ⊢); first | exact he.elim | omega | exact he)
      replace HS1 := HS1.keep k46 (by intro i _ hi he; (try dsimp only [NoK, AllB] at hi he); first | exact hi.elim | exact he.elim | omega | (rcases hi with hi | hi <;> omega) | (rcases he with he | he <;> omega))
      replace EL1 := EL1.step k46 (by intro i hi he; (try dsimp only [NoK] at hi he ⊢); first | exact he.elim | omega | exact he)
      replace HPq := HPq.keep k46 (by intro h; (try dsimp only at h); (try simp only [add_block] at h); first | omega)
      replace HG3 := HG3.keep k46 (by intro i _ hi he; (try dsimp only [NoK, AllB] at hi he); first | exact hi.elim | exact he.elim | omega | (rcases hi with hi | hi <;> omega) | (rcases he with he | he <;> omega))
      replace HB8 := HB8.keep k46 (by intro h; (try dsimp only at h); first | omega)
      replace HG9 := HG9.keep k46 (by intro i _ hi he; (try dsimp only [NoK, AllB] at hi he); first | exact hi.elim | exact he.elim | omega | (rcases hi with hi | hi <;> omega) | (rcases he with he | he <;> omega))
      replace HB9 := HB9.keep k46 (by intro h; (try dsimp only at h); first | omega)
      replace HB5 := HB5.keep k46 (by intro h; (try dsimp only at h); first | omega)
      replace HT5 := HT5.keep k46 (by intro i _ hi he; (try dsimp only [NoK, AllB] at hi he); first | exact hi.elim | exact he.elim | omega | (rcases hi with hi | hi <;> omega) | (rcases he with he | he <;> omega))
      refine l_nil ?_
      refine n_then ?_
      refine wp_regdW (NoK) (by decide +kernel) (by decide +kernel) ?_
      refine rt_v (fun vals w hR hd => v_neq rfl rfl) ?_
      refine rt_v (fun vals w hR hd => v_move (t := .bool _) (hd 0 rfl)) ?_
      refine rt_g1 rfl (fun vals w hd => hd 1 rfl) (fun vals w hR hd hG => v_loadA (by kernel_rfl) rfl (by first | exact (HB6.ext hR).pv | exact (HB5.ext hR).pv | exact (HB9.ext hR).pv | exact (HB8.ext hR).pv | exact (HPq.ext hR) | assumption) rfl) ?_
      refine rt_g1 rfl (fun vals w hd => hd 1 rfl) (fun vals w hR hd hG => v_fieldAddr (off := 2) (ft := 33) (by kernel_rfl) rfl) ?_
      refine rt_g1 rfl (fun vals w hd => hd 1 rfl) (fun vals w hR hd hG => v_loadA (by kernel_rfl) (gd hG (hd 3 rfl)) (by first | exact (show Pv _ _ [_, _, _] from pv_sub 2 3 (HB6.ext hR).pv) | exact (show Pv _ _ [_, _, _] from pv_sub 2 3 (HB5.ext hR).pv) | exact (show Pv _ _ [_, _, _] from pv_sub 2 3 (HB9.ext hR).pv) | exact (show Pv _ _ [_, _, _] from pv_sub 2 3 (HB8.ext hR).pv) | exact (show Pv _ _ [_, _, _] from pv_sub 2 3 (HPq.ext hR)) | exact pv_at 2 (HB6.ext hR).pv | exact pv_at 2 (HB5.ext hR).pv | exact pv_at 2 (HB9.ext hR).pv | exact pv_at 2 (HB8.ext hR).pv | exact pv_at 2 (HPq.ext hR) | exact (HPq.ext hR) | assumption) rfl) ?_
      refine rt_g1f rfl (fun vals w hd => hd 1 rfl) (fun vals w hR hd hG => to_f2 (by kernel_rfl) (gd hG (hd 2 rfl)) (gd hG (hd 4 rfl)) (refSameAnswer_c (AgV.imp imp_an (HG9.ext hR)) (HG3.ext hR))) ?_
      refine rt_g1 rfl (fun vals w hd => hd 1 rfl) (fun vals w hR hd hG => v_not (gd hG (hd 5 rfl))) ?_
      refine rt_v (fun vals w hR hd => v_or (hd 1 rfl) (hd 6 rfl)) ?_
      refine rt_nil (fun w106 e106 => ?_)
      rintro _ rfl _ rfl _ rfl _ rfl _ rfl _ rfl _ rfl _ rfl
      have zs_e106 := e106.size
      replace E := E.trans (Ext.keep e106)
      replace HS1 := HS1.ext e106
      replace EL1 := EL1.trans (Ext.keep e106)
      replace HPq := HPq.ext e106
      replace HG3 := HG3.ext e106
      replace HB8 := HB8.ext e106
      replace HG9 := HG9.ext e106
      replace HB9 := HB9.ext e106
      replace HB5 := HB5.ext e106
      replace HT5 := HT5.ext e106
      replace HB6 := HB6.ext e106
      replace HT6 := HT6.ext e106
      refine fin_nil ?_
      refine n_then ?_
      refine c_cond rfl rfl (fun hq => ?_) (fun hq => ?_)
      · skip
        simp at hq
      · skip
        refine c_skip ?_
        refine n_then ?_
        refine c_seq ?_
        refine wp_reg (by decide +kernel) ?_
        refine l_v (v_loadA (by kernel_rfl) rfl (by first | exact HB6.pv | exact HB5.pv | exact HB9.pv | exact HB8.pv | exact HPq | assumption) rfl) ?_
        refine l_to (to_f1 (by kernel_rfl) (show _ = (Value.agg _) from rfl) (CallsR.mono (spoil_c HG9 (fun i h => by omega)) ?_))
        rintro _ w56 k56
        have zs_k56 := k56.size
        replace E := E.step k56 (by intro i hi he; (try dsimp only [NoK] at hi he ⊢); first | exact he.elim | omega | exact he)
        replace HS1 := HS1.keep k56 (by intro i _ hi he; (try dsimp only [NoK, AllB] at hi he); first | exact hi.elim | exact he.elim | omega | (rcases hi with hi | hi <;> omega) | (rcases he with he | he <;> omega))
        replace EL1 := EL1.step k56 (by intro i hi he; (try dsimp only [NoK] at hi he ⊢); first | exact he.elim | omega | exact he)
        replace HPq := HPq.keep k56 (by intro h; (try dsimp only at h); (try simp only [add_block] at h); first | omega)
        replace HG3 := HG3.keep k56 (by intro i _ hi he; (try dsimp only [NoK, AllB] at hi he); first | exact hi.elim | exact he.elim | omega | (rcases hi with hi | hi <;> omega) | (rcases he with he | he <;> omega))
        replace HB8 := HB8.keep k56 (by intro h; (try dsimp only at h); first | omega)
        replace HB9 := HB9.keep k56 (by intro h; (try dsimp only at h); first | omega)
        replace HB5 := HB5.keep k56 (by intro h; (try dsimp only at h); first | omega)
        replace HT5 := HT5.keep k56 (by intro i _ hi he; (try dsimp only [NoK, AllB] at hi he); first | exact hi.elim | exact he.elim | omega | (rcases hi with hi | hi <;> omega) | (rcases he with he | he <;> omega))
        replace HB6 := HB6.keep k56 (by intro h; (try dsimp only at h); first | omega)
        replace HT6 := HT6.keep k56 (by intro i _ hi he; (try dsimp only [NoK, AllB] at hi he); first | exact hi.elim | exact he.elim | omega | (rcases hi with hi | hi <;> omega) | (rcases he with he | he <;> omega))
        refine l_nil ?_
        refine n_then ?_
        refine c_seq ?_
        refine c_seq ?_
        refine wp_reg (by decide +kernel) ?_
        refine l_v (v_fieldAddr (off := 5) (ft := 4) (by kernel_rfl) rfl) ?_
        refine l_v (v_load (by kernel_rfl) rfl (by first | exact HB6.pv 5 _ rfl | exact HB5.pv 5 _ rfl | exact HB9.pv 5 _ rfl | exact HB8.pv 5 _ rfl | exact HPq 5 _ rfl | exact pv_1 HPq | assumption)) ?_
        refine l_v (v_not rfl) ?_
        refine l_nil ?_
        refine n_then ?_
        refine c_cond rfl rfl (fun hj => ?_) (fun hj => ?_)
        · skip
          refine c_exit ?_
          refine x_then ?_
          refine x_hit ?_
          refine n_then ?_
          refine wp_reg (by decide +kernel) ?_
          refine l_v (v_move (t := .int _ _) rfl) ?_
          refine l_v (v_add rfl rfl (by first | exact wr_i64 (by omega) (by omega) | rfl)) ?_
          refine l_v (v_assign (t := .int _ _) rfl) ?_
          refine l_nil ?_
          refine n_then ?_
          refine ⟨(i + 1, b, bm, br, cells2, (putN S x.1 x.2.1 x.2.2.1).2), _, rfl, by (repeat (first | exact Off.of_over _ _ _ | refine Off.upd ?_ (by decide) _ | refine Off.overs ?_ (by decide) _)), ⟨by first | rfl | exact congrArg (Value.int _) (by omega) | (simp; done), by first | rfl | exact congrArg (Value.int _) (by omega) | (simp; done), by first | rfl | exact congrArg (Value.int _) (by omega) | (simp; done), trivial⟩, ⟨E, EL1, ?_⟩, ?_⟩
          · skip
            exact ⟨by omega, hok2, d1, d2, d3, d4, d5, d6, HB5, HT5.mono (fun i hi h => by rcases h with h | h <;> omega), HB6, HT6.mono (fun i hi h => by rcases h with h | h <;> omega)⟩
          · (dsimp only; omega)
        · skip
          obtain ⟨S', hS'⟩ : ∃ S', S' = (putN S x.1 x.2.1 x.2.2.1).2 := ⟨_, rfl⟩
          rw [← hS'] at hok2 HT5 HT6
          obtain ⟨n2, hn2⟩ : ∃ n, n = w56.heap.size := ⟨_, rfl⟩
          replace HT5 := HT5.mono (F' := fun i => (n0 ≤ i ∧ i ≠ b ∧ i ≠ bm ∧ i ≠ br) ∧ i < n2) fun i hi h => ⟨by rcases h with h | h <;> omega, by omega⟩
          replace HT6 := HT6.mono (F' := fun i => (n0 ≤ i ∧ i ≠ b ∧ i ≠ bm ∧ i ≠ br) ∧ i < n2) fun i hi h => ⟨by rcases h with h | h <;> omega, by omega⟩
          refine c_skip ?_
          refine n_then ?_
          refine c_seq ?_
          refine wp_reg (by decide +kernel) ?_
          refine l_to (to_f0 (by kernel_rfl) (CallsR.mono (New_c) ?_))
          rintro _ w60 ⟨b10, m10, rfl, hm10, hb10, hn10, HB10, HT10, e60⟩
          have zs_e60 := e60.size
          have zb10 := HB10.lt
          have zm10 := HT10.lt
          replace E := E.trans (Ext.keep e60)
          replace HS1 := HS1.ext e60
          replace EL1 := EL1.trans (Ext.keep e60)
          replace HPq := HPq.ext e60
          replace HG3 := HG3.ext e60
          replace HB8 := HB8.ext e60
          replace HB9 := HB9.ext e60
          replace HB5 := HB5.ext e60
          replace HT5 := HT5.ext e60
          replace HB6 := HB6.ext e60
          replace HT6 := HT6.ext e60
          refine l_v (v_build (pl := [(0, 5), (5, 15)]) (z := .agg #[.int .i64 0, .int .i64 0, .int .i64 0, .int .i64 0, .int .i64 0, .int .i64 0, .slice none 0 0, .slice none 0 0, .int .i64 0, .slice none 0 0, .slice none 0 0, .int .i64 0, .slice none 0 0, .slice none 0 0, .int .i64 0, .slice none 0 0, .slice none 0 0, .int .i64 0, .slice none 0 0, .slice none 0 0]) (zl := [.int .i64 0, .int .i64 0, .int .i64 0, .int .i64 0, .int .i64 0, .int .i64 0, .slice none 0 0, .slice none 0 0, .int .i64 0, .slice none 0 0, .slice none 0 0, .int .i64 0, .slice none 0 0, .slice none 0 0, .int .i64 0, .slice none 0 0, .slice none 0 0, .int .i64 0, .slice none 0 0, .slice none 0 0]) (by kernel_rfl) (by unfold kZero; kernel_rfl) rfl rfl (cells := [_, _, _, _, _, _, _, _, _, _, _, _, _, _, _, _, _, _, _, _]) rfl) ?_
          refine l_to (to_box (show _ = (Value.agg _) from rfl) ?_)
          rintro b11 w11 zb11 HB11 e11 z11
          have zs_e11 := e11.size
          replace E := E.trans (Ext.keep e11)
          replace HS1 := HS1.ext e11
          replace EL1 := EL1.trans (Ext.keep e11)
          replace HPq := HPq.ext e11
          replace HG3 := HG3.ext e11
          replace HB8 := HB8.ext e11
          replace HB9 := HB9.ext e11
          replace HB5 := HB5.ext e11
          replace HT5 := HT5.ext e11
          replace HB6 := HB6.ext e11
          replace HT6 := HT6.ext e11
          replace HB10 := HB10.ext e11
          replace HT10 := HT10.ext e11
          try simp only [Value.cells] at HB11
          obtain ⟨n10, hn10'⟩ : ∃ n, n = w11.heap.size := ⟨_, rfl⟩
          refine l_v (v_assign (t := .pointer _) rfl) ?_
          refine l_v (v_assign (t := .pointer _) rfl) ?_
          refine l_nil ?_
          refine n_then ?_
          refine c_seq ?_
          refine wp_reg (by decide +kernel) ?_
          refine l_v (v_move (t := .pointer _) rfl) ?_
          refine l_v (v_build (pl := [(0, 1), (1, 1), (2, 1)]) (z := .agg #[.int .i64 0, .slice none 0 0, .slice none 0 0]) (zl := [.int .i64 0, .slice none 0 0, .slice none 0 0]) (by kernel_rfl) (by unfold kZero; kernel_rfl) rfl rfl (cells := [_, _, _]) rfl) ?_
          refine l_to (to_f4 (by kernel_rfl) (show _ = (Value.pointer _) from rfl) (show _ = (Value.int _ _) from rfl) (show _ = (Value.int _ _) from rfl) (show _ = (Value.agg _) from rfl) (CallsR.mono (put_k (n2 := n10) pt7 HB10 HT10 (fun i h => h.elim) (by omega) (by omega) hn10 (ag0 (e := 6) ⟨by decide, by decide⟩) ⟨by decide, by decide⟩) ?_))
          rintro _ w65 ⟨⟨rfl, HT10⟩, k65⟩
          have zs_k65 := k65.size
          replace E := E.step k65 (by intro i hi he; (try dsimp only [NoK] at hi he ⊢); first | exact he.elim | omega | exact he)
          replace HS1 := HS1.keep k65 (by intro i _ hi he; (try dsimp only [NoK, AllB] at hi he); first | exact hi.elim | exact he.elim | omega | (rcases hi with hi | hi <;> omega) | (rcases he with he | he <;> omega))
          replace EL1 := EL1.step k65 (by intro i hi he; (try dsimp only [NoK] at hi he ⊢); first | exact he.elim | omega | exact he)
          replace HPq := HPq.keep k65 (by intro h; (try dsimp only at h); (try simp only [add_block] at h); first | omega)
          replace HG3 := HG3.keep k65 (by intro i _ hi he; (try dsimp only [NoK, AllB] at hi he); first | exact hi.elim | exact he.elim | omega | (rcases hi with hi | hi <;> omega) | (rcases he with he | he <;> omega))
          replace HB8 := HB8.keep k65 (by intro h; (try dsimp only at h); first | omega)
          replace HB9 := HB9.keep k65 (by intro h; (try dsimp only at h); first | omega)
          replace HB5 := HB5.keep k65 (by intro h; (try dsimp only at h); first | omega)
          replace HT5 := HT5.keep k65 (by intro i _ hi he; (try dsimp only [NoK, AllB] at hi he); first | exact hi.elim | exact he.elim | omega | (rcases hi with hi | hi <;> omega) | (rcases he with he | he <;> omega))
          replace HB6 := HB6.keep k65 (by intro h; (try dsimp only at h); first | omega)
          replace HT6 := HT6.keep k65 (by intro i _ hi he; (try dsimp only [NoK, AllB] at hi he); first | exact hi.elim | exact he.elim | omega | (rcases hi with hi | hi <;> omega) | (rcases he with he | he <;> omega))
          replace HB10 := HB10.keep k65 (by intro h; (try dsimp only at h); first | omega)
          replace HB11 := HB11.keep k65 (by intro h; (try dsimp only at h); first | omega)
          refine l_nil ?_
          refine n_then ?_
          refine c_seq ?_
          refine wp_reg (by decide +kernel) ?_
          refine l_v (v_move (t := .pointer _) rfl) ?_
          refine l_v (v_build (pl := [(0, 1), (1, 1), (2, 1)]) (z := .agg #[.int .i64 0, .slice none 0 0, .slice none 0 0]) (zl := [.int .i64 0, .slice none 0 0, .slice none 0 0]) (by kernel_rfl) (by unfold kZero; kernel_rfl) rfl rfl (cells := [_, _, _]) rfl) ?_
          refine l_to (to_f4 (by kernel_rfl) (show _ = (Value.pointer _) from rfl) (show _ = (Value.int _ _) from rfl) (show _ = (Value.int _ _) from rfl) (show _ = (Value.agg _) from rfl) (CallsR.mono (refPut_c (F := NoK) HB11 (RfC.new _ _) (ag0 (e := 6) ⟨by decide, by decide⟩) (fun i h => h.elim) (fun i h => h.elim)) ?_))
          rintro _ w68 ⟨⟨rfl, cells3, HB11, HT11⟩, k68⟩
          have zs_k68 := k68.size
          have HT11 : RfC _ (fun i => n10 ≤ i ∧ i < w68.heap.size) cells3 S6 := RfC.mono (S := S6) HT11 (fun i hi h => ⟨by rcases h with h | h; exact h.elim; omega, hi⟩)
          replace E := E.step k68 (by intro i hi he; (try dsimp only [NoK] at hi he ⊢); first | exact he.elim | omega | exact he)
          replace HS1 := HS1.keep k68 (by intro i _ hi he; (try dsimp only [NoK, AllB] at hi he); first | exact hi.elim | exact he.elim | omega | (rcases hi with hi | hi <;> omega) | (rcases he with he | he <;> omega))
          replace EL1 := EL1.step k68 (by intro i hi he; (try dsimp only [NoK] at hi he ⊢); first | exact he.elim | omega | exact he)
          replace HPq := HPq.keep k68 (by intro h; (try dsimp only at h); (try simp only [add_block] at h); first | omega)
          replace HG3 := HG3.keep k68 (by intro i _ hi he; (try dsimp only [NoK, AllB] at hi he); first | exact hi.elim | exact he.elim | omega | (rcases hi with hi | hi <;> omega) | (rcases he with he | he <;> omega))
          replace HB8 := HB8.keep k68 (by intro h; (try dsimp only at h); first | omega)
          replace HB9 := HB9.keep k68 (by intro h; (try dsimp only at h); first | omega)
          replace HB5 := HB5.keep k68 (by intro h; (try dsimp only at h); first | omega)
          replace HT5 := HT5.keep k68 (by intro i _ hi he; (try dsimp only [NoK, AllB] at hi he); first | exact hi.elim | exact he.elim | omega | (rcases hi with hi | hi <;> omega) | (rcases he with he | he <;> omega))
          replace HB6 := HB6.keep k68 (by intro h; (try dsimp only at h); first | omega)
          replace HT6 := HT6.keep k68 (by intro i _ hi he; (try dsimp only [NoK, AllB] at hi he); first | exact hi.elim | exact he.elim | omega | (rcases hi with hi | hi <;> omega) | (rcases he with he | he <;> omega))
          replace HB10 := HB10.keep k68 (by intro h; (try dsimp only at h); first | omega)
          replace HT10 := HT10.keep k68 (by intro i _ hi he; (try dsimp only [NoK, AllB] at hi he); first | exact hi.elim | exact he.elim | omega | (rcases hi with hi | hi <;> omega) | (rcases he with he | he <;> omega))
          refine l_nil ?_
          refine n_then ?_
          refine c_seq ?_
          refine wp_reg (by decide +kernel) ?_
          refine l_v (v_move (t := .pointer _) rfl) ?_
          refine l_to (to_f1 (by kernel_rfl) (show _ = (Value.pointer _) from rfl) (CallsR.mono (TCopy_c HB5 HT5 hok2) ?_))
          rintro _ w70 ⟨⟨b12, m12, rfl, hb12, hm12, hn12, HB12, HT12⟩, e70⟩
          have zs_e70 := e70.size
          replace E := E.trans (Ext.keep e70)
          replace HS1 := HS1.ext e70
          replace EL1 := EL1.trans (Ext.keep e70)
          replace HPq := HPq.ext e70
          replace HG3 := HG3.ext e70
          replace HB8 := HB8.ext e70
          replace HB9 := HB9.ext e70
          replace HB5 := HB5.ext e70
          replace HT5 := HT5.ext e70
          replace HB6 := HB6.ext e70
          replace HT6 := HT6.ext e70
          replace HB10 := HB10.ext e70
          replace HT10 := HT10.ext e70
          replace HB11 := HB11.ext e70
          replace HT11 := HT11.ext e70
          refine l_v (v_assign (t := .pointer _) rfl) ?_
          refine l_nil ?_
          refine n_then ?_
          refine c_seq ?_
          refine c_seq ?_
          refine wp_reg (by decide +kernel) ?_
          refine l_v (v_move (t := .pointer _) rfl) ?_
          refine l_v (v_move (t := .pointer _) rfl) ?_
          refine l_to (to_f2 (by kernel_rfl) (show _ = (Value.pointer _) from rfl) (show _ = (Value.pointer _) from rfl) (CallsR.mono (TJoin_c HB10 HT10 HB5 HT5 S6_ok hok2 (by omega) (fun i h => by omega) (fun i h => by omega)) ?_))
          rintro _ w73 ⟨⟨rfl, HT10⟩, k73⟩
          have zs_k73 := k73.size
          replace E := E.step k73 (by intro i hi he; (try dsimp only [NoK] at hi he ⊢); first | exact he.elim | omega | exact he)
          replace HS1 := HS1.keep k73 (by intro i _ hi he; (try dsimp only [NoK, AllB] at hi he); first | exact hi.elim | exact he.elim | omega | (rcases hi with hi | hi <;> omega) | (rcases he with he | he <;> omega))
          replace EL1 := EL1.step k73 (by intro i hi he; (try dsimp only [NoK] at hi he ⊢); first | exact he.elim | omega | exact he)
          replace HPq := HPq.keep k73 (by intro h; (try dsimp only at h); (try simp only [add_block] at h); first | omega)
          replace HG3 := HG3.keep k73 (by intro i _ hi he; (try dsimp only [NoK, AllB] at hi he); first | exact hi.elim | exact he.elim | omega | (rcases hi with hi | hi <;> omega) | (rcases he with he | he <;> omega))
          replace HB8 := HB8.keep k73 (by intro h; (try dsimp only at h); first | omega)
          replace HB9 := HB9.keep k73 (by intro h; (try dsimp only at h); first | omega)
          replace HB5 := HB5.keep k73 (by intro h; (try dsimp only at h); first | omega)
          replace HT5 := HT5.keep k73 (by intro i _ hi he; (try dsimp only [NoK, AllB] at hi he); first | exact hi.elim | exact he.elim | omega | (rcases hi with hi | hi <;> omega) | (rcases he with he | he <;> omega))
          replace HB6 := HB6.keep k73 (by intro h; (try dsimp only at h); first | omega)
          replace HT6 := HT6.keep k73 (by intro i _ hi he; (try dsimp only [NoK, AllB] at hi he); first | exact hi.elim | exact he.elim | omega | (rcases hi with hi | hi <;> omega) | (rcases he with he | he <;> omega))
          replace HB10 := HB10.keep k73 (by intro h; (try dsimp only at h); first | omega)
          replace HB11 := HB11.keep k73 (by intro h; (try dsimp only at h); first | omega)
          replace HT11 := HT11.keep k73 (by intro i _ hi he; (try dsimp only [NoK, AllB] at hi he); first | exact hi.elim | exact he.elim | omega | (rcases hi with hi | hi <;> omega) | (rcases he with he | he <;> omega))
          replace HB12 := HB12.keep k73 (by intro h; (try dsimp only at h); first | omega)
          replace HT12 := HT12.keep k73 (by intro i _ hi he; (try dsimp only [NoK, AllB] at hi he); first | exact hi.elim | exact he.elim | omega | (rcases hi with hi | hi <;> omega) | (rcases he with he | he <;> omega))
          refine l_to (to_f1 (by kernel_rfl) (show _ = (Value.int _ _) from rfl) (CallsR.mono (num_c) ?_))
          rintro _ w107 ⟨rfl, e107⟩
          have zs_e107 := e107.size
          replace E := E.trans (Ext.keep e107)
          replace HS1 := HS1.ext e107
          replace EL1 := EL1.trans (Ext.keep e107)
          replace HPq := HPq.ext e107
          replace HG3 := HG3.ext e107
          replace HB8 := HB8.ext e107
          replace HB9 := HB9.ext e107
          replace HB5 := HB5.ext e107
          replace HT5 := HT5.ext e107
          replace HB6 := HB6.ext e107
          replace HT6 := HT6.ext e107
          replace HB10 := HB10.ext e107
          replace HB11 := HB11.ext e107
          replace HT11 := HT11.ext e107
          replace HB12 := HB12.ext e107
          replace HT12 := HT12.ext e107
          replace HT10 := HT10.ext e107
          refine l_v (v_neq rfl rfl) ?_
          refine l_v (v_move (t := .bool _) rfl) ?_
          refine l_g1 rfl rfl (fun hG => v_move (t := .pointer _) rfl) ?_
          refine l_g1 rfl rfl (fun hG => v_move (t := .pointer _) rfl) ?_
          refine l_g1f rfl rfl (fun hG => to_f2 (by kernel_rfl) (gd hG rfl) (gd hG rfl) (TSame_c HB12 HT12 HB5 HT5 hok2 hok2)) ?_
          rintro w108 e108
          have zs_e108 := e108.size
          replace E := E.trans (Ext.keep e108)
          replace HS1 := HS1.ext e108
          replace EL1 := EL1.trans (Ext.keep e108)
          replace HPq := HPq.ext e108
          replace HG3 := HG3.ext e108
          replace HB8 := HB8.ext e108
          replace HB9 := HB9.ext e108
          replace HB5 := HB5.ext e108
          replace HT5 := HT5.ext e108
          replace HB6 := HB6.ext e108
          replace HT6 := HT6.ext e108
          replace HB10 := HB10.ext e108
          replace HB11 := HB11.ext e108
          replace HT11 := HT11.ext e108
          replace HB12 := HB12.ext e108
          replace HT12 := HT12.ext e108
          replace HT10 := HT10.ext e108
          refine l_g1 rfl rfl (fun hG => v_not (gd hG rfl)) ?_
          refine l_v (v_or rfl rfl) ?_
          refine l_nil ?_
          refine n_then ?_
          refine c_cond rfl rfl (fun hq => ?_) (fun hq => ?_)
          · skip
            rw [(eqT_iff hok2 hok2).2 rfl] at hq; simp at hq
          · skip
            refine c_skip ?_
            refine n_then ?_
            refine c_seq ?_
            refine wp_reg (by decide +kernel) ?_
            refine l_v (v_move (t := .pointer _) rfl) ?_
            refine l_v (v_move (t := .pointer _) rfl) ?_
            refine l_to (to_f2 (by kernel_rfl) (show _ = (Value.pointer _) from rfl) (show _ = (Value.pointer _) from rfl) (CallsR.mono (refJoin_c HB11 HT11 HB6 HT6 S6_ok hok2 (by omega) (fun i h => by omega) (fun i h => by omega)) ?_))
            rintro _ w84 ⟨⟨rfl, cells4, HB11, HT11⟩, k84⟩
            have zs_k84 := k84.size
            replace E := E.step k84 (by intro i hi he; (try dsimp only [NoK] at hi he ⊢); first | exact he.elim | omega | exact he)
            replace HS1 := HS1.keep k84 (by intro i _ hi he; (try dsimp only [NoK, AllB] at hi he); first | exact hi.elim | exact he.elim | omega | (rcases hi with hi | hi <;> omega) | (rcases he with he | he <;> omega))
            replace EL1 := EL1.step k84 (by intro i hi he; (try dsimp only [NoK] at hi he ⊢); first | exact he.elim | omega | exact he)
            replace HPq := HPq.keep k84 (by intro h; (try dsimp only at h); (try simp only [add_block] at h); first | omega)
            replace HG3 := HG3.keep k84 (by intro i _ hi he; (try dsimp only [NoK, AllB] at hi he); first | exact hi.elim | exact he.elim | omega | (rcases hi with hi | hi <;> omega) | (rcases he with he | he <;> omega))
            replace HB8 := HB8.keep k84 (by intro h; (try dsimp only at h); first | omega)
            replace HB9 := HB9.keep k84 (by intro h; (try dsimp only at h); first | omega)
            replace HB5 := HB5.keep k84 (by intro h; (try dsimp only at h); first | omega)
            replace HT5 := HT5.keep k84 (by intro i _ hi he; (try dsimp only [NoK, AllB] at hi he); first | exact hi.elim | exact he.elim | omega | (rcases hi with hi | hi <;> omega) | (rcases he with he | he <;> omega))
            replace HB6 := HB6.keep k84 (by intro h; (try dsimp only at h); first | omega)
            replace HT6 := HT6.keep k84 (by intro i _ hi he; (try dsimp only [NoK, AllB] at hi he); first | exact hi.elim | exact he.elim | omega | (rcases hi with hi | hi <;> omega) | (rcases he with he | he <;> omega))
            replace HB10 := HB10.keep k84 (by intro h; (try dsimp only at h); first | omega)
            replace HB12 := HB12.keep k84 (by intro h; (try dsimp only at h); first | omega)
            replace HT12 := HT12.keep k84 (by intro i _ hi he; (try dsimp only [NoK, AllB] at hi he); first | exact hi.elim | exact he.elim | omega | (rcases hi with hi | hi <;> omega) | (rcases he with he | he <;> omega))
            replace HT10 := HT10.keep k84 (by intro i _ hi he; (try dsimp only [NoK, AllB] at hi he); first | exact hi.elim | exact he.elim | omega | (rcases hi with hi | hi <;> omega) | (rcases he with he | he <;> omega))
            refine l_nil ?_
            refine n_then ?_
            refine wp_reg (by decide +kernel) ?_
            refine l_v (v_move (t := .pointer _) rfl) ?_
            refine l_v (v_move (t := .pointer _) rfl) ?_
            refine l_v (v_assign (t := .pointer _) rfl) ?_
            refine l_v (v_assign (t := .pointer _) rfl) ?_
            refine l_nil ?_
            refine n_blk ?_
            refine n_then ?_
            refine wp_reg (by decide +kernel) ?_
            refine l_v (v_move (t := .int _ _) rfl) ?_
            refine l_v (v_add rfl rfl (by first | exact wr_i64 (by omega) (by omega) | rfl)) ?_
            refine l_v (v_assign (t := .int _ _) rfl) ?_
            refine l_nil ?_
            refine n_then ?_
            refine ⟨(i + 1, b10, m10, b11, cells4, joinS S6 S'), _, rfl, by (repeat (first | exact Off.of_over _ _ _ | refine Off.upd ?_ (by decide) _ | refine Off.overs ?_ (by decide) _)), ⟨by first | rfl | exact congrArg (Value.int _) (by omega) | (simp; done), by first | rfl | exact congrArg (Value.int _) (by omega) | (simp; done), by first | rfl | exact congrArg (Value.int _) (by omega) | (simp; done), trivial⟩, ⟨E, EL1, ?_⟩, ?_⟩
            · skip
              exact ⟨by omega, joinS_ok S6_ok hok2, by omega, by omega, by omega, hn10, by omega, by omega, HB10, HT10.mono (fun i hi h => by rcases h with h | h <;> omega), HB11, HT11.mono (fun i hi h => by rcases h with h | h <;> omega)⟩
            · (dsimp only; omega)
    · skip
      refine c_exit ?_
      refine x_then ?_
      refine x_then ?_
      refine x_hit ?_
      refine n_then ?_
      refine c_seq ?_
      refine wp_reg (by decide +kernel) ?_
      refine l_v (v_move (t := .pointer _) rfl) ?_
      refine l_v (v_move (t := .pointer _) rfl) ?_
      refine l_v (v_assign (t := .pointer _) rfl) ?_
      refine l_v (v_assign (t := .pointer _) rfl) ?_
      refine l_v (v_assign rfl) ?_
      refine l_nil ?_
      refine n_then ?_
      refine c_ret ?_
      refine ret3v rfl (by decide) (by decide) (by decide) (show _ = (Value.pointer _) from rfl) (show _ = (Value.pointer _) from rfl) (show _ = (Value.bool _) from rfl) ?_
      subst hn0
      exact ⟨⟨b, bm, br, cells, S, rfl, hT⟩, E⟩
end Go.Proofs.Ytlhanmlpionomaa
