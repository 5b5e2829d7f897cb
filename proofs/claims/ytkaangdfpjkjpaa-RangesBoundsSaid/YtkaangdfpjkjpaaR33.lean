/- A part of the proof: steps and lemmas for the walks through the given program. -/
import Derived.Test.YtkaangdfpjkjpaaGt
import Derived.Test.YtkaangdfpjkjpaaGe
namespace Go.Proofs.Ytkaangdfpjkjpaa
open Go.Vc
set_option linter.unusedVariables false
set_option linter.unusedSimpArgs false
set_option maxRecDepth 100000

def bN : Nat → MpV
  | 0 => (1, [([], [], false, 4)])
  | i + 1 => (splitM (bN i) [UInt8.ofNat (100 - i)]).1
theorem o8 {n : Nat} (h : n < 256) : (UInt8.ofNat n).toNat = n := by
  rw [UInt8.toNat_ofNat']; omega
theorem bN_ok : ∀ i, i < 15 → (splitM (bN i) [UInt8.ofNat (100 - i)]).2 = 0 := by decide +kernel
theorem bN_full : splitM (bN 15) [122] = (mp0, 5) := by kernel_rfl
def l24 : List UInt8 := List.replicate 24 0
def l25 : List UInt8 := List.replicate 25 0
def f24 : List UInt8 := List.replicate 24 255
abbrev bE : MpV := (2147483647, [([], [], false, 1)])
abbrev bF : MpV := (2147483646, [([], [], false, 1)])
abbrev bS : MpV := (2147483647, [([], l24, true, 1), (l24, [], false, 1)])
theorem bE1 : splitM bE [122] = (mp0, 5) := by kernel_rfl
theorem bE2 : giveM bE [] 2 = (mp0, 5) := by kernel_rfl
theorem bF1 : splitM bF l24 = (bS, 0) := by kernel_rfl
theorem bF2 : unionM bS l24 = (mp0, 5) := by kernel_rfl
theorem bF3 : splitM bF l25 = (mp0, 2) := by kernel_rfl
def mixL (k : Nat) : List UInt8 := List.replicate k 255 ++ List.replicate (24 - k) 0
theorem mixL_at : ∀ k, k < 24 → (mixL k).set k 255 = mixL (k + 1) := by decide +kernel
theorem mixL_len : ∀ k, k < 25 → (mixL k).length = 24 := by decide +kernel
set_option maxHeartbeats 4000000 in
theorem RangesBounds_c {w : World} : CallsR Try.prog 11 #[] w (fun o w' => o = .bool true ∧ Ext w w') := by
  refine enter 180 Try.func11 rfl rfl (by simp) ?_
  refine c_seq ?_
  have E := Keep.refl (K := NoK) w
  refine wp_reg (by decide +kernel) ?_
  refine l_v (v_assign rfl) ?_
  refine l_nil ?_
  refine n_then ?_
  refine c_seq ?_
  refine wp_reg (by decide +kernel) ?_
  refine l_to (to_f1 (by kernel_rfl) (show _ = (Value.int _ _) from rfl) (CallsR.mono (New_c (by omega)) ?_))
  rintro _ w1 ⟨⟨x1, rfl, HG1⟩, e1⟩
  have zs_e1 := e1.size
  rw [if_pos (show grpB 4 = true from rfl)] at HG1 ⊢
  replace HG1 : AgV tMp _ _ _ (bN 0) := HG1.all
  obtain ⟨a1, c1, rfl, HS1, he1⟩ := HG1.mp
  replace E := E.trans (Ext.keep e1)
  refine l_v (v_move (t := .tuple _) rfl) ?_
  refine l_v (v_extract (t := .agg _) rfl rfl) ?_
  refine l_v (v_extract (t := .int _ _) rfl rfl) ?_
  refine l_to (to_alloc (z := (.agg #[.int .i64 0, .slice none 0 0])) (by unfold kZero; kernel_rfl) ?_)
  rintro b1 w11 zb1 HB1 e11 z11
  have zs_e11 := e11.size
  replace E := E.trans (Ext.keep e11)
  replace HG1 := HG1.ext e11
  try simp only [Value.cells] at HB1
  have HG2 : AgV tMp _ (fun b => b ≠ b1 ∧ b < w11.heap.size) _ (bN 0) := HG1.mono fun b hb h => by omega
  refine l_to (to_storeA (n := 2) rfl rfl (show _ = (Value.agg _) from rfl) (by kernel_rfl) rfl (by first | (simp [slice_one]; done) | (simp only [List.forall_mem_cons, List.cons_append, List.nil_append]; repeat' (first | exact rfl | apply And.intro | (intro u hu; cases hu; done)))) HB1 (by first | exact of_decide_eq_true rfl | (simp; done) | decide) ?_)
  rintro w101 HX101 k101 z101
  have zs_k101 := k101.size
  replace E := E.step k101 (by intro i hi he; (try dsimp only [NoK] at hi he ⊢); first | exact he.elim | omega | exact he)
  replace HG2 := HG2.keep k101 (by intro i _ hi he; (try dsimp only [NoK, AllB] at hi he); first | exact hi.elim | exact he.elim | omega | (rcases hi with hi | hi <;> omega) | (rcases he with he | he <;> omega))
  replace HB1 := HX101
  clear HX101
  try simp only [List.set_cons_zero, List.set_cons_succ, setAt, List.take_zero, List.take_succ_cons, List.drop_zero, List.drop_succ_cons, List.nil_append, List.cons_append, List.append_nil, List.length_cons, List.length_nil, Nat.zero_add, Nat.reduceAdd, List.drop_nil] at HB1
  refine l_v (v_assign (t := .int _ _) rfl) ?_
  refine l_nil ?_
  refine n_then ?_
  refine c_seq ?_
  refine c_seq ?_
  refine wp_reg (by decide +kernel) ?_
  refine l_v (v_assign rfl) ?_
  refine l_nil ?_
  refine n_then ?_
  refine c_block ?_
  refine c_loop (τ := Nat × List Value) [0, 3, 4, 5, 30, 31, 32, 33, 34, 35, 36, 37, 38, 39, 40, 41, 42, 43, 44, 45, 46] (fun (i, cs) => [(3, .int .i64 i)]) (fun (i, cs) W => Ext w W ∧ Keep (fun b => b1 ≤ b) w101 W ∧ i ≤ 15 ∧ Blk W b1 cs 24 ∧ AgV tMp W (fun b => b ≠ b1 ∧ b < W.heap.size) (.agg cs.toArray) (bN i)) (fun (i, cs) => 15 - i) (0, _) (by exact ⟨rfl, trivial⟩) (by exact ⟨E, Keep.refl _, Nat.zero_le _, HB1, HG2.mono fun b hb h => ⟨h.1, hb⟩⟩) ?_
  rintro ⟨i, cs⟩ w102 j ⟨E, EL1, h1, HB1, HG2⟩
  have zs_EL1 := EL1.size
  refine c_seq ?_
  refine c_seq ?_
  obtain ⟨a2, c2, hq2, HS2, he2⟩ := HG2.mp
  obtain rfl : cs = [_, _] := congrArg Array.toList (Value.agg.inj hq2)
  refine wp_reg (by decide +kernel) ?_
  refine l_v (v_move (t := .int _ _) rfl) ?_
  refine l_v (v_lss rfl rfl) ?_
  refine l_nil ?_
  refine n_then ?_
  refine c_cond rfl rfl (fun hlt => ?_) (fun hlt => ?_)
  · skip
    have hlt := dtrue hlt
    refine c_skip ?_
    refine n_then ?_
    refine c_seq ?_
    refine c_block ?_
    refine c_seq ?_
    refine wp_reg (by decide +kernel) ?_
    refine l_v (v_loadA (by kernel_rfl) rfl (by first | exact HB1.pv | assumption) rfl) ?_
    refine l_v (v_move (t := .int _ _) rfl) ?_
    refine l_v (v_sub rfl rfl (by first | exact wr_i64 (by omega) (by omega) | rfl)) ?_
    refine l_v (v_conv (ds := .int .i64) (by kernel_rfl) (by kernel_rfl) rfl (by first | exact wr_u8 (by omega) (by omega) | rfl)) ?_
    refine l_to (to_slice1 (t := tU8) (et := 5) (bytes := 1) (by kernel_rfl) (by decide) (show _ = (Value.int _ _) from rfl) (rep_u8 (F := NoK) (UInt8.ofNat (100 - i)) (by rw [o8 (by omega)]; omega)) ?_)
    rintro b3 w3 zb3 HO3 e3 z3
    have zs_e3 := e3.size
    replace E := E.trans (Ext.keep e3)
    replace HB1 := HB1.ext e3
    replace HG2 := HG2.ext e3
    replace EL1 := EL1.trans (Ext.keep e3)
    have zo_HO3 := fun (b : Nat) h => HO3.own_lt (b := b) h
    refine l_to (to_f2 (by kernel_rfl) (show _ = (Value.agg _) from rfl) (show _ = (Value.slice _ _ _) from rfl) (CallsR.mono (Split_c HG2 HO3.view) ?_))
    rintro _ w5 ⟨⟨x5, rfl, HG5⟩, e5⟩
    have zs_e5 := e5.size
    rw [bN_ok i (by omega)]
    replace HG5 : AgV tMp _ (fun b => b1 < b ∧ b < w5.heap.size) _ (bN (i + 1)) := HG5.mono fun b hb h => ⟨by omega, hb⟩
    obtain ⟨a5, c5, rfl, HS5, he5⟩ := HG5.mp
    replace E := E.trans (Ext.keep e5)
    replace HB1 := HB1.ext e5
    replace HG2 := HG2.ext e5
    replace EL1 := EL1.trans (Ext.keep e5)
    replace HO3 := HO3.ext e5
    refine l_v (v_move (t := .tuple _) rfl) ?_
    refine l_v (v_extract (t := .agg _) rfl rfl) ?_
    refine l_v (v_extract (t := .int _ _) rfl rfl) ?_
    refine l_to (to_alloc (z := (.agg #[.int .i64 0, .slice none 0 0])) (by unfold kZero; kernel_rfl) ?_)
    rintro b5 w15 zb5 HB5 e15 z5
    have zs_e15 := e15.size
    replace E := E.trans (Ext.keep e15)
    replace HB1 := HB1.ext e15
    replace HG2 := HG2.ext e15
    replace EL1 := EL1.trans (Ext.keep e15)
    replace HG5 := HG5.ext e15
    try simp only [Value.cells] at HB5
    refine l_to (to_storeA (n := 2) rfl rfl (show _ = (Value.agg _) from rfl) (by kernel_rfl) rfl (by first | (simp [slice_one]; done) | (simp only [List.forall_mem_cons, List.cons_append, List.nil_append]; repeat' (first | exact rfl | apply And.intro | (intro u hu; cases hu; done)))) HB5 (by first | exact of_decide_eq_true rfl | (simp; done) | decide) ?_)
    rintro w103 HX103 k103 z103
    have zs_k103 := k103.size
    replace E := E.step k103 (by intro i hi he; (try dsimp only [NoK] at hi he ⊢); first | exact he.elim | omega | exact he)
    replace HB1 := HB1.keep k103 (by intro h; (try dsimp only at h); first | omega)
    replace HG2 := HG2.keep k103 (by intro i _ hi he; (try dsimp only [NoK, AllB] at hi he); first | exact hi.elim | exact he.elim | omega | (rcases hi with hi | hi <;> omega) | (rcases he with he | he <;> omega))
    replace EL1 := EL1.step k103 (by intro i hi he; (try dsimp only [NoK] at hi he ⊢); first | exact he.elim | omega | exact he)
    replace HG5 := HG5.keep k103 (by intro i _ hi he; (try dsimp only [NoK, AllB] at hi he); first | exact hi.elim | exact he.elim | omega | (rcases hi with hi | hi <;> omega) | (rcases he with he | he <;> omega))
    replace HB5 := HX103
    clear HX103
    try simp only [List.set_cons_zero, List.set_cons_succ, setAt, List.take_zero, List.take_succ_cons, List.drop_zero, List.drop_succ_cons, List.nil_append, List.cons_append, List.append_nil, List.length_cons, List.length_nil, Nat.zero_add, Nat.reduceAdd, List.drop_nil] at HB5
    refine l_v (v_assign (t := .int _ _) rfl) ?_
    refine l_nil ?_
    refine n_then ?_
    refine c_seq ?_
    refine c_seq ?_
    refine wp_reg (by decide +kernel) ?_
    refine l_v (v_move (t := .int _ _) rfl) ?_
    refine l_to (to_f1 (by kernel_rfl) (show _ = (Value.int _ _) from rfl) (CallsR.mono (num_c) ?_))
    rintro _ w104 ⟨rfl, e104⟩
    have zs_e104 := e104.size
    replace E := E.trans (Ext.keep e104)
    replace HB1 := HB1.ext e104
    replace HG2 := HG2.ext e104
    replace EL1 := EL1.trans (Ext.keep e104)
    replace HG5 := HG5.ext e104
    replace HB5 := HB5.ext e104
    refine l_v (v_neq rfl rfl) ?_
    refine l_nil ?_
    refine n_then ?_
    refine c_cond rfl rfl (fun hn => ?_) (fun hn => ?_)
    · skip
      simp at hn
    · skip
      refine c_skip ?_
      refine n_then ?_
      refine wp_reg (by decide +kernel) ?_
      refine l_v (v_loadA (by kernel_rfl) rfl (by first | exact HB5.pv | exact HB1.pv | assumption) rfl) ?_
      refine l_to (to_storeA (n := 2) rfl rfl (show _ = (Value.agg _) from rfl) (by kernel_rfl) rfl (by first | (simp [slice_one]; done) | (simp only [List.forall_mem_cons, List.cons_append, List.nil_append]; repeat' (first | exact rfl | apply And.intro | (intro u hu; cases hu; done)))) HB1 (by first | exact of_decide_eq_true rfl | (simp; done) | decide) ?_)
      rintro w105 HX105 k105 z105
      have zs_k105 := k105.size
      replace E := E.step k105 (by intro i hi he; (try dsimp only [NoK] at hi he ⊢); first | exact he.elim | omega | exact he)
      replace HG2 := HG2.keep k105 (by intro i _ hi he; (try dsimp only [NoK, AllB] at hi he); first | exact hi.elim | exact he.elim | omega | (rcases hi with hi | hi <;> omega) | (rcases he with he | he <;> omega))
      replace EL1 := EL1.step k105 (by intro i hi he; (try dsimp only [NoK] at hi he ⊢); first | exact he.elim | omega | exact he)
      replace HG5 := HG5.keep k105 (by intro i _ hi he; (try dsimp only [NoK, AllB] at hi he); first | exact hi.elim | exact he.elim | omega | (rcases hi with hi | hi <;> omega) | (rcases he with he | he <;> omega))
      replace HB5 := HB5.keep k105 (by intro h; (try dsimp only at h); first | omega)
      replace HB1 := HX105
      clear HX105
      try simp only [List.set_cons_zero, List.set_cons_succ, setAt, List.take_zero, List.take_succ_cons, List.drop_zero, List.drop_succ_cons, List.nil_append, List.cons_append, List.append_nil, List.length_cons, List.length_nil, Nat.zero_add, Nat.reduceAdd, List.drop_nil] at HB1
      refine l_nil ?_
      refine n_blk ?_
      refine n_then ?_
      refine wp_reg (by decide +kernel) ?_
      refine l_v (v_move (t := .int _ _) rfl) ?_
      refine l_v (v_add rfl rfl (by first | exact wr_i64 (by omega) (by omega) | rfl)) ?_
      refine l_v (v_assign (t := .int _ _) rfl) ?_
      refine l_nil ?_
      refine n_then ?_
      refine ⟨(i + 1, [.int .i64 (bN (i + 1)).1, .slice a5 (bN (i + 1)).2.length c5]), _, rfl, by (repeat (first | exact Off.of_over _ _ _ | refine Off.upd ?_ (by decide) _)), ⟨by first | rfl | exact congrArg (Value.int _) (by omega) | (simp; done), trivial⟩, ⟨E, EL1, ?_⟩, ?_⟩
      · skip
        exact ⟨by omega, HB1, HG5.mono fun b hb h => by omega⟩
      · (dsimp only; omega)
  · skip
    have hi15 : i = 15 := by have := dfalse hlt; omega
    refine c_exit ?_
    refine x_then ?_
    refine x_then ?_
    refine x_hit ?_
    refine n_then ?_
    refine c_seq ?_
    refine wp_reg (by decide +kernel) ?_
    refine l_v (v_loadA (by kernel_rfl) rfl (by first | exact HB1.pv | assumption) rfl) ?_
    refine l_to (to_slice1 (t := tU8) (et := 5) (bytes := 1) (by kernel_rfl) (by decide) (show _ = (Value.int _ _) from rfl) (rep_u8 (F := NoK) 122 rfl) ?_)
    rintro b6 w6 zb6 HO6 e6 z6
    have zs_e6 := e6.size
    replace E := E.trans (Ext.keep e6)
    replace HB1 := HB1.ext e6
    replace HG2 := HG2.ext e6
    have zo_HO6 := fun (b : Nat) h => HO6.own_lt (b := b) h
    refine l_to (to_cvLit (et := 5) (by kernel_rfl) (by kernel_rfl) rfl HO6 ?_)
    rintro w206 HS6 k206 z206
    have zs_k206 := k206.size
    replace E := E.step k206 (by intro i hi he; (try dsimp only [NoK] at hi he ⊢); first | exact he.elim | omega | exact he)
    replace HB1 := HB1.keep k206 (by intro h; (try dsimp only at h); first | omega)
    replace HG2 := HG2.keep k206 (by intro i _ hi he; (try dsimp only [NoK, AllB] at hi he); first | exact hi.elim | exact he.elim | omega | (rcases hi with hi | hi <;> omega) | (rcases he with he | he <;> omega))
    refine l_to (to_f2 (by kernel_rfl) (show _ = (Value.agg _) from rfl) (show _ = (Value.slice _ _ _) from rfl) (CallsR.mono (Split_c HG2 HS6) ?_))
    rintro _ w7 ⟨⟨x7, rfl, HG7⟩, e7⟩
    have zs_e7 := e7.size
    rw [show splitM (bN i) [122] = (mp0, 5) from by rw [hi15]; exact bN_full] at HG7 ⊢
    replace HG7 := HG7.all
    obtain ⟨a7, c7, rfl, HS7, he7⟩ := HG7.mp
    replace E := E.trans (Ext.keep e7)
    replace HB1 := HB1.ext e7
    replace HG2 := HG2.ext e7
    replace HS6 := HS6.ext e7
    refine l_v (v_move (t := .tuple _) rfl) ?_
    refine l_v (v_extract (t := .agg _) rfl rfl) ?_
    refine l_v (v_extract (t := .int _ _) rfl rfl) ?_
    refine l_to (to_alloc (z := (.agg #[.int .i64 0, .slice none 0 0])) (by unfold kZero; kernel_rfl) ?_)
    rintro b7 w17 zb7 HB7 e17 z7
    have zs_e17 := e17.size
    replace E := E.trans (Ext.keep e17)
    try simp only [Value.cells] at HB7
    refine l_to (to_storeA (n := 2) rfl rfl (show _ = (Value.agg _) from rfl) (by kernel_rfl) rfl (by first | (simp [slice_one]; done) | (simp only [List.forall_mem_cons, List.cons_append, List.nil_append]; repeat' (first | exact rfl | apply And.intro | (intro u hu; cases hu; done)))) HB7 (by first | exact of_decide_eq_true rfl | (simp; done) | decide) ?_)
    rintro w106 HX106 k106 z106
    have zs_k106 := k106.size
    replace E := E.step k106 (by intro i hi he; (try dsimp only [NoK] at hi he ⊢); first | exact he.elim | omega | exact he)
    replace HB7 := HX106
    clear HX106
    try simp only [List.set_cons_zero, List.set_cons_succ, setAt, List.take_zero, List.take_succ_cons, List.drop_zero, List.drop_succ_cons, List.nil_append, List.cons_append, List.append_nil, List.length_cons, List.length_nil, Nat.zero_add, Nat.reduceAdd, List.drop_nil] at HB7
    refine l_v (v_assign (t := .int _ _) rfl) ?_
    refine l_nil ?_
    refine n_then ?_
    refine c_seq ?_
    refine wp_reg (by decide +kernel) ?_
    refine l_to (to_f1 (by kernel_rfl) (show _ = (Value.int _ _) from rfl) (CallsR.mono (New_c (by omega)) ?_))
    rintro _ w8 ⟨⟨x8, rfl, HG8⟩, e8⟩
    have zs_e8 := e8.size
    rw [if_pos (show grpB 1 = true from rfl)] at HG8 ⊢
    replace HG8 := HG8.all
    obtain ⟨a8, c8, rfl, HS8, he8⟩ := HG8.mp
    replace E := E.trans (Ext.keep e8)
    refine l_v (v_move (t := .tuple _) rfl) ?_
    refine l_v (v_extract (t := .agg _) rfl rfl) ?_
    refine l_v (v_extract (t := .int _ _) rfl rfl) ?_
    refine l_to (to_alloc (z := (.agg #[.int .i64 0, .slice none 0 0])) (by unfold kZero; kernel_rfl) ?_)
    rintro b8 w18 zb8 HB8 e18 z8
    have zs_e18 := e18.size
    replace E := E.trans (Ext.keep e18)
    replace HS8 := HS8.ext e18
    try simp only [Value.cells] at HB8
    have HG9 : AgV tMp w18 (fun b => b < b8) (.agg #[.int .i64 2147483647, _]) bE := AgV.mkMp (HS8.mono fun b _ h => by omega) (by decide)
    refine l_to (to_storeA (n := 2) rfl rfl (show _ = (Value.agg _) from rfl) (by kernel_rfl) rfl (by first | (simp [slice_one]; done) | (simp only [List.forall_mem_cons, List.cons_append, List.nil_append]; repeat' (first | exact rfl | apply And.intro | (intro u hu; cases hu; done)))) HB8 (by first | exact of_decide_eq_true rfl | (simp; done) | decide) ?_)
    rintro w107 HX107 k107 z107
    have zs_k107 := k107.size
    replace E := E.step k107 (by intro i hi he; (try dsimp only [NoK] at hi he ⊢); first | exact he.elim | omega | exact he)
    replace HS8 := HS8.keep k107 (by intro i _ hi he; (try dsimp only [NoK, AllB] at hi he); first | exact hi.elim | exact he.elim | omega | (rcases hi with hi | hi <;> omega) | (rcases he with he | he <;> omega))
    replace HG9 := HG9.keep k107 (by intro i _ hi he; (try dsimp only [NoK, AllB] at hi he); first | exact hi.elim | exact he.elim | omega | (rcases hi with hi | hi <;> omega) | (rcases he with he | he <;> omega))
    replace HB8 := HX107
    clear HX107
    try simp only [List.set_cons_zero, List.set_cons_succ, setAt, List.take_zero, List.take_succ_cons, List.drop_zero, List.drop_succ_cons, List.nil_append, List.cons_append, List.append_nil, List.length_cons, List.length_nil, Nat.zero_add, Nat.reduceAdd, List.drop_nil] at HB8
    refine l_v (v_assign (t := .int _ _) rfl) ?_
    refine l_nil ?_
    refine n_then ?_
    refine c_seq ?_
    refine wp_reg (by decide +kernel) ?_
    refine l_v (v_fieldAddr (off := 0) (ft := 2) (by kernel_rfl) rfl) ?_
    refine l_to (to_store rfl rfl (show _ = (Value.int _ _) from rfl) rfl (by kernel_rfl) HB8 (by first | exact of_decide_eq_true rfl | (simp; done) | decide) ?_)
    rintro w108 HX108 k108 z108
    have zs_k108 := k108.size
    replace E := E.step k108 (by intro i hi he; (try dsimp only [NoK] at hi he ⊢); first | exact he.elim | omega | exact he)
    replace HS8 := HS8.keep k108 (by intro i _ hi he; (try dsimp only [NoK, AllB] at hi he); first | exact hi.elim | exact he.elim | omega | (rcases hi with hi | hi <;> omega) | (rcases he with he | he <;> omega))
    replace HG9 := HG9.keep k108 (by intro i _ hi he; (try dsimp only [NoK, AllB] at hi he); first | exact hi.elim | exact he.elim | omega | (rcases hi with hi | hi <;> omega) | (rcases he with he | he <;> omega))
    replace HB8 := HX108
    clear HX108
    try simp only [List.set_cons_zero, List.set_cons_succ, setAt, List.take_zero, List.take_succ_cons, List.drop_zero, List.drop_succ_cons, List.nil_append, List.cons_append, List.append_nil, List.length_cons, List.length_nil, Nat.zero_add, Nat.reduceAdd, List.drop_nil] at HB8
    refine l_nil ?_
    refine n_then ?_
    refine c_seq ?_
    refine wp_reg (by decide +kernel) ?_
    refine l_v (v_loadA (by kernel_rfl) rfl (by first | exact HB8.pv | assumption) rfl) ?_
    refine l_to (to_slice1 (t := tU8) (et := 5) (bytes := 1) (by kernel_rfl) (by decide) (show _ = (Value.int _ _) from rfl) (rep_u8 (F := NoK) 122 rfl) ?_)
    rintro b10 w10 zb10 HO10 e10 z10
    have zs_e10 := e10.size
    replace E := E.trans (Ext.keep e10)
    replace HS8 := HS8.ext e10
    replace HB8 := HB8.ext e10
    replace HG9 := HG9.ext e10
    have zo_HO10 := fun (b : Nat) h => HO10.own_lt (b := b) h
    refine l_to (to_cvLit (et := 5) (by kernel_rfl) (by kernel_rfl) rfl HO10 ?_)
    rintro w210 HS10 k210 z210
    have zs_k210 := k210.size
    replace E := E.step k210 (by intro i hi he; (try dsimp only [NoK] at hi he ⊢); first | exact he.elim | omega | exact he)
    replace HS8 := HS8.keep k210 (by intro i _ hi he; (try dsimp only [NoK, AllB] at hi he); first | exact hi.elim | exact he.elim | omega | (rcases hi with hi | hi <;> omega) | (rcases he with he | he <;> omega))
    replace HB8 := HB8.keep k210 (by intro h; (try dsimp only at h); first | omega)
    replace HG9 := HG9.keep k210 (by intro i _ hi he; (try dsimp only [NoK, AllB] at hi he); first | exact hi.elim | exact he.elim | omega | (rcases hi with hi | hi <;> omega) | (rcases he with he | he <;> omega))
    refine l_to (to_f2 (by kernel_rfl) (show _ = (Value.agg _) from rfl) (show _ = (Value.slice _ _ _) from rfl) (CallsR.mono (Split_c HG9 HS10) ?_))
    rintro _ w11 ⟨⟨x11, rfl, HG11⟩, e11⟩
    have zs_e11 := e11.size
    rw [bE1] at HG11 ⊢
    replace HG11 := HG11.all
    obtain ⟨a11, c11, rfl, HS11, he11⟩ := HG11.mp
    replace E := E.trans (Ext.keep e11)
    replace HS8 := HS8.ext e11
    replace HB8 := HB8.ext e11
    replace HG9 := HG9.ext e11
    replace HS10 := HS10.ext e11
    refine l_v (v_move (t := .tuple _) rfl) ?_
    refine l_v (v_extract (t := .agg _) rfl rfl) ?_
    refine l_v (v_extract (t := .int _ _) rfl rfl) ?_
    refine l_to (to_alloc (z := (.agg #[.int .i64 0, .slice none 0 0])) (by unfold kZero; kernel_rfl) ?_)
    rintro b11 w21 zb11 HB11 e21 z11
    have zs_e21 := e21.size
    replace E := E.trans (Ext.keep e21)
    replace HS8 := HS8.ext e21
    replace HB8 := HB8.ext e21
    replace HG9 := HG9.ext e21
    try simp only [Value.cells] at HB11
    refine l_to (to_storeA (n := 2) rfl rfl (show _ = (Value.agg _) from rfl) (by kernel_rfl) rfl (by first | (simp [slice_one]; done) | (simp only [List.forall_mem_cons, List.cons_append, List.nil_append]; repeat' (first | exact rfl | apply And.intro | (intro u hu; cases hu; done)))) HB11 (by first | exact of_decide_eq_true rfl | (simp; done) | decide) ?_)
    rintro w109 HX109 k109 z109
    have zs_k109 := k109.size
    replace E := E.step k109 (by intro i hi he; (try dsimp only [NoK] at hi he ⊢); first | exact he.elim | omega | exact he)
    replace HS8 := HS8.keep k109 (by intro i _ hi he; (try dsimp only [NoK, AllB] at hi he); first | exact hi.elim | exact he.elim | omega | (rcases hi with hi | hi <;> omega) | (rcases he with he | he <;> omega))
    replace HB8 := HB8.keep k109 (by intro h; (try dsimp only at h); first | omega)
    replace HG9 := HG9.keep k109 (by intro i _ hi he; (try dsimp only [NoK, AllB] at hi he); first | exact hi.elim | exact he.elim | omega | (rcases hi with hi | hi <;> omega) | (rcases he with he | he <;> omega))
    replace HB11 := HX109
    clear HX109
    try simp only [List.set_cons_zero, List.set_cons_succ, setAt, List.take_zero, List.take_succ_cons, List.drop_zero, List.drop_succ_cons, List.nil_append, List.cons_append, List.append_nil, List.length_cons, List.length_nil, Nat.zero_add, Nat.reduceAdd, List.drop_nil] at HB11
    refine l_v (v_assign (t := .int _ _) rfl) ?_
    refine l_nil ?_
    refine n_then ?_
    refine c_seq ?_
    refine wp_reg (by decide +kernel) ?_
    refine l_v (v_loadA (by kernel_rfl) rfl (by first | exact HB8.pv | assumption) rfl) ?_
    refine l_to (to_f3 (by kernel_rfl) (show _ = (Value.agg _) from rfl) (show _ = (Value.slice _ _ _) from rfl) (show _ = (Value.int _ _) from rfl) (CallsR.mono (Give_c HG9 (SlV.nil tU8 _ NoK)) ?_))
    rintro _ w12 ⟨⟨x12, rfl, HG12⟩, e12⟩
    have zs_e12 := e12.size
    rw [bE2] at HG12 ⊢
    replace HG12 := HG12.all
    obtain ⟨a12, c12, rfl, HS12, he12⟩ := HG12.mp
    replace E := E.trans (Ext.keep e12)
    replace HS8 := HS8.ext e12
    replace HB8 := HB8.ext e12
    replace HG9 := HG9.ext e12
    refine l_v (v_move (t := .tuple _) rfl) ?_
    refine l_v (v_extract (t := .agg _) rfl rfl) ?_
    refine l_v (v_extract (t := .int _ _) rfl rfl) ?_
    refine l_to (to_alloc (z := (.agg #[.int .i64 0, .slice none 0 0])) (by unfold kZero; kernel_rfl) ?_)
    rintro b12 w22 zb12 HB12 e22 z12
    have zs_e22 := e22.size
    replace E := E.trans (Ext.keep e22)
    replace HS8 := HS8.ext e22
    replace HB8 := HB8.ext e22
    try simp only [Value.cells] at HB12
    have HG14 : AgV tMp w22 (fun b => b < b8) (.agg #[.int .i64 2147483646, _]) bF := AgV.mkMp (HS8.mono fun b _ h => by omega) (by decide)
    refine l_to (to_storeA (n := 2) rfl rfl (show _ = (Value.agg _) from rfl) (by kernel_rfl) rfl (by first | (simp [slice_one]; done) | (simp only [List.forall_mem_cons, List.cons_append, List.nil_append]; repeat' (first | exact rfl | apply And.intro | (intro u hu; cases hu; done)))) HB12 (by first | exact of_decide_eq_true rfl | (simp; done) | decide) ?_)
    rintro w110 HX110 k110 z110
    have zs_k110 := k110.size
    replace E := E.step k110 (by intro i hi he; (try dsimp only [NoK] at hi he ⊢); first | exact he.elim | omega | exact he)
    replace HB8 := HB8.keep k110 (by intro h; (try dsimp only at h); first | omega)
    replace HG14 := HG14.keep k110 (by intro i _ hi he; (try dsimp only [NoK, AllB] at hi he); first | exact hi.elim | exact he.elim | omega | (rcases hi with hi | hi <;> omega) | (rcases he with he | he <;> omega))
    replace HB12 := HX110
    clear HX110
    try simp only [List.set_cons_zero, List.set_cons_succ, setAt, List.take_zero, List.take_succ_cons, List.drop_zero, List.drop_succ_cons, List.nil_append, List.cons_append, List.append_nil, List.length_cons, List.length_nil, Nat.zero_add, Nat.reduceAdd, List.drop_nil] at HB12
    refine l_v (v_assign (t := .int _ _) rfl) ?_
    refine l_nil ?_
    refine n_then ?_
    refine c_seq ?_
    refine wp_reg (by decide +kernel) ?_
    refine l_v (v_fieldAddr (off := 0) (ft := 2) (by kernel_rfl) rfl) ?_
    refine l_v (v_load (by kernel_rfl) rfl (by first | exact HB8.pv 0 _ rfl | assumption)) ?_
    refine l_v (v_sub rfl rfl (by first | exact wr_i64 (by omega) (by omega) | rfl)) ?_
    refine l_v (v_fieldAddr (off := 0) (ft := 2) (by kernel_rfl) rfl) ?_
    refine l_to (to_store rfl rfl (show _ = (Value.int _ _) from rfl) rfl (by kernel_rfl) HB8 (by first | exact of_decide_eq_true rfl | (simp; done) | decide) ?_)
    rintro w111 HX111 k111 z111
    have zs_k111 := k111.size
    replace E := E.step k111 (by intro i hi he; (try dsimp only [NoK] at hi he ⊢); first | exact he.elim | omega | exact he)
    replace HG14 := HG14.keep k111 (by intro i _ hi he; (try dsimp only [NoK, AllB] at hi he); first | exact hi.elim | exact he.elim | omega | (rcases hi with hi | hi <;> omega) | (rcases he with he | he <;> omega))
    replace HB8 := HX111
    clear HX111
    try simp only [List.set_cons_zero, List.set_cons_succ, setAt, List.take_zero, List.take_succ_cons, List.drop_zero, List.drop_succ_cons, List.nil_append, List.cons_append, List.append_nil, List.length_cons, List.length_nil, Nat.zero_add, Nat.reduceAdd, List.drop_nil] at HB8
    refine l_nil ?_
    refine n_then ?_
    refine c_seq ?_
    refine wp_any (by kernel_rfl) ?_
    have e112 : Ext w111 { w111 with drawn := w111.drawn + 1 } := Keep.drawn _ _
    generalize hw112 : ({ w111 with drawn := w111.drawn + 1 } : World) = w112 at e112 ⊢
    clear hw112
    have zs_e112 := e112.size
    replace E := E.trans (Ext.keep e112)
    replace HB8 := HB8.ext e112
    replace HG14 := HG14.ext e112
    refine r_cut 8 rfl (by decide +kernel) (by decide +kernel) (by decide +kernel) ?_
    refine wp_regJW (fun k => w112.heap.size ≤ k) (CJ (tMp) (bS) (tU8) (l24) (.int .i64 0) ([.int .i64 0, .slice none 0 0] : List Value) 24 1 2 3 4 5 6 7 w112.heap.size) (by decide +kernel) (by decide +kernel) (fun vals done hd => CJ.start _ (by rfl) (by simp only [List.forall_mem_cons]; repeat' (first | exact rfl | apply And.intro | (intro u hu; cases hu; done))) (Nat.le_refl _) (hd 1 (by decide)) (hd 2 (by decide)) (hd 3 (by decide)) (hd 4 (by decide)) (hd 5 (by decide)) (hd 6 (by decide))) ?_
    refine rj_v CJ.on (by decide) (fun done vals w hR hJ hdn hd => v_loadA (by kernel_rfl) rfl (by first | exact (HB8.keep hR (by intro h; (try dsimp only at h); first | omega)).pv | assumption) rfl) ?_
    refine rj_d (fun done vals w hR hcl hdk hJ hdn hd => to_make (et := 5) (bytes := 1) (by kernel_rfl) (t := tU8) (z := 0) (n := 24) (m := 24) (zv := .int .u8 0) rfl rfl (.inl rfl) (by omega) (by simp only [maxLen]; omega) (by unfold kZero; kernel_rfl) rfl rfl (fun _ _ => rfl) (fun b c w1 hb o e hz => ⟨Ext.keep e, hJ.pp (by decide) e (o.view.mono fun i _ h => by rcases h with h | h; omega; exact h.elim)⟩)) ?_
    refine rj_d (fun done vals w hR hcl hdk hJ hdn hd => by
        have hA := hJ.arg (hdn 1 rfl)
        exact to_f2 (by kernel_rfl) (hd 0 rfl) (show _ = vals 1 from rfl) (CallsR.mono (bF1 ▸ Split_c (HG14.keep hR (by intro i _ hi he; (try dsimp only [NoK, AllB] at hi he); first | exact hi.elim | exact he.elim | omega | (rcases hi with hi | hi <;> omega) | (rcases he with he | he <;> omega))) hA) fun o w1 h => by
          obtain ⟨⟨y, rfl, cs, rfl, hr⟩, e1⟩ := h
          exact ⟨Ext.keep e1, hJ.call (by decide) (Bool.eq_false_iff.2 fun h => absurd (hdk.symm.trans (hcl 3 _ h rfl 2 rfl)) (by decide)) (Bool.eq_false_iff.2 fun h => absurd (hdk.symm.trans (hcl 3 _ (hcl 4 _ h rfl 3 rfl) rfl 2 rfl)) (by decide)) (Bool.eq_false_iff.2 fun h => absurd (hdk.symm.trans (hcl 3 _ (hcl 5 _ h rfl 3 rfl) rfl 2 rfl)) (by decide)) (Bool.eq_false_iff.2 fun h => absurd (hdk.symm.trans (hcl 3 _ (hcl 4 _ (hcl 7 _ h rfl 4 rfl) rfl 3 rfl) rfl 2 rfl)) (by decide)) e1 hr (Ty.len _ hr) (Ty.one _ hr)⟩)) ?_
    refine rj_d (fun done vals w hR hcl hdk hJ hdn hd => by
        obtain ⟨cs, hv, hj⟩ := hJ.mvd (by decide) (hdn 2 rfl)
        exact OpTo.of_v (v_move (t := .tuple #[.agg cs.toArray, .int .i64 0]) hv) ⟨Keep.refl _, hj⟩) ?_
    refine rj_d (fun done vals w hR hcl hdk hJ hdn hd => by
        obtain ⟨cs, hv, hj⟩ := hJ.x0d (by decide) (hdn 3 rfl)
        exact OpTo.of_v (v_extract (t := .agg cs.toArray) hv rfl) ⟨Keep.refl _, hj⟩) ?_
    refine rj_d (fun done vals w hR hcl hdk hJ hdn hd => by
        obtain ⟨cs, hv, hj⟩ := hJ.x1d (by decide) (hdn 3 rfl)
        exact OpTo.of_v (v_extract (t := .int .i64 0) hv rfl) ⟨Keep.refl _, hj⟩) ?_
    refine rj_d (fun done vals w hR hcl hdk hJ hdn hd => to_alloc (z := .agg #[.int .i64 0, .slice none 0 0]) (by unfold kZero; kernel_rfl) fun b w1 hb hB e hz => ⟨Ext.keep e, hJ.al (by decide) (Bool.eq_false_iff.2 fun h => absurd (hdk.symm.trans (hcl 7 _ h rfl 6 rfl)) (by decide)) hb hB e⟩) ?_
    refine rj_d (fun done vals w hR hcl hdk hJ hdn hd => by
        obtain ⟨b, cs, hb, hv, hn, hB, hl, ho⟩ := hJ.seen (hdn 4 rfl) (hdn 6 rfl) hdk
        exact to_storeA (n := 2) (hb) rfl (hv) (by kernel_rfl) (show cs.length = _ from hl) (show ∀ u ∈ cs, _ from ho) hB (of_decide_eq_true rfl) (fun w1 hB1 kk z => ⟨kk.mono (fun i _ h => by rw [h]; exact hn), hJ.st (by decide) (hdn 4 rfl) (hdn 6 rfl) hb hv (by rw [show cs.toArray.toList = cs from rfl, setAt_all (by rw [hl]; rfl)] at hB1; exact hB1) kk⟩)) ?_
    refine rj_nil (fun vals w113 k113 J113 => ?_)
    rintro _ - rfl v77 qp1 - v78 qp2 - v75 qp3 - v79 qp4 - v80 qp5 - v14 qp6 - _ - -
    have zs_k113 := k113.size
    obtain ⟨b14, cs14, qh2, qh3, qh4, qh5, qh6, zb14, HB14, HG15, HSp14⟩ := J113.fin
    obtain rfl := qp2.trans qh2
    obtain rfl := qp3.trans qh3
    obtain rfl := qp4.trans qh4
    obtain rfl := qp5.trans qh5
    obtain rfl := qp6.trans qh6
    clear HSp14
    have zl14 := HB14.lt
    replace E := E.step k113 (by intro i hi he; (try dsimp only [NoK] at hi he ⊢); first | exact he.elim | omega | exact he)
    replace HB8 := HB8.keep k113 (by intro h; (try dsimp only at h); first | omega)
    replace HG14 := HG14.keep k113 (by intro i _ hi he; (try dsimp only [NoK, AllB] at hi he); first | exact hi.elim | exact he.elim | omega | (rcases hi with hi | hi <;> omega) | (rcases he with he | he <;> omega))
    obtain ⟨a14, c14, hq14, HS14, he14⟩ := HG15.mp
    obtain rfl : cs14 = [_, _] := congrArg Array.toList (Value.agg.inj hq14)
    refine fin_nilJ ?_
    refine n_then ?_
    refine r_one (by decide +kernel) rfl ?_
    refine l_v (v_assign (t := .int _ _) rfl) ?_
    refine l_nil ?_
    refine n_then ?_
    refine c_seq ?_
    refine wp_any (by kernel_rfl) ?_
    have e114 : Ext w113 { w113 with drawn := w113.drawn + 1 } := Keep.drawn _ _
    generalize hw114 : ({ w113 with drawn := w113.drawn + 1 } : World) = w114 at e114 ⊢
    clear hw114
    have zs_e114 := e114.size
    replace E := E.trans (Ext.keep e114)
    replace HB8 := HB8.ext e114
    replace HG14 := HG14.ext e114
    replace HB14 := HB14.ext e114
    replace HG15 := HG15.ext e114
    refine r_cut 8 rfl (by decide +kernel) (by decide +kernel) (by decide +kernel) ?_
    refine wp_regJW (fun k => w114.heap.size ≤ k) (CJ (tMp) (mp0) (tU8) (l24) (.int .i64 5) ([.int .i64 0, .slice none 0 0] : List Value) 24 1 2 3 4 5 6 7 w114.heap.size) (by decide +kernel) (by decide +kernel) (fun vals done hd => CJ.start _ (by rfl) (by simp only [List.forall_mem_cons]; repeat' (first | exact rfl | apply And.intro | (intro u hu; cases hu; done))) (Nat.le_refl _) (hd 1 (by decide)) (hd 2 (by decide)) (hd 3 (by decide)) (hd 4 (by decide)) (hd 5 (by decide)) (hd 6 (by decide))) ?_
    refine rj_v CJ.on (by decide) (fun done vals w hR hJ hdn hd => v_loadA (by kernel_rfl) rfl (by first | exact (HB14.keep hR (by intro h; (try dsimp only at h); first | omega)).pv | exact (HB8.keep hR (by intro h; (try dsimp only at h); first | omega)).pv | assumption) rfl) ?_
    refine rj_d (fun done vals w hR hcl hdk hJ hdn hd => to_make (et := 5) (bytes := 1) (by kernel_rfl) (t := tU8) (z := 0) (n := 24) (m := 24) (zv := .int .u8 0) rfl rfl (.inl rfl) (by omega) (by simp only [maxLen]; omega) (by unfold kZero; kernel_rfl) rfl rfl (fun _ _ => rfl) (fun b c w1 hb o e hz => ⟨Ext.keep e, hJ.pp (by decide) e (o.view.mono fun i _ h => by rcases h with h | h; omega; exact h.elim)⟩)) ?_
    refine rj_d (fun done vals w hR hcl hdk hJ hdn hd => by
        have hA := hJ.arg (hdn 1 rfl)
        exact to_f2 (by kernel_rfl) (hd 0 rfl) (show _ = vals 1 from rfl) (CallsR.mono (bF2 ▸ Union_c (HG15.keep hR (by intro i _ hi he; (try dsimp only [NoK, AllB] at hi he); first | exact hi.elim | exact he.elim | omega | (rcases hi with hi | hi <;> omega) | (rcases he with he | he <;> omega))) hA) fun o w1 h => by
          obtain ⟨⟨y, rfl, cs, rfl, hr⟩, e1⟩ := h
          exact ⟨Ext.keep e1, hJ.call (by decide) (Bool.eq_false_iff.2 fun h => absurd (hdk.symm.trans (hcl 3 _ h rfl 2 rfl)) (by decide)) (Bool.eq_false_iff.2 fun h => absurd (hdk.symm.trans (hcl 3 _ (hcl 4 _ h rfl 3 rfl) rfl 2 rfl)) (by decide)) (Bool.eq_false_iff.2 fun h => absurd (hdk.symm.trans (hcl 3 _ (hcl 5 _ h rfl 3 rfl) rfl 2 rfl)) (by decide)) (Bool.eq_false_iff.2 fun h => absurd (hdk.symm.trans (hcl 3 _ (hcl 4 _ (hcl 7 _ h rfl 4 rfl) rfl 3 rfl) rfl 2 rfl)) (by decide)) e1 hr (Ty.len _ hr) (Ty.one _ hr)⟩)) ?_
    refine rj_d (fun done vals w hR hcl hdk hJ hdn hd => by
        obtain ⟨cs, hv, hj⟩ := hJ.mvd (by decide) (hdn 2 rfl)
        exact OpTo.of_v (v_move (t := .tuple #[.agg cs.toArray, .int .i64 5]) hv) ⟨Keep.refl _, hj⟩) ?_
    refine rj_d (fun done vals w hR hcl hdk hJ hdn hd => by
        obtain ⟨cs, hv, hj⟩ := hJ.x0d (by decide) (hdn 3 rfl)
        exact OpTo.of_v (v_extract (t := .agg cs.toArray) hv rfl) ⟨Keep.refl _, hj⟩) ?_
    refine rj_d (fun done vals w hR hcl hdk hJ hdn hd => by
        obtain ⟨cs, hv, hj⟩ := hJ.x1d (by decide) (hdn 3 rfl)
        exact OpTo.of_v (v_extract (t := .int .i64 5) hv rfl) ⟨Keep.refl _, hj⟩) ?_
    refine rj_d (fun done vals w hR hcl hdk hJ hdn hd => to_alloc (z := .agg #[.int .i64 0, .slice none 0 0]) (by unfold kZero; kernel_rfl) fun b w1 hb hB e hz => ⟨Ext.keep e, hJ.al (by decide) (Bool.eq_false_iff.2 fun h => absurd (hdk.symm.trans (hcl 7 _ h rfl 6 rfl)) (by decide)) hb hB e⟩) ?_
    refine rj_d (fun done vals w hR hcl hdk hJ hdn hd => by
        obtain ⟨b, cs, hb, hv, hn, hB, hl, ho⟩ := hJ.seen (hdn 4 rfl) (hdn 6 rfl) hdk
        exact to_storeA (n := 2) (hb) rfl (hv) (by kernel_rfl) (show cs.length = _ from hl) (show ∀ u ∈ cs, _ from ho) hB (of_decide_eq_true rfl) (fun w1 hB1 kk z => ⟨kk.mono (fun i _ h => by rw [h]; exact hn), hJ.st (by decide) (hdn 4 rfl) (hdn 6 rfl) hb hv (by rw [show cs.toArray.toList = cs from rfl, setAt_all (by rw [hl]; rfl)] at hB1; exact hB1) kk⟩)) ?_
    refine rj_nil (fun vals w115 k115 J115 => ?_)
    rintro _ - rfl v83 qp1 - v84 qp2 - v81 qp3 - v85 qp4 - v86 qp5 - v16 qp6 - _ - -
    have zs_k115 := k115.size
    obtain ⟨b16, cs16, qh2, qh3, qh4, qh5, qh6, zb16, HB16, HG16, HSp16⟩ := J115.fin
    obtain rfl := qp2.trans qh2
    obtain rfl := qp3.trans qh3
    obtain rfl := qp4.trans qh4
    obtain rfl := qp5.trans qh5
    obtain rfl := qp6.trans qh6
    clear HSp16
    have zl16 := HB16.lt
    replace E := E.step k115 (by intro i hi he; (try dsimp only [NoK] at hi he ⊢); first | exact he.elim | omega | exact he)
    replace HB8 := HB8.keep k115 (by intro h; (try dsimp only at h); first | omega)
    replace HG14 := HG14.keep k115 (by intro i _ hi he; (try dsimp only [NoK, AllB] at hi he); first | exact hi.elim | exact he.elim | omega | (rcases hi with hi | hi <;> omega) | (rcases he with he | he <;> omega))
    replace HB14 := HB14.keep k115 (by intro h; (try dsimp only at h); first | omega)
    replace HG15 := HG15.keep k115 (by intro i _ hi he; (try dsimp only [NoK, AllB] at hi he); first | exact hi.elim | exact he.elim | omega | (rcases hi with hi | hi <;> omega) | (rcases he with he | he <;> omega))
    refine fin_nilJ ?_
    refine n_then ?_
    refine r_one (by decide +kernel) rfl ?_
    refine l_v (v_assign (t := .int _ _) rfl) ?_
    refine l_nil ?_
    refine n_then ?_
    refine c_seq ?_
    refine wp_any (by kernel_rfl) ?_
    have e116 : Ext w115 { w115 with drawn := w115.drawn + 1 } := Keep.drawn _ _
    generalize hw116 : ({ w115 with drawn := w115.drawn + 1 } : World) = w116 at e116 ⊢
    clear hw116
    have zs_e116 := e116.size
    replace E := E.trans (Ext.keep e116)
    replace HB8 := HB8.ext e116
    replace HG14 := HG14.ext e116
    replace HB14 := HB14.ext e116
    replace HB16 := HB16.ext e116
    refine r_cut 8 rfl (by decide +kernel) (by decide +kernel) (by decide +kernel) ?_
    refine wp_regJW (fun k => w116.heap.size ≤ k) (CJ (tMp) (mp0) (tU8) (l25) (.int .i64 2) ([.int .i64 0, .slice none 0 0] : List Value) 24 1 2 3 4 5 6 7 w116.heap.size) (by decide +kernel) (by decide +kernel) (fun vals done hd => CJ.start _ (by rfl) (by simp only [List.forall_mem_cons]; repeat' (first | exact rfl | apply And.intro | (intro u hu; cases hu; done))) (Nat.le_refl _) (hd 1 (by decide)) (hd 2 (by decide)) (hd 3 (by decide)) (hd 4 (by decide)) (hd 5 (by decide)) (hd 6 (by decide))) ?_
    refine rj_v CJ.on (by decide) (fun done vals w hR hJ hdn hd => v_loadA (by kernel_rfl) rfl (by first | exact (HB16.keep hR (by intro h; (try dsimp only at h); first | omega)).pv | exact (HB14.keep hR (by intro h; (try dsimp only at h); first | omega)).pv | exact (HB8.keep hR (by intro h; (try dsimp only at h); first | omega)).pv | assumption) rfl) ?_
    refine rj_d (fun done vals w hR hcl hdk hJ hdn hd => to_make (et := 5) (bytes := 1) (by kernel_rfl) (t := tU8) (z := 0) (n := 25) (m := 25) (zv := .int .u8 0) rfl rfl (.inl rfl) (by omega) (by simp only [maxLen]; omega) (by unfold kZero; kernel_rfl) rfl rfl (fun _ _ => rfl) (fun b c w1 hb o e hz => ⟨Ext.keep e, hJ.pp (by decide) e (o.view.mono fun i _ h => by rcases h with h | h; omega; exact h.elim)⟩)) ?_
    refine rj_d (fun done vals w hR hcl hdk hJ hdn hd => by
        have hA := hJ.arg (hdn 1 rfl)
        exact to_f2 (by kernel_rfl) (hd 0 rfl) (show _ = vals 1 from rfl) (CallsR.mono (bF3 ▸ Split_c (HG14.keep hR (by intro i _ hi he; (try dsimp only [NoK, AllB] at hi he); first | exact hi.elim | exact he.elim | omega | (rcases hi with hi | hi <;> omega) | (rcases he with he | he <;> omega))) hA) fun o w1 h => by
          obtain ⟨⟨y, rfl, cs, rfl, hr⟩, e1⟩ := h
          exact ⟨Ext.keep e1, hJ.call (by decide) (Bool.eq_false_iff.2 fun h => absurd (hdk.symm.trans (hcl 3 _ h rfl 2 rfl)) (by decide)) (Bool.eq_false_iff.2 fun h => absurd (hdk.symm.trans (hcl 3 _ (hcl 4 _ h rfl 3 rfl) rfl 2 rfl)) (by decide)) (Bool.eq_false_iff.2 fun h => absurd (hdk.symm.trans (hcl 3 _ (hcl 5 _ h rfl 3 rfl) rfl 2 rfl)) (by decide)) (Bool.eq_false_iff.2 fun h => absurd (hdk.symm.trans (hcl 3 _ (hcl 4 _ (hcl 7 _ h rfl 4 rfl) rfl 3 rfl) rfl 2 rfl)) (by decide)) e1 hr (Ty.len _ hr) (Ty.one _ hr)⟩)) ?_
    refine rj_d (fun done vals w hR hcl hdk hJ hdn hd => by
        obtain ⟨cs, hv, hj⟩ := hJ.mvd (by decide) (hdn 2 rfl)
        exact OpTo.of_v (v_move (t := .tuple #[.agg cs.toArray, .int .i64 2]) hv) ⟨Keep.refl _, hj⟩) ?_
    refine rj_d (fun done vals w hR hcl hdk hJ hdn hd => by
        obtain ⟨cs, hv, hj⟩ := hJ.x0d (by decide) (hdn 3 rfl)
        exact OpTo.of_v (v_extract (t := .agg cs.toArray) hv rfl) ⟨Keep.refl _, hj⟩) ?_
    refine rj_d (fun done vals w hR hcl hdk hJ hdn hd => by
        obtain ⟨cs, hv, hj⟩ := hJ.x1d (by decide) (hdn 3 rfl)
        exact OpTo.of_v (v_extract (t := .int .i64 2) hv rfl) ⟨Keep.refl _, hj⟩) ?_
    refine rj_d (fun done vals w hR hcl hdk hJ hdn hd => to_alloc (z := .agg #[.int .i64 0, .slice none 0 0]) (by unfold kZero; kernel_rfl) fun b w1 hb hB e hz => ⟨Ext.keep e, hJ.al (by decide) (Bool.eq_false_iff.2 fun h => absurd (hdk.symm.trans (hcl 7 _ h rfl 6 rfl)) (by decide)) hb hB e⟩) ?_
    refine rj_d (fun done vals w hR hcl hdk hJ hdn hd => by
        obtain ⟨b, cs, hb, hv, hn, hB, hl, ho⟩ := hJ.seen (hdn 4 rfl) (hdn 6 rfl) hdk
        exact to_storeA (n := 2) (hb) rfl (hv) (by kernel_rfl) (show cs.length = _ from hl) (show ∀ u ∈ cs, _ from ho) hB (of_decide_eq_true rfl) (fun w1 hB1 kk z => ⟨kk.mono (fun i _ h => by rw [h]; exact hn), hJ.st (by decide) (hdn 4 rfl) (hdn 6 rfl) hb hv (by rw [show cs.toArray.toList = cs from rfl, setAt_all (by rw [hl]; rfl)] at hB1; exact hB1) kk⟩)) ?_
    refine rj_nil (fun vals w117 k117 J117 => ?_)
    rintro _ - rfl v89 qp1 - v90 qp2 - v87 qp3 - v91 qp4 - v92 qp5 - v18 qp6 - _ - -
    have zs_k117 := k117.size
    obtain ⟨b18, cs18, qh2, qh3, qh4, qh5, qh6, zb18, HB18, HG18, HSp18⟩ := J117.fin
    obtain rfl := qp2.trans qh2
    obtain rfl := qp3.trans qh3
    obtain rfl := qp4.trans qh4
    obtain rfl := qp5.trans qh5
    obtain rfl := qp6.trans qh6
    clear HSp18
    have zl18 := HB18.lt
    replace E := E.step k117 (by intro i hi he; (try dsimp only [NoK] at hi he ⊢); first | exact he.elim | omega | exact he)
    replace HB8 := HB8.keep k117 (by intro h; (try dsimp only at h); first | omega)
    replace HG14 := HG14.keep k117 (by intro i _ hi he; (try dsimp only [NoK, AllB] at hi he); first | exact hi.elim | exact he.elim | omega | (rcases hi with hi | hi <;> omega) | (rcases he with he | he <;> omega))
    replace HB14 := HB14.keep k117 (by intro h; (try dsimp only at h); first | omega)
    replace HB16 := HB16.keep k117 (by intro h; (try dsimp only at h); first | omega)
    refine fin_nilJ ?_
    refine n_then ?_
    refine r_one (by decide +kernel) rfl ?_
    refine l_v (v_assign (t := .int _ _) rfl) ?_
    refine l_nil ?_
    refine n_then ?_
    refine c_seq ?_
    refine wp_reg (by decide +kernel) ?_
    refine l_to (to_f1 (by kernel_rfl) (show _ = (Value.int _ _) from rfl) (CallsR.mono (New_c (by omega)) ?_))
    rintro _ w20 ⟨⟨x20, rfl, HG20⟩, e20⟩
    have zs_e20 := e20.size
    rw [if_neg (show ¬ grpB 5 = true from by decide)] at HG20 ⊢
    replace HG20 := HG20.all
    obtain ⟨a20, c20, rfl, HS20, he20⟩ := HG20.mp
    replace E := E.trans (Ext.keep e20)
    refine l_v (v_move (t := .tuple _) rfl) ?_
    refine l_v (v_extract (t := .agg _) rfl rfl) ?_
    refine l_v (v_extract (t := .int _ _) rfl rfl) ?_
    refine l_to (to_alloc (z := (.agg #[.int .i64 0, .slice none 0 0])) (by unfold kZero; kernel_rfl) ?_)
    rintro b20 w30 zb20 HB20 e30 z20
    have zs_e30 := e30.size
    replace E := E.trans (Ext.keep e30)
    try simp only [Value.cells] at HB20
    refine l_to (to_storeA (n := 2) rfl rfl (show _ = (Value.agg _) from rfl) (by kernel_rfl) rfl (by first | (simp [slice_one]; done) | (simp only [List.forall_mem_cons, List.cons_append, List.nil_append]; repeat' (first | exact rfl | apply And.intro | (intro u hu; cases hu; done)))) HB20 (by first | exact of_decide_eq_true rfl | (simp; done) | decide) ?_)
    rintro w118 HX118 k118 z118
    have zs_k118 := k118.size
    replace E := E.step k118 (by intro i hi he; (try dsimp only [NoK] at hi he ⊢); first | exact he.elim | omega | exact he)
    replace HB20 := HX118
    clear HX118
    try simp only [List.set_cons_zero, List.set_cons_succ, setAt, List.take_zero, List.take_succ_cons, List.drop_zero, List.drop_succ_cons, List.nil_append, List.cons_append, List.append_nil, List.length_cons, List.length_nil, Nat.zero_add, Nat.reduceAdd, List.drop_nil] at HB20
    refine l_v (v_assign (t := .int _ _) rfl) ?_
    refine l_nil ?_
    refine n_then ?_
    refine c_seq ?_
    refine wp_reg (by decide +kernel) ?_
    refine l_to (to_make (et := 5) (bytes := 1) (by kernel_rfl) (t := tU8) (z := 0) (n := 24) (m := 24) (zv := .int .u8 0) rfl rfl (.inl rfl) (by omega) (by simp only [maxLen]; omega) (by unfold kZero; kernel_rfl) rfl rfl (fun _ _ => rfl) ?_)
    rintro b22 c22 w32 zb22 HO22 e32 z32
    have zs_e32 := e32.size
    replace E := E.trans (Ext.keep e32)
    have zo_HO22 := fun (b : Nat) h => HO22.own_lt (b := b) h
    refine l_v (v_assign (t := .slice _ _ _) rfl) ?_
    refine l_nil ?_
    refine n_then ?_
    refine c_seq ?_
    refine c_seq ?_
    refine wp_reg (by decide +kernel) ?_
    refine l_v (v_assign rfl) ?_
    refine l_nil ?_
    refine n_then ?_
    refine c_block ?_
    refine c_loop (τ := Nat) [23, 98, 99, 100, 101, 102, 103, 104] (fun k => [(23, .int .i64 k)]) (fun k W => Ext w W ∧ Keep (fun b => b22 ≤ b) w32 W ∧ k ≤ 24 ∧ OwV tU8 5 W b22 NoK (.slice (some ⟨b22, 0, none⟩) 24 c22) (mixL k)) (fun k => 24 - k) 0 (by exact ⟨rfl, trivial⟩) (by exact ⟨E, Keep.refl _, Nat.zero_le _, HO22⟩) ?_
    rintro k w119 j ⟨E, EL2, h1, HO22⟩
    have zs_EL2 := EL2.size
    have zo_HO22 := fun (b : Nat) h => HO22.own_lt (b := b) h
    refine c_seq ?_
    refine c_seq ?_
    refine wp_reg (by decide +kernel) ?_
    refine l_v (v_move (t := .int _ _) rfl) ?_
    refine l_v (v_lss rfl rfl) ?_
    refine l_nil ?_
    refine n_then ?_
    refine c_cond rfl rfl (fun hk => ?_) (fun hk => ?_)
    · skip
      have hk := dtrue hk
      refine c_skip ?_
      refine n_then ?_
      refine c_seq ?_
      refine c_block ?_
      refine wp_reg (by decide +kernel) ?_
      refine l_v (v_move (t := .slice _ _ _) rfl) ?_
      refine l_v (v_move (t := .int _ _) rfl) ?_
      refine l_v (v_indexAddr (et := 5) (sz := 1) (k := k) (by kernel_rfl) (by kernel_rfl) rfl rfl (by first | rfl | omega) (by omega)) ?_
      refine l_to (to_storeO (k := k) (off := 0) rfl (by simp [add_lit, tU8]) (by decide) (show _ = (Value.int _ _) from rfl) rfl (by kernel_rfl) HO22 (x0 := (mixL k).getD k 0) (x1 := 255) (by have := mixL_len k (by omega); rw [List.getD_eq_getElem?_getD, List.getElem?_eq_getElem (by omega)]; rfl) (fun cs h => by cases h; exact (rfl : [Value.int .u8 255] = _)) ?_)
      rintro w42 HO42 k42 z42
      have zs_k42 := k42.size
      replace E := E.step k42 (by intro i hi he; (try dsimp only [NoK] at hi he ⊢); first | exact he.elim | omega | exact he)
      replace EL2 := EL2.step k42 (by intro i hi he; (try dsimp only [NoK] at hi he ⊢); first | exact he.elim | omega | exact he)
      have zo_HO42 := fun (b : Nat) h => HO42.own_lt (b := b) h
      refine l_nil ?_
      refine n_blk ?_
      refine n_then ?_
      refine wp_reg (by decide +kernel) ?_
      refine l_v (v_move (t := .int _ _) rfl) ?_
      refine l_v (v_add rfl rfl (by first | exact wr_i64 (by omega) (by omega) | rfl)) ?_
      refine l_v (v_assign (t := .int _ _) rfl) ?_
      refine l_nil ?_
      refine n_then ?_
      refine ⟨k + 1, _, rfl, by (repeat (first | exact Off.of_over _ _ _ | refine Off.upd ?_ (by decide) _)), ⟨by first | rfl | exact congrArg (Value.int _) (by omega) | (simp; done), trivial⟩, ⟨E, EL2, ?_⟩, ?_⟩
      · skip
        refine ⟨by omega, ?_⟩
        rw [mixL_at k (by omega)] at HO42
        exact HO42
      · (dsimp only; omega)
    · skip
      have hk24 : k = 24 := by have := dfalse hk; omega
      subst hk24
      have HS22 : Bv w119 AllB (.slice (some ⟨b22, 0, none⟩) 24 c22) f24 := HO22.view.allB
      replace HS22 := HS22.all
      refine c_exit ?_
      refine x_then ?_
      refine x_then ?_
      refine x_hit ?_
      refine n_then ?_
      refine c_seq ?_
      refine wp_reg (by decide +kernel) ?_
      refine l_v (v_move (t := .slice _ _ _) rfl) ?_
      refine l_v (v_build (pl := [(0, 1), (1, 1), (2, 1), (3, 1)]) (z := .agg #[.slice none 0 0, .slice none 0 0, .bool false, .int .i64 0]) (zl := [.slice none 0 0, .slice none 0 0, .bool false, .int .i64 0]) (by kernel_rfl) (by unfold kZero; kernel_rfl) rfl rfl (cells := [_, _, _, _]) rfl) ?_
      refine l_to (to_alloc (z := (.agg #[.slice none 0 0, .slice none 0 0, .bool false, .int .i64 0])) (by unfold kZero; kernel_rfl) ?_)
      rintro b24 w44 zb24 HB24 e44 z24
      have zs_e44 := e44.size
      replace E := E.trans (Ext.keep e44)
      replace HS22 := HS22.ext e44
      try simp only [Value.cells] at HB24
      refine l_to (to_storeA (n := 4) rfl rfl (show _ = (Value.agg _) from rfl) (by kernel_rfl) rfl (by first | (simp [slice_one]; done) | (simp only [List.forall_mem_cons, List.cons_append, List.nil_append]; repeat' (first | exact rfl | apply And.intro | (intro u hu; cases hu; done)))) HB24 (by first | exact of_decide_eq_true rfl | (simp; done) | decide) ?_)
      rintro w120 HX120 k120 z120
      have zs_k120 := k120.size
      replace E := E.step k120 (by intro i hi he; (try dsimp only [NoK] at hi he ⊢); first | exact he.elim | omega | exact he)
      replace HS22 := HS22.keep k120 (by intro i _ hi he; (try dsimp only [NoK, AllB] at hi he); first | exact hi.elim | exact he.elim | omega | (rcases hi with hi | hi <;> omega) | (rcases he with he | he <;> omega))
      replace HB24 := HX120
      clear HX120
      try simp only [List.set_cons_zero, List.set_cons_succ, setAt, List.take_zero, List.take_succ_cons, List.drop_zero, List.drop_succ_cons, List.nil_append, List.cons_append, List.append_nil, List.length_cons, List.length_nil, Nat.zero_add, Nat.reduceAdd, List.drop_nil] at HB24
      refine l_nil ?_
      refine n_then ?_
      refine c_seq ?_
      refine wp_reg (by decide +kernel) ?_
      refine l_v (v_move (t := .slice _ _ _) rfl) ?_
      refine l_to (to_appNil (et := 5) (bytes := 1) (F := NoK) (by kernel_rfl) rfl (show _ = (Value.slice _ _ _) from rfl) HS22 (fun cs z h => h) (by decide) ?_)
      rintro v30 w50 HO30 e30
      have zs_e30 := e30.size
      obtain ⟨a30, c30, rfl⟩ := HO30.shape
      replace E := E.trans (Ext.keep e30)
      replace HS22 := HS22.ext e30
      replace HB24 := HB24.ext e30
      have zo_HO30 := fun (b : Nat) h => HO30.own_lt (b := b) h
      refine l_to (to_slice1 (t := tU8) (et := 5) (bytes := 1) (by kernel_rfl) (by decide) (show _ = (Value.int _ _) from rfl) (rep_u8 (F := NoK) 0 rfl) ?_)
      rintro b31 w51 zb31 HO31 e31 z31
      have zs_e31 := e31.size
      replace E := E.trans (Ext.keep e31)
      replace HS22 := HS22.ext e31
      replace HB24 := HB24.ext e31
      replace HO30 := HO30.ext e31
      have zo_HO31 := fun (b : Nat) h => HO31.own_lt (b := b) h
      have hf24 : f24.length = 24 := rfl
      refine l_to (to_append (et := 5) (bytes := 1) (by kernel_rfl) (show _ = (Value.slice _ _ _) from rfl) HO30 (show _ = (Value.slice _ _ _) from rfl) HO31.view (fun b _ h => h) (by first | omega | (simp; done) | (simp; omega)) (by simp only [maxLen]; first | omega | (simp; done) | (simp; omega)) (by omega) ?_)
      rintro a32 n32 c32 w52 HO32 hn32 k32 h32 i32
      have zs_k32 := k32.size
      replace E := E.step k32 (by intro i hi he; have he0 := he; (try dsimp only [NoK] at hi he ⊢); (try simp only [Value.ownBlock, Option.some.injEq] at he); first | exact he.elim | omega | exact he | (have := (HO30).own_lt he0; omega) | (have := zo_HO30 _ he0; omega) | (have := (HO30).own_lt he0; rcases hi with hi | hi <;> omega))
      replace HS22 := HS22.keep k32 (by intro i _ hi he; have he0 := he; (try dsimp only [NoK, AllB] at hi he); (try simp only [Value.ownBlock, Option.some.injEq] at he); first | exact hi.elim | exact he.elim | omega | (rcases hi with hi | hi <;> omega) | (rcases he with he | he <;> omega) | (have := (HO30).own_lt he0; omega) | (have := zo_HO30 _ he0; omega) | (have := (HO30).own_lt he0; rcases hi with hi | hi <;> omega))
      replace HB24 := HB24.keep k32 (by intro h; have he0 := h; (try dsimp only at h); (try simp only [Value.ownBlock, Option.some.injEq] at h); first | omega | (have := (HO30).own_lt he0; omega) | (have := zo_HO30 _ he0; omega))
      have zo_HO32 := fun (b : Nat) h => HO32.own_lt (b := b) h
      have HS32 : Bv w52 AllB _ (f24 ++ [0]) := HO32.view.allB
      replace HS32 := HS32.all
      refine l_v (v_build (pl := [(0, 1), (1, 1), (2, 1), (3, 1)]) (z := .agg #[.slice none 0 0, .slice none 0 0, .bool false, .int .i64 0]) (zl := [.slice none 0 0, .slice none 0 0, .bool false, .int .i64 0]) (by kernel_rfl) (by unfold kZero; kernel_rfl) rfl rfl (cells := [_, _, _, _]) rfl) ?_
      refine l_to (to_alloc (z := (.agg #[.slice none 0 0, .slice none 0 0, .bool false, .int .i64 0])) (by unfold kZero; kernel_rfl) ?_)
      rintro b25 w45 zb25 HB25 e45 z25
      have zs_e45 := e45.size
      replace E := E.trans (Ext.keep e45)
      replace HS22 := HS22.ext e45
      replace HB24 := HB24.ext e45
      replace HS32 := HS32.ext e45
      try simp only [Value.cells] at HB25
      have HS42 := HS22.mono (F' := fun b => b < b25) fun b _ h => by omega
      have HS43 := HS32.mono (F' := fun b => b < b25) fun b _ h => by omega
      have HG24 : AgV tRg w45 (fun b => b < b25) _ (f24, [], false, 0) := AgV.mkRg HS42 (SlV.nil tU8 _ _) (by decide)
      have HG25 : AgV tRg w45 (fun b => b < b25) _ (f24 ++ [0], [], false, 0) := AgV.mkRg HS43 (SlV.nil tU8 _ _) (by decide)
      have HG26 : AgV tRg w45 (fun b => b < b25) _ (f24, f24, true, 0) := AgV.mkRg HS42 HS42 (by decide)
      refine l_to (to_storeA (n := 4) rfl rfl (show _ = (Value.agg _) from rfl) (by kernel_rfl) rfl (by first | (simp [slice_one]; done) | (simp only [List.forall_mem_cons, List.cons_append, List.nil_append]; repeat' (first | exact rfl | apply And.intro | (intro u hu; cases hu; done)))) HB25 (by first | exact of_decide_eq_true rfl | (simp; done) | decide) ?_)
      rintro w121 HX121 k121 z121
      have zs_k121 := k121.size
      replace E := E.step k121 (by intro i hi he; (try dsimp only [NoK] at hi he ⊢); first | exact he.elim | omega | exact he)
      replace HB24 := HB24.keep k121 (by intro h; (try dsimp only at h); first | omega)
      replace HG24 := HG24.keep k121 (by intro i _ hi he; (try dsimp only [NoK, AllB] at hi he); first | exact hi.elim | exact he.elim | omega | (rcases hi with hi | hi <;> omega) | (rcases he with he | he <;> omega))
      replace HG25 := HG25.keep k121 (by intro i _ hi he; (try dsimp only [NoK, AllB] at hi he); first | exact hi.elim | exact he.elim | omega | (rcases hi with hi | hi <;> omega) | (rcases he with he | he <;> omega))
      replace HG26 := HG26.keep k121 (by intro i _ hi he; (try dsimp only [NoK, AllB] at hi he); first | exact hi.elim | exact he.elim | omega | (rcases hi with hi | hi <;> omega) | (rcases he with he | he <;> omega))
      replace HB25 := HX121
      clear HX121
      try simp only [List.set_cons_zero, List.set_cons_succ, setAt, List.take_zero, List.take_succ_cons, List.drop_zero, List.drop_succ_cons, List.nil_append, List.cons_append, List.append_nil, List.length_cons, List.length_nil, Nat.zero_add, Nat.reduceAdd, List.drop_nil] at HB25
      refine l_nil ?_
      refine n_then ?_
      refine c_seq ?_
      refine wp_reg (by decide +kernel) ?_
      refine l_v (v_move (t := .int _ _) rfl) ?_
      refine l_to (to_f1 (by kernel_rfl) (show _ = (Value.int _ _) from rfl) (CallsR.mono (num_c) ?_))
      rintro _ w122 ⟨rfl, e122⟩
      have zs_e122 := e122.size
      replace E := E.trans (Ext.keep e122)
      replace HB24 := HB24.ext e122
      replace HB25 := HB25.ext e122
      replace HG24 := HG24.ext e122
      replace HG25 := HG25.ext e122
      replace HG26 := HG26.ext e122
      refine l_v (v_move (t := .int _ _) rfl) ?_
      refine l_to (to_f1 (by kernel_rfl) (show _ = (Value.int _ _) from rfl) (CallsR.mono (num_c) ?_))
      rintro _ w123 ⟨rfl, e123⟩
      have zs_e123 := e123.size
      replace E := E.trans (Ext.keep e123)
      replace HB24 := HB24.ext e123
      replace HB25 := HB25.ext e123
      replace HG24 := HG24.ext e123
      replace HG25 := HG25.ext e123
      replace HG26 := HG26.ext e123
      refine l_v (v_add rfl rfl (by first | exact wr_i64 (by omega) (by omega) | rfl)) ?_
      refine l_v (v_eql rfl rfl) ?_
      refine l_v (v_move (t := .bool _) rfl) ?_
      refine l_g1 rfl rfl (fun hG => v_move (t := .int _ _) rfl) ?_
      refine l_g1f rfl rfl (fun hG => to_f1 (by kernel_rfl) (gd hG rfl) (num_c)) ?_
      rintro w124 e124
      have zs_e124 := e124.size
      replace E := E.trans (Ext.keep e124)
      replace HB24 := HB24.ext e124
      replace HB25 := HB25.ext e124
      replace HG24 := HG24.ext e124
      replace HG25 := HG25.ext e124
      replace HG26 := HG26.ext e124
      refine l_g1 rfl rfl (fun hG => v_eql (gd hG rfl) rfl) ?_
      refine l_v (v_and rfl rfl) ?_
      refine l_v (v_move (t := .bool _) rfl) ?_
      refine l_g1 rfl rfl (fun hG => v_move (t := .int _ _) rfl) ?_
      refine l_g1f rfl rfl (fun hG => to_f1 (by kernel_rfl) (gd hG rfl) (num_c)) ?_
      rintro w125 e125
      have zs_e125 := e125.size
      replace E := E.trans (Ext.keep e125)
      replace HB24 := HB24.ext e125
      replace HB25 := HB25.ext e125
      replace HG24 := HG24.ext e125
      replace HG25 := HG25.ext e125
      replace HG26 := HG26.ext e125
      refine l_g1 rfl rfl (fun hG => v_eql (gd hG rfl) rfl) ?_
      refine l_v (v_and rfl rfl) ?_
      refine l_v (v_move (t := .bool _) rfl) ?_
      refine l_g1 rfl rfl (fun hG => v_move (t := .int _ _) rfl) ?_
      refine l_g1f rfl rfl (fun hG => to_f1 (by kernel_rfl) (gd hG rfl) (num_c)) ?_
      rintro w126 e126
      have zs_e126 := e126.size
      replace E := E.trans (Ext.keep e126)
      replace HB24 := HB24.ext e126
      replace HB25 := HB25.ext e126
      replace HG24 := HG24.ext e126
      replace HG25 := HG25.ext e126
      replace HG26 := HG26.ext e126
      refine l_g1 rfl rfl (fun hG => v_eql (gd hG rfl) rfl) ?_
      refine l_v (v_and rfl rfl) ?_
      refine l_v (v_move (t := .bool _) rfl) ?_
      refine l_g1 rfl rfl (fun hG => v_move (t := .int _ _) rfl) ?_
      refine l_g1f rfl rfl (fun hG => to_f1 (by kernel_rfl) (gd hG rfl) (num_c)) ?_
      rintro w127 e127
      have zs_e127 := e127.size
      replace E := E.trans (Ext.keep e127)
      replace HB24 := HB24.ext e127
      replace HB25 := HB25.ext e127
      replace HG24 := HG24.ext e127
      replace HG25 := HG25.ext e127
      replace HG26 := HG26.ext e127
      refine l_g1 rfl rfl (fun hG => v_eql (gd hG rfl) rfl) ?_
      refine l_v (v_and rfl rfl) ?_
      refine l_v (v_move (t := .bool _) rfl) ?_
      refine l_g1 rfl rfl (fun hG => v_move (t := .int _ _) rfl) ?_
      refine l_g1f rfl rfl (fun hG => to_f1 (by kernel_rfl) (gd hG rfl) (num_c)) ?_
      rintro w128 e128
      have zs_e128 := e128.size
      replace E := E.trans (Ext.keep e128)
      replace HB24 := HB24.ext e128
      replace HB25 := HB25.ext e128
      replace HG24 := HG24.ext e128
      replace HG25 := HG25.ext e128
      replace HG26 := HG26.ext e128
      refine l_g1 rfl rfl (fun hG => v_eql (gd hG rfl) rfl) ?_
      refine l_v (v_and rfl rfl) ?_
      refine l_v (v_move (t := .bool _) rfl) ?_
      refine l_g1 rfl rfl (fun hG => v_move (t := .int _ _) rfl) ?_
      refine l_g1f rfl rfl (fun hG => to_f1 (by kernel_rfl) (gd hG rfl) (num_c)) ?_
      rintro w129 e129
      have zs_e129 := e129.size
      replace E := E.trans (Ext.keep e129)
      replace HB24 := HB24.ext e129
      replace HB25 := HB25.ext e129
      replace HG24 := HG24.ext e129
      replace HG25 := HG25.ext e129
      replace HG26 := HG26.ext e129
      refine l_g1 rfl rfl (fun hG => v_eql (gd hG rfl) rfl) ?_
      refine l_v (v_and rfl rfl) ?_
      refine l_v (v_move (t := .bool _) rfl) ?_
      refine l_g1 rfl rfl (fun hG => v_loadA (by kernel_rfl) rfl (by first | exact HB25.pv | exact HB24.pv | assumption) rfl) ?_
      refine l_g1 rfl rfl (fun hG => v_loadA (by kernel_rfl) rfl (by first | exact HB25.pv | exact HB24.pv | assumption) rfl) ?_
      refine l_g1f rfl rfl (fun hG => to_f2 (by kernel_rfl) (gd hG rfl) (gd hG rfl) (Meet_c HG24 HG24 (by decide) (by decide))) ?_
      rintro w130 e130
      have zs_e130 := e130.size
      replace E := E.trans (Ext.keep e130)
      replace HB24 := HB24.ext e130
      replace HB25 := HB25.ext e130
      replace HG24 := HG24.ext e130
      replace HG25 := HG25.ext e130
      replace HG26 := HG26.ext e130
      refine l_v (v_and rfl rfl) ?_
      refine l_v (v_move (t := .bool _) rfl) ?_
      refine l_g1 rfl rfl (fun hG => v_loadA (by kernel_rfl) rfl (by first | exact HB25.pv | exact HB24.pv | assumption) rfl) ?_
      refine l_g1 rfl rfl (fun hG => v_loadA (by kernel_rfl) rfl (by first | exact HB25.pv | exact HB24.pv | assumption) rfl) ?_
      refine l_g1f rfl rfl (fun hG => to_f2 (by kernel_rfl) (gd hG rfl) (gd hG rfl) (Meet_c HG24 HG25 (by decide) (by decide))) ?_
      rintro w131 e131
      have zs_e131 := e131.size
      replace E := E.trans (Ext.keep e131)
      replace HB24 := HB24.ext e131
      replace HB25 := HB25.ext e131
      replace HG24 := HG24.ext e131
      replace HG25 := HG25.ext e131
      replace HG26 := HG26.ext e131
      refine l_g1 rfl rfl (fun hG => v_not (gd hG rfl)) ?_
      refine l_v (v_and rfl rfl) ?_
      refine l_v (v_move (t := .bool _) rfl) ?_
      refine l_g1 rfl rfl (fun hG => v_loadA (by kernel_rfl) rfl (by first | exact HB25.pv | exact HB24.pv | assumption) rfl) ?_
      refine l_g1 rfl rfl (fun hG => v_loadA (by kernel_rfl) rfl (by first | exact HB25.pv | exact HB24.pv | assumption) rfl) ?_
      refine l_g1f rfl rfl (fun hG => to_f2 (by kernel_rfl) (gd hG rfl) (gd hG rfl) (Within_c HG25 HG24)) ?_
      rintro w132 e132
      have zs_e132 := e132.size
      replace E := E.trans (Ext.keep e132)
      replace HB24 := HB24.ext e132
      replace HB25 := HB25.ext e132
      replace HG24 := HG24.ext e132
      replace HG25 := HG25.ext e132
      replace HG26 := HG26.ext e132
      refine l_v (v_and rfl rfl) ?_
      refine l_v (v_move (t := .bool _) rfl) ?_
      refine l_g1 rfl rfl (fun hG => v_loadA (by kernel_rfl) rfl (by first | exact HB25.pv | exact HB24.pv | assumption) rfl) ?_
      refine l_g1 rfl rfl (fun hG => v_loadA (by kernel_rfl) rfl (by first | exact HB25.pv | exact HB24.pv | assumption) rfl) ?_
      refine l_g1f rfl rfl (fun hG => to_f2 (by kernel_rfl) (gd hG rfl) (gd hG rfl) (Within_c HG24 HG25)) ?_
      rintro w133 e133
      have zs_e133 := e133.size
      replace E := E.trans (Ext.keep e133)
      replace HB24 := HB24.ext e133
      replace HB25 := HB25.ext e133
      replace HG24 := HG24.ext e133
      replace HG25 := HG25.ext e133
      replace HG26 := HG26.ext e133
      refine l_g1 rfl rfl (fun hG => v_not (gd hG rfl)) ?_
      refine l_v (v_and rfl rfl) ?_
      refine l_v (v_move (t := .bool _) rfl) ?_
      refine l_g1 rfl rfl (fun hG => v_move (t := .slice _ _ _) rfl) ?_
      refine l_g1 rfl rfl (fun hG => v_move (t := .slice _ _ _) rfl) ?_
      refine l_g1 rfl rfl (fun hG => v_build (pl := [(0, 1), (1, 1), (2, 1), (3, 1)]) (z := .agg #[.slice none 0 0, .slice none 0 0, .bool false, .int .i64 0]) (zl := [.slice none 0 0, .slice none 0 0, .bool false, .int .i64 0]) (by kernel_rfl) (by unfold kZero; kernel_rfl) rfl rfl (cells := [_, _, _, _]) rfl) ?_
      refine l_g1 rfl rfl (fun hG => v_loadA (by kernel_rfl) rfl (by first | exact HB25.pv | exact HB24.pv | assumption) rfl) ?_
      refine l_g1f rfl rfl (fun hG => to_f2 (by kernel_rfl) (gd hG rfl) (gd hG rfl) (Within_c HG26 HG25)) ?_
      rintro w134 e134
      have zs_e134 := e134.size
      replace E := E.trans (Ext.keep e134)
      replace HB24 := HB24.ext e134
      replace HB25 := HB25.ext e134
      replace HG24 := HG24.ext e134
      replace HG25 := HG25.ext e134
      replace HG26 := HG26.ext e134
      refine l_v (v_and rfl rfl) ?_
      refine l_v (v_move (t := .bool _) rfl) ?_
      refine l_g1f rfl rfl (fun hG => to_f0 (by kernel_rfl) (known_c)) ?_
      rintro w135 e135
      have zs_e135 := e135.size
      replace E := E.trans (Ext.keep e135)
      replace HB24 := HB24.ext e135
      replace HB25 := HB25.ext e135
      replace HG24 := HG24.ext e135
      replace HG25 := HG25.ext e135
      replace HG26 := HG26.ext e135
      refine l_v (v_and rfl rfl) ?_
      refine l_v (v_assign (t := .bool _) rfl) ?_
      refine l_nil ?_
      refine n_then ?_
      refine c_ret ?_
      refine ret1v rfl (by decide) (show _ = (Value.bool _) from rfl) ?_
      exact ⟨by kernel_rfl, E⟩
end Go.Proofs.Ytkaangdfpjkjpaa
