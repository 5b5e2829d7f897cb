/- A part of the proof: steps and lemmas for the walks through the given program. -/
import Derived.Test.YtlhanmlpionomaaDh
namespace Go.Proofs.Ytlhanmlpionomaa
open Go.Vc
set_option linter.unusedVariables false
set_option linter.unusedSimpArgs false
set_option maxRecDepth 100000

theorem res_upd {S : TbS} (hok : TbOk S) {i : Nat} {c : Int} (hc : (ksS S)[i]? = some c) : updS (resS S ((ksS S).take i)) c (numS S c, ansS S c) = resS S ((ksS S).take (i + 1)) ∧ numS (resS S ((ksS S).take i)) c = 0 := by
  have h := res_step hok hc
  rw [putN] at h
  split at h
  · split at h
    · exact absurd (congrArg Prod.fst h) (by simp)
    · next h2 =>
      refine ⟨congrArg Prod.snd h, ?_⟩
      have hm : c ∈ ksS S := List.mem_of_getElem? hc
      unfold numS resS
      split
      · next x hx =>
        split at hx
        · next hmem =>
          exfalso
          obtain ⟨j, hj⟩ := List.mem_iff_getElem?.1 hmem
          rw [List.getElem?_take] at hj
          split at hj
          · next hji =>
            have hnd : (ksS S).Nodup := ksP_nodup _
            have := (List.getElem?_inj (List.getElem?_eq_some_iff.1 hj).1 hnd).1 (hj.trans hc.symm)
            omega
          · cases hj
        · cases hx
      · rfl
  · exact absurd (congrArg Prod.fst h) (by simp)
set_option maxHeartbeats 32000000 in
theorem refTRead_c {w : World} {F : Nat → Prop} {v : Value} {l : List UInt8} (HS1 : Bv w F v l) (hl : l.length ≤ 1000000) : CallsR Try.prog 36 #[v] w (fun o w' => ((∃ b cells S, o = .tuple #[.pointer (some ⟨b, 0, none⟩), .int .i64 0] ∧ w.heap.size ≤ b ∧ Blk w' b cells 48 ∧ RfC w' (fun i => w.heap.size ≤ i ∧ i ≠ b) cells S ∧ TbOk S ∧ tbW S = l) ∨ (o = .tuple #[.pointer none, .int .i64 4] ∧ ∀ S, TbOk S → tbW S ≠ l)) ∧ Ext w w') := by
  obtain ⟨a0, c0, rfl⟩ := HS1.shape
  refine enter 136 Try.func36 rfl rfl (by simp) ?_
  refine c_seq ?_
  have E := Keep.refl (K := NoK) w
  replace HS1 := HS1.all
  refine wp_reg (by decide +kernel) ?_
  refine l_v (v_assign rfl) ?_
  refine l_v (v_assign rfl) ?_
  refine l_nil ?_
  refine n_then ?_
  refine c_seq ?_
  refine wp_reg (by decide +kernel) ?_
  refine l_v (v_move (t := .slice _ _ _) rfl) ?_
  refine l_v (v_build (pl := [(0, 1)]) (z := .agg #[.slice none 0 0]) (zl := [.slice none 0 0]) (by kernel_rfl) (by unfold kZero; kernel_rfl) rfl rfl (cells := [_]) rfl) ?_
  refine l_to (to_box (show _ = (Value.agg _) from rfl) ?_)
  rintro b22 w22 zb22 HB22 e22 z22
  have zs_e22 := e22.size
  replace E := E.trans (Ext.keep e22)
  replace HS1 := HS1.ext e22
  try simp only [Value.cells] at HB22
  have HRp : Rf _ b22 (fun k => k < w.heap.size) l := ⟨_, HB22, HS1⟩
  refine l_v (v_assign (t := .pointer _) rfl) ?_
  refine l_nil ?_
  refine n_then ?_
  refine c_seq ?_
  refine wp_reg (by decide +kernel) ?_
  refine l_v (v_build (pl := [(0, 5), (5, 15)]) (z := .agg #[.int .i64 0, .int .i64 0, .int .i64 0, .int .i64 0, .int .i64 0, .int .i64 0, .slice none 0 0, .slice none 0 0, .int .i64 0, .slice none 0 0, .slice none 0 0, .int .i64 0, .slice none 0 0, .slice none 0 0, .int .i64 0, .slice none 0 0, .slice none 0 0, .int .i64 0, .slice none 0 0, .slice none 0 0]) (zl := [.int .i64 0, .int .i64 0, .int .i64 0, .int .i64 0, .int .i64 0, .int .i64 0, .slice none 0 0, .slice none 0 0, .int .i64 0, .slice none 0 0, .slice none 0 0, .int .i64 0, .slice none 0 0, .slice none 0 0, .int .i64 0, .slice none 0 0, .slice none 0 0, .int .i64 0, .slice none 0 0, .slice none 0 0]) (by kernel_rfl) (by unfold kZero; kernel_rfl) rfl rfl (cells := [_, _, _, _, _, _, _, _, _, _, _, _, _, _, _, _, _, _, _, _]) rfl) ?_
  refine l_to (to_box (show _ = (Value.agg _) from rfl) ?_)
  rintro b24 w24 zb24 HB24 e24 z24
  have zs_e24 := e24.size
  replace E := E.trans (Ext.keep e24)
  replace HS1 := HS1.ext e24
  replace HRp := HRp.ext e24
  try simp only [Value.cells] at HB24
  refine l_v (v_assign (t := .pointer _) rfl) ?_
  refine l_nil ?_
  refine n_then ?_
  refine c_seq ?_
  refine wp_reg (by decide +kernel) ?_
  refine l_v (v_move (t := .pointer _) rfl) ?_
  refine l_to (to_f2 (by kernel_rfl) (show _ = (Value.pointer _) from rfl) (show _ = (Value.int _ _) from rfl) (CallsR.mono (refSmall_c (most := 4) HRp (by omega) (by decide)) ?_))
  rintro r6 w26 ⟨hr6, HRp, k26⟩
  have zs_k26 := k26.size
  obtain ⟨c6, hc6⟩ : ∃ c : Int, c = smR 4 l := ⟨_, rfl⟩
  rw [← hc6] at hr6
  subst hr6
  replace E := E.step k26 (by intro i hi he; (try dsimp only [NoK] at hi he ⊢); first | exact he.elim | omega | exact he)
  replace HS1 := HS1.keep k26 (by intro i _ hi he; (try dsimp only [NoK, AllB] at hi he); first | exact hi.elim | exact he.elim | omega | (rcases hi with hi | hi <;> omega) | (rcases he with he | he <;> omega))
  replace HB24 := HB24.keep k26 (by intro h; (try dsimp only at h); first | omega)
  obtain ⟨n2, hn2⟩ : ∃ n, n = w26.heap.size := ⟨_, rfl⟩
  have hq6 := smR_rng 4 l
  have hrl := rest_len l
  have hini : ∀ S, TbOk S → tbW S = l → rest l = posL S 0 ∧ c6 = (ksS S).length := by
    intro S hS h
    have h4 : (ksS S).length ≤ 4 := ksP_len _
    have := smR_at (n := (ksS S).length) (r := posL S 0) (most := 4) h4 (by decide)
    rw [← posL_zero, h] at this
    exact ⟨this.2, hc6.trans this.1⟩
  refine l_v (v_assign (t := .int _ _) rfl) ?_
  refine l_nil ?_
  refine n_then ?_
  refine c_seq ?_
  refine c_seq ?_
  refine wp_reg (by decide +kernel) ?_
  refine l_v (v_assign rfl) ?_
  refine l_nil ?_
  refine n_then ?_
  refine c_block ?_
  refine c_loop (τ := Nat × List UInt8 × List Value × TbS) [2, 3, 7, 8, 9, 10, 11, 12, 13, 14, 15, 16, 17, 18, 19, 27, 28, 29, 30, 31, 32, 33, 34, 35, 36, 37, 38, 39, 40, 41, 42, 43, 44, 45, 46, 47, 48, 49, 50, 51, 52, 53, 54, 55, 56, 57, 58, 59, 60, 61, 62, 63, 64, 65, 66, 67, 68, 69, 70, 71, 72, 73, 74, 75, 76, 77, 78, 79, 80, 81, 82, 83, 84, 85, 86, 87, 88, 89, 90, 91, 92, 93, 94, 95, 96, 97, 98, 99, 100, 101, 102, 103, 104, 105, 106, 107, 108, 109, 110, 111, 112, 113, 114, 115, 116, 117, 118, 119] (fun (i, lp, cells, S3) => [(7, .int .i64 i)]) (fun (i, lp, cells, S3) W => Ext w W ∧ Keep (fun i => i = b22 ∨ i = b24) w26 W ∧ (i = 0 ∨ (i : Int) ≤ c6) ∧ TbOk S3 ∧ lp.length ≤ l.length ∧ (∀ S, TbOk S → tbW S = l → S3 = resS S ((ksS S).take i) ∧ lp = posL S i) ∧ Rf W b22 (fun k => k < w.heap.size) lp ∧ Blk W b24 cells 48 ∧ RfC W (fun i => n2 ≤ i) cells S3) (fun (i, lp, cells, S3) => 4 - i) (0, rest l, zeroC, S0) (by exact ⟨rfl, trivial⟩) (by exact ⟨E, Keep.refl _, .inl rfl, ok_new, hrl, (fun S hS h => ⟨by rw [List.take_zero, resS_nil], (hini S hS h).1⟩), HRp, HB24, RfC.new _ _⟩) ?_
  rintro ⟨i, lp, cells, S3⟩ w101 j ⟨E, EL1, h1, hok3, hll, hS3, HRp, HB5, HT5⟩
  have zs_EL1 := EL1.size
  replace HS1 := HS1.keep EL1 (by intro i _ hi he; (try dsimp only [NoK, AllB] at hi he); first | exact hi.elim | exact he.elim | omega | (rcases hi with hi | hi <;> omega) | (rcases he with he | he <;> omega))
  refine c_seq ?_
  refine c_seq ?_
  refine wp_reg (by decide +kernel) ?_
  refine l_v (v_move (t := .int _ _) rfl) ?_
  refine l_v (v_move (t := .int _ _) rfl) ?_
  refine l_v (v_lss rfl rfl) ?_
  refine l_nil ?_
  refine n_then ?_
  refine c_cond rfl rfl (fun hlt => ?_) (fun hlt => ?_)
  · skip
    have hlt := dtrue hlt
    have zb5 := HB5.lt
    obtain ⟨n3, hn3⟩ : ∃ n, n = w101.heap.size := ⟨_, rfl⟩
    replace HT5 := HT5.mono (F' := fun i => n2 ≤ i ∧ i < n3) fun i hi h => ⟨h, by omega⟩
    have q1 := rest_len lp
    have q2 := rest_len (rest lp)
    have q3 := rest_len (rest (rest lp))
    have q4 := rest_len (rest (rest (rest lp)))
    have hpos0 : ∀ S, TbOk S → tbW S = l → ∃ c, (ksS S)[i]? = some c ∧ (1 ≤ c ∧ c ≤ 4) ∧ smR 4 lp = c ∧ smR 2147483647 (rest lp) = numS S c ∧ smR 13 (rest (rest lp)) = (ansS S c).1 ∧ smR 32 (rest (rest (rest lp))) = (ansS S c).2.1.length ∧ rest (rest (rest (rest lp))) = posP (lnK S c) 0 (posL S (i + 1)) ∧ numS S3 c = 0 ∧ 1 ≤ numS S c ∧ 0 ≤ (ansS S c).1 := by
      intro S hS h
      obtain ⟨e1, e2⟩ := hS3 S hS h
      have e3 := (hini S hS h).2
      obtain ⟨c, hc, hps⟩ := posL_step (S := S) (i := i) (by omega)
      have hm := List.mem_of_getElem? hc
      have hr := ks_rng S c hm
      have hk := okLn_tb hS (c := c) (by omega) (by omega)
      obtain ⟨g1, g2, g3, g4, g5⟩ := posP_zero hk (posL S (i + 1))
      rw [← hps, ← e2] at g1 g2 g3 g4 g5
      have hs := (ksS_mem hS).1 hm
      rw [numS_some hS] at hs
      have := of_decide_eq_true hs
      refine ⟨c, hc, hr, g1, g2, g3, g4, g5, ?_, by omega, (mayAn_iff.1 (ansS_may hS c)).1.1⟩
      rw [e1]; exact (res_upd hS hc).2
    refine c_skip ?_
    refine n_then ?_
    refine c_seq ?_
    refine c_block ?_
    refine c_seq ?_
    refine wp_reg (by decide +kernel) ?_
    refine l_v (v_move (t := .pointer _) rfl) ?_
    refine l_to (to_f2 (by kernel_rfl) (show _ = (Value.pointer _) from rfl) (show _ = (Value.int _ _) from rfl) (CallsR.mono (refSmall_c (most := 4) HRp (by omega) (by decide)) ?_))
    rintro r8 w33 ⟨hr8, HRp, k33⟩
    have zs_k33 := k33.size
    obtain ⟨c8, hc8⟩ : ∃ c : Int, c = smR 4 lp := ⟨_, rfl⟩
    have hg8 := smR_rng 4 lp
    rw [← hc8] at hr8 hg8
    subst hr8
    replace E := E.step k33 (by intro i hi he; (try dsimp only [NoK] at hi he ⊢); first | exact he.elim | omega | exact he)
    replace HS1 := HS1.keep k33 (by intro i _ hi he; (try dsimp only [NoK, AllB] at hi he); first | exact hi.elim | exact he.elim | omega | (rcases hi with hi | hi <;> omega) | (rcases he with he | he <;> omega))
    replace HB5 := HB5.keep k33 (by intro h; (try dsimp only at h); first | omega)
    replace HT5 := HT5.keep k33 (by intro i _ hi he; (try dsimp only [NoK, AllB] at hi he); first | exact hi.elim | exact he.elim | omega | (rcases hi with hi | hi <;> omega) | (rcases he with he | he <;> omega))
    replace EL1 := EL1.step k33 (by intro i hi he; (try dsimp only [NoK] at hi he ⊢); first | exact he.elim | omega | exact he)
    refine l_v (v_move (t := .pointer _) rfl) ?_
    refine l_to (to_f2 (by kernel_rfl) (show _ = (Value.pointer _) from rfl) (show _ = (Value.int _ _) from rfl) (CallsR.mono (refSmall_c (most := 2147483647) HRp (by omega) (by decide)) ?_))
    rintro r9 w35 ⟨hr9, HRp, k35⟩
    have zs_k35 := k35.size
    obtain ⟨c9, hc9⟩ : ∃ c : Int, c = smR 2147483647 (rest lp) := ⟨_, rfl⟩
    have hg9 := smR_rng 2147483647 (rest lp)
    rw [← hc9] at hr9 hg9
    subst hr9
    replace E := E.step k35 (by intro i hi he; (try dsimp only [NoK] at hi he ⊢); first | exact he.elim | omega | exact he)
    replace HS1 := HS1.keep k35 (by intro i _ hi he; (try dsimp only [NoK, AllB] at hi he); first | exact hi.elim | exact he.elim | omega | (rcases hi with hi | hi <;> omega) | (rcases he with he | he <;> omega))
    replace HB5 := HB5.keep k35 (by intro h; (try dsimp only at h); first | omega)
    replace HT5 := HT5.keep k35 (by intro i _ hi he; (try dsimp only [NoK, AllB] at hi he); first | exact hi.elim | exact he.elim | omega | (rcases hi with hi | hi <;> omega) | (rcases he with he | he <;> omega))
    replace EL1 := EL1.step k35 (by intro i hi he; (try dsimp only [NoK] at hi he ⊢); first | exact he.elim | omega | exact he)
    refine l_v (v_move (t := .pointer _) rfl) ?_
    refine l_to (to_f2 (by kernel_rfl) (show _ = (Value.pointer _) from rfl) (show _ = (Value.int _ _) from rfl) (CallsR.mono (refSmall_c (most := 13) HRp (by omega) (by decide)) ?_))
    rintro r10 w37 ⟨hr10, HRp, k37⟩
    have zs_k37 := k37.size
    obtain ⟨c10, hc10⟩ : ∃ c : Int, c = smR 13 (rest (rest lp)) := ⟨_, rfl⟩
    have hg10 := smR_rng 13 (rest (rest lp))
    rw [← hc10] at hr10 hg10
    subst hr10
    replace E := E.step k37 (by intro i hi he; (try dsimp only [NoK] at hi he ⊢); first | exact he.elim | omega | exact he)
    replace HS1 := HS1.keep k37 (by intro i _ hi he; (try dsimp only [NoK, AllB] at hi he); first | exact hi.elim | exact he.elim | omega | (rcases hi with hi | hi <;> omega) | (rcases he with he | he <;> omega))
    replace HB5 := HB5.keep k37 (by intro h; (try dsimp only at h); first | omega)
    replace HT5 := HT5.keep k37 (by intro i _ hi he; (try dsimp only [NoK, AllB] at hi he); first | exact hi.elim | exact he.elim | omega | (rcases hi with hi | hi <;> omega) | (rcases he with he | he <;> omega))
    replace EL1 := EL1.step k37 (by intro i hi he; (try dsimp only [NoK] at hi he ⊢); first | exact he.elim | omega | exact he)
    refine l_v (v_move (t := .pointer _) rfl) ?_
    refine l_to (to_f2 (by kernel_rfl) (show _ = (Value.pointer _) from rfl) (show _ = (Value.int _ _) from rfl) (CallsR.mono (refSmall_c (most := 32) HRp (by omega) (by decide)) ?_))
    rintro r11 w39 ⟨hr11, HRp, k39⟩
    have zs_k39 := k39.size
    obtain ⟨c11, hc11⟩ : ∃ c : Int, c = smR 32 (rest (rest (rest lp))) := ⟨_, rfl⟩
    have hg11 := smR_rng 32 (rest (rest (rest lp)))
    rw [← hc11] at hr11 hg11
    subst hr11
    rw [← hc8, ← hc9, ← hc10, ← hc11] at hpos0
    have hpos := hpos0
    replace E := E.step k39 (by intro i hi he; (try dsimp only [NoK] at hi he ⊢); first | exact he.elim | omega | exact he)
    replace HS1 := HS1.keep k39 (by intro i _ hi he; (try dsimp only [NoK, AllB] at hi he); first | exact hi.elim | exact he.elim | omega | (rcases hi with hi | hi <;> omega) | (rcases he with he | he <;> omega))
    replace HB5 := HB5.keep k39 (by intro h; (try dsimp only at h); first | omega)
    replace HT5 := HT5.keep k39 (by intro i _ hi he; (try dsimp only [NoK, AllB] at hi he); first | exact hi.elim | exact he.elim | omega | (rcases hi with hi | hi <;> omega) | (rcases he with he | he <;> omega))
    replace EL1 := EL1.step k39 (by intro i hi he; (try dsimp only [NoK] at hi he ⊢); first | exact he.elim | omega | exact he)
    refine l_v (v_assign (t := .int _ _) rfl) ?_
    refine l_v (v_assign (t := .int _ _) rfl) ?_
    refine l_v (v_assign (t := .int _ _) rfl) ?_
    refine l_v (v_assign (t := .int _ _) rfl) ?_
    refine l_nil ?_
    refine n_then ?_
    by_cases hs8 : c8 < 1
    · skip
      refine c_seq ?_
      refine c_seq ?_
      refine wp_reg (by decide +kernel) ?_
      refine l_v (v_move (t := .int _ _) rfl) ?_
      refine l_v (OpVat.as (b := true) (v_lss rfl rfl) (decide_eq_true hs8)) ?_
      refine l_v (v_move (t := .bool _) rfl) ?_
      refine l_skip (u := .bool true) rfl rfl rfl ?_
      refine l_skip (u := .bool true) rfl rfl rfl ?_
      refine l_v (v_orC rfl) ?_
      refine l_v (v_move (t := .bool _) rfl) ?_
      refine l_skip (u := .bool true) rfl rfl rfl ?_
      refine l_skip (u := .bool true) rfl rfl rfl ?_
      refine l_v (v_orC rfl) ?_
      refine l_v (v_move (t := .bool _) rfl) ?_
      refine l_skip (u := .bool true) rfl rfl rfl ?_
      refine l_skip (u := .bool true) rfl rfl rfl ?_
      refine l_v (v_orC rfl) ?_
      refine l_v (v_move (t := .bool _) rfl) ?_
      refine l_skip (u := .bool true) rfl rfl rfl ?_
      refine l_skip (u := .bool true) rfl rfl rfl ?_
      refine l_skip (u := .bool true) rfl rfl rfl ?_
      refine l_skip (u := .bool true) rfl rfl rfl ?_
      refine l_skip (u := .bool true) rfl rfl rfl ?_
      refine l_skip (u := .bool true) rfl rfl rfl ?_
      refine l_skip (u := .bool true) rfl rfl rfl ?_
      refine l_v (v_orC rfl) ?_
      refine l_nil ?_
      refine n_then ?_
      refine c_cond rfl rfl (fun hq => ?_) (fun hq => ?_)
      · skip
        refine c_seq ?_
        refine wp_reg (by decide +kernel) ?_
        refine l_v (v_assign rfl) ?_
        refine l_v (v_assign rfl) ?_
        refine l_nil ?_
        refine n_then ?_
        refine c_ret ?_
        refine r_then ?_
        refine r_blk ?_
        refine r_then ?_
        refine r_then ?_
        refine r_blk ?_
        refine r_then ?_
        refine ret2v rfl (by decide) (by decide) (show _ = (Value.pointer _) from rfl) (show _ = (Value.int _ _) from rfl) ?_
        refine ⟨.inr ⟨rfl, fun S hS h => ?_⟩, E⟩
        obtain ⟨cS, hp1, hp2, hp3, hp4, hp5, hp6, hp7, hp8, hp9⟩ := hpos S hS h
        omega
      · skip
        cases hq
    · skip
      by_cases hs9 : c9 < 1
      · skip
        refine c_seq ?_
        refine c_seq ?_
        refine wp_reg (by decide +kernel) ?_
        refine l_v (v_move (t := .int _ _) rfl) ?_
        refine l_v (OpVat.as (b := false) (v_lss rfl rfl) (decide_eq_false hs8)) ?_
        refine l_v (v_move (t := .bool _) rfl) ?_
        refine l_gt rfl rfl (OpTo.of_v (v_move (t := .int _ _) rfl) ?_)
        refine l_gt rfl rfl (OpTo.of_v (OpVat.as (b := true) (v_lss rfl rfl) (decide_eq_true hs9)) ?_)
        refine l_v (v_orT rfl rfl) ?_
        refine l_v (v_move (t := .bool _) rfl) ?_
        refine l_skip (u := .bool true) rfl rfl rfl ?_
        refine l_skip (u := .bool true) rfl rfl rfl ?_
        refine l_v (v_orC rfl) ?_
        refine l_v (v_move (t := .bool _) rfl) ?_
        refine l_skip (u := .bool true) rfl rfl rfl ?_
        refine l_skip (u := .bool true) rfl rfl rfl ?_
        refine l_v (v_orC rfl) ?_
        refine l_v (v_move (t := .bool _) rfl) ?_
        refine l_skip (u := .bool true) rfl rfl rfl ?_
        refine l_skip (u := .bool true) rfl rfl rfl ?_
        refine l_skip (u := .bool true) rfl rfl rfl ?_
        refine l_skip (u := .bool true) rfl rfl rfl ?_
        refine l_skip (u := .bool true) rfl rfl rfl ?_
        refine l_skip (u := .bool true) rfl rfl rfl ?_
        refine l_skip (u := .bool true) rfl rfl rfl ?_
        refine l_v (v_orC rfl) ?_
        refine l_nil ?_
        refine n_then ?_
        refine c_cond rfl rfl (fun hq => ?_) (fun hq => ?_)
        · skip
          refine c_seq ?_
          refine wp_reg (by decide +kernel) ?_
          refine l_v (v_assign rfl) ?_
          refine l_v (v_assign rfl) ?_
          refine l_nil ?_
          refine n_then ?_
          refine c_ret ?_
          refine r_then ?_
          refine r_blk ?_
          refine r_then ?_
          refine r_then ?_
          refine r_blk ?_
          refine r_then ?_
          refine ret2v rfl (by decide) (by decide) (show _ = (Value.pointer _) from rfl) (show _ = (Value.int _ _) from rfl) ?_
          refine ⟨.inr ⟨rfl, fun S hS h => ?_⟩, E⟩
          obtain ⟨cS, hp1, hp2, hp3, hp4, hp5, hp6, hp7, hp8, hp9⟩ := hpos S hS h
          omega
        · skip
          cases hq
      · skip
        by_cases hs10 : c10 < 0
        · skip
          refine c_seq ?_
          refine c_seq ?_
          refine wp_reg (by decide +kernel) ?_
          refine l_v (v_move (t := .int _ _) rfl) ?_
          refine l_v (OpVat.as (b := false) (v_lss rfl rfl) (decide_eq_false hs8)) ?_
          refine l_v (v_move (t := .bool _) rfl) ?_
          refine l_gt rfl rfl (OpTo.of_v (v_move (t := .int _ _) rfl) ?_)
          refine l_gt rfl rfl (OpTo.of_v (OpVat.as (b := false) (v_lss rfl rfl) (decide_eq_false hs9)) ?_)
          refine l_v (v_orT rfl rfl) ?_
          refine l_v (v_move (t := .bool _) rfl) ?_
          refine l_gt rfl rfl (OpTo.of_v (v_move (t := .int _ _) rfl) ?_)
          refine l_gt rfl rfl (OpTo.of_v (OpVat.as (b := true) (v_lss rfl rfl) (decide_eq_true hs10)) ?_)
          refine l_v (v_orT rfl rfl) ?_
          refine l_v (v_move (t := .bool _) rfl) ?_
          refine l_skip (u := .bool true) rfl rfl rfl ?_
          refine l_skip (u := .bool true) rfl rfl rfl ?_
          refine l_v (v_orC rfl) ?_
          refine l_v (v_move (t := .bool _) rfl) ?_
          refine l_skip (u := .bool true) rfl rfl rfl ?_
          refine l_skip (u := .bool true) rfl rfl rfl ?_
          refine l_skip (u := .bool true) rfl rfl rfl ?_
          refine l_skip (u := .bool true) rfl rfl rfl ?_
          refine l_skip (u := .bool true) rfl rfl rfl ?_
          refine l_skip (u := .bool true) rfl rfl rfl ?_
          refine l_skip (u := .bool true) rfl rfl rfl ?_
          refine l_v (v_orC rfl) ?_
          refine l_nil ?_
          refine n_then ?_
          refine c_cond rfl rfl (fun hq => ?_) (fun hq => ?_)
          · skip
            refine c_seq ?_
            refine wp_reg (by decide +kernel) ?_
            refine l_v (v_assign rfl) ?_
            refine l_v (v_assign rfl) ?_
            refine l_nil ?_
            refine n_then ?_
            refine c_ret ?_
            refine r_then ?_
            refine r_blk ?_
            refine r_then ?_
            refine r_then ?_
            refine r_blk ?_
            refine r_then ?_
            refine ret2v rfl (by decide) (by decide) (show _ = (Value.pointer _) from rfl) (show _ = (Value.int _ _) from rfl) ?_
            refine ⟨.inr ⟨rfl, fun S hS h => ?_⟩, E⟩
            obtain ⟨cS, hp1, hp2, hp3, hp4, hp5, hp6, hp7, hp8, hp9⟩ := hpos S hS h
            omega
          · skip
            cases hq
        · skip
          by_cases hs11 : c11 < 0
          · skip
            refine c_seq ?_
            refine c_seq ?_
            refine wp_reg (by decide +kernel) ?_
            refine l_v (v_move (t := .int _ _) rfl) ?_
            refine l_v (OpVat.as (b := false) (v_lss rfl rfl) (decide_eq_false hs8)) ?_
            refine l_v (v_move (t := .bool _) rfl) ?_
            refine l_gt rfl rfl (OpTo.of_v (v_move (t := .int _ _) rfl) ?_)
            refine l_gt rfl rfl (OpTo.of_v (OpVat.as (b := false) (v_lss rfl rfl) (decide_eq_false hs9)) ?_)
            refine l_v (v_orT rfl rfl) ?_
            refine l_v (v_move (t := .bool _) rfl) ?_
            refine l_gt rfl rfl (OpTo.of_v (v_move (t := .int _ _) rfl) ?_)
            refine l_gt rfl rfl (OpTo.of_v (OpVat.as (b := false) (v_lss rfl rfl) (decide_eq_false hs10)) ?_)
            refine l_v (v_orT rfl rfl) ?_
            refine l_v (v_move (t := .bool _) rfl) ?_
            refine l_gt rfl rfl (OpTo.of_v (v_move (t := .int _ _) rfl) ?_)
            refine l_gt rfl rfl (OpTo.of_v (OpVat.as (b := true) (v_lss rfl rfl) (decide_eq_true hs11)) ?_)
            refine l_v (v_orT rfl rfl) ?_
            refine l_v (v_move (t := .bool _) rfl) ?_
            refine l_skip (u := .bool true) rfl rfl rfl ?_
            refine l_skip (u := .bool true) rfl rfl rfl ?_
            refine l_skip (u := .bool true) rfl rfl rfl ?_
            refine l_skip (u := .bool true) rfl rfl rfl ?_
            refine l_skip (u := .bool true) rfl rfl rfl ?_
            refine l_skip (u := .bool true) rfl rfl rfl ?_
            refine l_skip (u := .bool true) rfl rfl rfl ?_
            refine l_v (v_orC rfl) ?_
            refine l_nil ?_
            refine n_then ?_
            refine c_cond rfl rfl (fun hq => ?_) (fun hq => ?_)
            · skip
              refine c_seq ?_
              refine wp_reg (by decide +kernel) ?_
              refine l_v (v_assign rfl) ?_
              refine l_v (v_assign rfl) ?_
              refine l_nil ?_
              refine n_then ?_
              refine c_ret ?_
              refine r_then ?_
              refine r_blk ?_
              refine r_then ?_
              refine r_then ?_
              refine r_blk ?_
              refine r_then ?_
              refine ret2v rfl (by decide) (by decide) (show _ = (Value.pointer _) from rfl) (show _ = (Value.int _ _) from rfl) ?_
              refine ⟨.inr ⟨rfl, fun S hS h => ?_⟩, E⟩
              obtain ⟨cS, hp1, hp2, hp3, hp4, hp5, hp6, hp7, hp8, hp9⟩ := hpos S hS h
              omega
            · skip
              cases hq
          · skip
            obtain ⟨k8, rfl⟩ := Int.eq_ofNat_of_zero_le (show 0 ≤ c8 by omega)
            have HPn := HT5.pn HB5 (c := k8) (by omega)
            by_cases hdup : 0 < numS S3 k8
            · skip
              refine c_seq ?_
              refine c_seq ?_
              refine wp_reg (by decide +kernel) ?_
              refine l_v (v_move (t := .int _ _) rfl) ?_
              refine l_v (OpVat.as (b := false) (v_lss rfl rfl) (decide_eq_false hs8)) ?_
              refine l_v (v_move (t := .bool _) rfl) ?_
              refine l_gt rfl rfl (OpTo.of_v (v_move (t := .int _ _) rfl) ?_)
              refine l_gt rfl rfl (OpTo.of_v (OpVat.as (b := false) (v_lss rfl rfl) (decide_eq_false hs9)) ?_)
              refine l_v (v_orT rfl rfl) ?_
              refine l_v (v_move (t := .bool _) rfl) ?_
              refine l_gt rfl rfl (OpTo.of_v (v_move (t := .int _ _) rfl) ?_)
              refine l_gt rfl rfl (OpTo.of_v (OpVat.as (b := false) (v_lss rfl rfl) (decide_eq_false hs10)) ?_)
              refine l_v (v_orT rfl rfl) ?_
              refine l_v (v_move (t := .bool _) rfl) ?_
              refine l_gt rfl rfl (OpTo.of_v (v_move (t := .int _ _) rfl) ?_)
              refine l_gt rfl rfl (OpTo.of_v (OpVat.as (b := false) (v_lss rfl rfl) (decide_eq_false hs11)) ?_)
              refine l_v (v_orT rfl rfl) ?_
              refine l_v (v_move (t := .bool _) rfl) ?_
              refine l_gt rfl rfl (OpTo.of_v (v_move (t := .pointer _) rfl) ?_)
              refine l_gt rfl rfl (OpTo.of_v (v_move (t := .int _ _) rfl) ?_)
              refine l_gt rfl rfl (OpTo.of_v (v_nilCheck rfl) ?_)
              refine l_gt rfl rfl (OpTo.of_v (v_fieldAddr (off := 0) (ft := 45) (by kernel_rfl) rfl) ?_)
              refine l_gt rfl rfl (OpTo.of_v (v_arrAddr (et := 2) (n := 5) (sz := 1) (k := k8) (by kernel_rfl) rfl rfl rfl (by omega)) ?_)
              refine l_gt rfl rfl (OpTo.of_v (v_load (by kernel_rfl) rfl (by first | exact pv_1 HPn | exact HB5.cell rfl | assumption)) ?_)
              refine l_gt rfl rfl (OpTo.of_v (OpVat.as (b := true) (v_gtr rfl rfl) (decide_eq_true hdup)) ?_)
              refine l_v (v_orT rfl rfl) ?_
              refine l_nil ?_
              refine n_then ?_
              refine c_cond rfl rfl (fun hq => ?_) (fun hq => ?_)
              · skip
                refine c_seq ?_
                refine wp_reg (by decide +kernel) ?_
                refine l_v (v_assign rfl) ?_
                refine l_v (v_assign rfl) ?_
                refine l_nil ?_
                refine n_then ?_
                refine c_ret ?_
                refine r_then ?_
                refine r_blk ?_
                refine r_then ?_
                refine r_then ?_
                refine r_blk ?_
                refine r_then ?_
                refine ret2v rfl (by decide) (by decide) (show _ = (Value.pointer _) from rfl) (show _ = (Value.int _ _) from rfl) ?_
                refine ⟨.inr ⟨rfl, fun S hS h => ?_⟩, E⟩
                obtain ⟨cS, hp1, hp2, hp3, hp4, hp5, hp6, hp7, hp8, hp9⟩ := hpos S hS h
                rw [← hp3] at hp8
                omega
              · skip
                cases hq
            · skip
              refine c_seq ?_
              refine c_seq ?_
              refine wp_reg (by decide +kernel) ?_
              refine l_v (v_move (t := .int _ _) rfl) ?_
              refine l_v (OpVat.as (b := false) (v_lss rfl rfl) (decide_eq_false hs8)) ?_
              refine l_v (v_move (t := .bool _) rfl) ?_
              refine l_gt rfl rfl (OpTo.of_v (v_move (t := .int _ _) rfl) ?_)
              refine l_gt rfl rfl (OpTo.of_v (OpVat.as (b := false) (v_lss rfl rfl) (decide_eq_false hs9)) ?_)
              refine l_v (v_orT rfl rfl) ?_
              refine l_v (v_move (t := .bool _) rfl) ?_
              refine l_gt rfl rfl (OpTo.of_v (v_move (t := .int _ _) rfl) ?_)
              refine l_gt rfl rfl (OpTo.of_v (OpVat.as (b := false) (v_lss rfl rfl) (decide_eq_false hs10)) ?_)
              refine l_v (v_orT rfl rfl) ?_
              refine l_v (v_move (t := .bool _) rfl) ?_
              refine l_gt rfl rfl (OpTo.of_v (v_move (t := .int _ _) rfl) ?_)
              refine l_gt rfl rfl (OpTo.of_v (OpVat.as (b := false) (v_lss rfl rfl) (decide_eq_false hs11)) ?_)
              refine l_v (v_orT rfl rfl) ?_
              refine l_v (v_move (t := .bool _) rfl) ?_
              refine l_gt rfl rfl (OpTo.of_v (v_move (t := .pointer _) rfl) ?_)
              refine l_gt rfl rfl (OpTo.of_v (v_move (t := .int _ _) rfl) ?_)
              refine l_gt rfl rfl (OpTo.of_v (v_nilCheck rfl) ?_)
              refine l_gt rfl rfl (OpTo.of_v (v_fieldAddr (off := 0) (ft := 45) (by kernel_rfl) rfl) ?_)
              refine l_gt rfl rfl (OpTo.of_v (v_arrAddr (et := 2) (n := 5) (sz := 1) (k := k8) (by kernel_rfl) rfl rfl rfl (by omega)) ?_)
              refine l_gt rfl rfl (OpTo.of_v (v_load (by kernel_rfl) rfl (by first | exact pv_1 HPn | exact HB5.cell rfl | assumption)) ?_)
              refine l_gt rfl rfl (OpTo.of_v (OpVat.as (b := false) (v_gtr rfl rfl) (decide_eq_false hdup)) ?_)
              refine l_v (v_orT rfl rfl) ?_
              refine l_nil ?_
              refine n_then ?_
              refine c_cond rfl rfl (fun hq => ?_) (fun hq => ?_)
              · skip
                cases hq
              · skip
                refine c_skip ?_
                refine n_then ?_
                refine c_seq ?_
                refine wp_reg (by decide +kernel) ?_
                refine l_v (v_move (t := .int _ _) rfl) ?_
                refine l_v (v_build (pl := [(0, 1), (1, 1), (2, 1)]) (z := .agg #[.int .i64 0, .slice none 0 0, .slice none 0 0]) (zl := [.int .i64 0, .slice none 0 0, .slice none 0 0]) (by kernel_rfl) (by unfold kZero; kernel_rfl) rfl rfl (cells := [_, _, _]) rfl) ?_
                refine l_to (to_alloc (z := (.agg #[.int .i64 0, .slice none 0 0, .slice none 0 0])) (by unfold kZero; kernel_rfl) ?_)
                rintro b12 w12 zb12 HB12 e12 z12
                have zs_e12 := e12.size
                replace E := E.trans (Ext.keep e12)
                replace HS1 := HS1.ext e12
                replace HB5 := HB5.ext e12
                replace HT5 := HT5.ext e12
                replace EL1 := EL1.trans (Ext.keep e12)
                replace HRp := HRp.ext e12
                replace HPn := HPn.ext e12
                try simp only [Value.cells] at HB12
                obtain ⟨n4, hn4⟩ : ∃ n, n = w12.heap.size := ⟨_, rfl⟩
                obtain ⟨m11, rfl⟩ := Int.eq_ofNat_of_zero_le (show 0 ≤ c11 by omega)
                refine l_to (to_storeA (n := 3) rfl rfl (show _ = (Value.agg _) from rfl) (by kernel_rfl) rfl (by first | (simp [slice_one]; done) | (simp only [List.forall_mem_cons, List.cons_append, List.nil_append]; repeat' (first | exact rfl | apply And.intro | (intro u hu; cases hu; done)))) HB12 (by first | exact of_decide_eq_true rfl | (simp; done) | decide | (simp only [List.length_set, hlen]; exact of_decide_eq_true rfl)) ?_)
                rintro w102 HX102 k102 z102
                have zs_k102 := k102.size
                replace E := E.step k102 (by intro i hi he; (try dsimp only [NoK] at hi he ⊢); first | exact he.elim | omega | exact he)
                replace HS1 := HS1.keep k102 (by intro i _ hi he; (try dsimp only [NoK, AllB] at hi he); first | exact hi.elim | exact he.elim | omega | (rcases hi with hi | hi <;> omega) | (rcases he with he | he <;> omega))
                replace HB5 := HB5.keep k102 (by intro h; (try dsimp only at h); first | omega)
                replace HT5 := HT5.keep k102 (by intro i _ hi he; (try dsimp only [NoK, AllB] at hi he); first | exact hi.elim | exact he.elim | omega | (rcases hi with hi | hi <;> omega) | (rcases he with he | he <;> omega))
                replace EL1 := EL1.step k102 (by intro i hi he; (try dsimp only [NoK] at hi he ⊢); first | exact he.elim | omega | exact he)
                replace HRp := HRp.keep k102 (by intro h; have h := h; (try dsimp only [NoK] at h); first | exact h | omega | (rcases h with h | h <;> omega)) (by intro i hi he; have hi0 := hi; have hi := hi; have he := he; (try dsimp only [NoK] at hi he); first | exact he.elim | omega | (have := hF i hi0; omega))
                replace HB12 := HX102
                clear HX102
                try simp only [List.set_cons_zero, List.set_cons_succ, setAt, List.take_zero, List.take_succ_cons, List.drop_zero, List.drop_succ_cons, List.nil_append, List.cons_append, List.append_nil, List.length_cons, List.length_nil, Nat.zero_add, Nat.reduceAdd, List.drop_nil] at HB12
                refine l_nil ?_
                refine n_then ?_
                refine c_seq ?_
                refine c_seq ?_
                refine wp_reg (by decide +kernel) ?_
                refine l_v (v_assign rfl) ?_
                refine l_nil ?_
                refine n_then ?_
                refine c_block ?_
                refine c_loop (τ := Nat × Option Addr × Nat × List PrV × List UInt8) [2, 3, 13, 14, 15, 16, 17, 65, 66, 67, 68, 69, 70, 71, 72, 73, 74, 75, 76, 77, 78, 79, 80, 81, 82, 83, 84, 85, 86, 87, 88, 89, 90, 91, 92, 93] (fun (jx, a, cc, xs, lq) => [(13, .int .i64 jx)]) (fun (jx, a, cc, xs, lq) W => Ext w W ∧ Keep (fun i => i = b22 ∨ i = b12 ∨ n4 ≤ i) w102 W ∧ jx ≤ m11 ∧ xs.length = jx ∧ lq.length ≤ l.length ∧ (∀ S, TbOk S → tbW S = l → xs = (ansS S k8).2.1.take jx ∧ lq = posP (lnK S k8) jx (posL S (i + 1))) ∧ Rf W b22 (fun k => k < w.heap.size) lq ∧ Blk W b12 [.int .i64 c10, .slice a xs.length cc, .slice none 0 0] 33 ∧ OwV tPr 61 W n4 (fun k => n4 ≤ k) (.slice a xs.length cc) xs) (fun (jx, a, cc, xs, lq) => m11 - jx) (0, none, 0, [], rest (rest (rest (rest lp)))) (by exact ⟨rfl, trivial⟩) (by exact ⟨E, Keep.refl _, Nat.zero_le _, rfl, (by omega), (fun S hS h => by obtain ⟨cS, hp1, hp2, hp3, hp4, hp5, hp6, hp7, hp8, hp9⟩ := hpos S hS h; subst hp3; exact ⟨by simp, hp7⟩), HRp, HB12, OwV.nil _ _ _ _ _⟩) ?_
                rintro ⟨jx, a, cc, xs, lq⟩ w103 j ⟨E, EL2, g1, g2, g3, g4, HRp, HB13, HOx⟩
                have zs_EL2 := EL2.size
                replace HS1 := HS1.keep EL2 (by intro i _ hi he; (try dsimp only [NoK, AllB] at hi he); first | exact hi.elim | exact he.elim | omega | (rcases hi with hi | hi <;> omega) | (rcases he with he | he <;> omega))
                replace HB5 := HB5.keep EL2 (by intro h; (try dsimp only at h); first | omega)
                replace HT5 := HT5.keep EL2 (by intro i _ hi he; (try dsimp only [NoK, AllB] at hi he); first | exact hi.elim | exact he.elim | omega | (rcases hi with hi | hi <;> omega) | (rcases he with he | he <;> omega))
                replace EL1 := EL1.step EL2 (by intro i hi he; (try dsimp only [NoK] at hi he ⊢); first | exact he.elim | omega | exact he)
                have zo_HOx := fun (b : Nat) h => HOx.own_lt (b := b) h
                refine c_seq ?_
                refine c_seq ?_
                refine wp_reg (by decide +kernel) ?_
                refine l_v (v_move (t := .int _ _) rfl) ?_
                refine l_v (v_move (t := .int _ _) rfl) ?_
                refine l_v (v_lss rfl rfl) ?_
                refine l_nil ?_
                refine n_then ?_
                refine c_cond rfl rfl (fun hlt2 => ?_) (fun hlt2 => ?_)
                · skip
                  have hlt2 := dtrue hlt2
                  have zo_HOx := fun (b : Nat) h => HOx.own_lt (b := b) h
                  obtain ⟨n5, hn5⟩ : ∃ n, n = w103.heap.size := ⟨_, rfl⟩
                  have hpj : ∀ S, TbOk S → tbW S = l → ∃ p, (ansS S k8).2.1[jx]? = some p ∧ rdBytes 24 lq = .ok (p.1, wBytes p.2 ++ posP (lnK S k8) (jx + 1) (posL S (i + 1))) ∧ rdBytes 40 (wBytes p.2 ++ posP (lnK S k8) (jx + 1) (posL S (i + 1))) = .ok (p.2, posP (lnK S k8) (jx + 1) (posL S (i + 1))) := by
                    intro S hS h
                    obtain ⟨cS, hp1, hp2, hp3, hp4, hp5, hp6, hp7, hp8, hp9⟩ := hpos S hS h
                    subst hp3
                    obtain ⟨p, hp, _⟩ := getE (l := (ansS S k8).2.1) (i := jx) (by omega)
                    have hk := okLn_tb hS (c := (k8 : Int)) (by omega) (by omega)
                    have := posP_step hk (p := p) (j := jx) hp (posL S (i + 1))
                    rw [← (g4 S hS h).2] at this
                    exact ⟨p, hp, this⟩
                  refine c_skip ?_
                  refine n_then ?_
                  refine c_seq ?_
                  refine c_block ?_
                  refine c_seq ?_
                  refine wp_reg (by decide +kernel) ?_
                  refine l_v (v_move (t := .pointer _) rfl) ?_
                  refine l_to (to_f2 (by kernel_rfl) (show _ = (Value.pointer _) from rfl) (show _ = (Value.int _ _) from rfl) (CallsR.mono (refRBytes_c (most := 24) HRp (fun k h => by omega) (by omega) (by decide) (by decide) (by omega)) ?_))
                  rintro r w72 ⟨hr72, k72⟩
                  have zs_k72 := k72.size
                  obtain ⟨a14, c14, er14, fr, lq1, rfl, HS14, HRp, hx14⟩ := TryF_any hr72
                  have hl14 : lq1.length ≤ l.length := by
                    rcases hx14 with ⟨_, hq⟩ | ⟨_, _, h, _⟩
                    · have := (rdBytes_le (m := 24) hq).1; omega
                    · rw [h]; exact g3
                  replace E := E.step k72 (by intro i hi he; (try dsimp only [NoK] at hi he ⊢); first | exact he.elim | omega | exact he)
                  replace HS1 := HS1.keep k72 (by intro i _ hi he; (try dsimp only [NoK, AllB] at hi he); first | exact hi.elim | exact he.elim | omega | (rcases hi with hi | hi <;> omega) | (rcases he with he | he <;> omega))
                  replace HB5 := HB5.keep k72 (by intro h; (try dsimp only at h); first | omega)
                  replace HT5 := HT5.keep k72 (by intro i _ hi he; (try dsimp only [NoK, AllB] at hi he); first | exact hi.elim | exact he.elim | omega | (rcases hi with hi | hi <;> omega) | (rcases he with he | he <;> omega))
                  replace EL1 := EL1.step k72 (by intro i hi he; (try dsimp only [NoK] at hi he ⊢); first | exact he.elim | omega | exact he)
                  replace HB13 := HB13.keep k72 (by intro h; (try dsimp only at h); first | omega)
                  replace HOx := HOx.keep k72 (by intro i ho he; have he0 := he; have ho0 := ho; (try dsimp only [NoK] at he); (try simp only [Value.ownBlock, Option.some.injEq, reduceCtorEq] at ho); (try simp only [Value.ownBlock, Option.some.injEq, reduceCtorEq] at he); first | exact he.elim | exact ho.elim | omega | (have := zo_HOx _ ho0; omega)) (by intro i _ hi _ he; have he0 := he; have hi := hi; have he := he; (try dsimp only [NoK, AllB] at hi he); (try simp only [Value.ownBlock, Option.some.injEq, reduceCtorEq] at he); all_goals first | exact hi.elim | exact hi.1.elim | exact he.elim | omega | (rcases hi with hi | hi <;> omega) | (rcases he with he | he <;> omega))
                  replace EL2 := EL2.step k72 (by intro i hi he; (try dsimp only [NoK] at hi he ⊢); first | exact he.elim | omega | exact he)
                  refine l_v (v_move (t := .tuple _) rfl) ?_
                  refine l_v (v_extract (t := .slice _ _ _) rfl rfl) ?_
                  refine l_v (v_extract (t := .int _ _) rfl rfl) ?_
                  refine l_v (v_assign (t := .slice _ _ _) rfl) ?_
                  refine l_v (v_assign (t := .int _ _) rfl) ?_
                  refine l_nil ?_
                  refine n_then ?_
                  refine c_seq ?_
                  refine wp_reg (by decide +kernel) ?_
                  refine l_v (v_move (t := .pointer _) rfl) ?_
                  refine l_to (to_f2 (by kernel_rfl) (show _ = (Value.pointer _) from rfl) (show _ = (Value.int _ _) from rfl) (CallsR.mono (refRBytes_c (most := 40) HRp (fun k h => by omega) (by omega) (by decide) (by decide) (by omega)) ?_))
                  rintro r w77 ⟨hr77, k77⟩
                  have zs_k77 := k77.size
                  obtain ⟨a16, c16, er16, fv, lq2, rfl, HS16, HRp, hx16⟩ := TryF_any hr77
                  have hl16 : lq2.length ≤ l.length := by
                    rcases hx16 with ⟨_, hq⟩ | ⟨_, _, h, _⟩
                    · have := (rdBytes_le (m := 40) hq).1; omega
                    · rw [h]; exact hl14
                  have hpe : ∀ S, TbOk S → tbW S = l → er14 = 0 ∧ er16 = 0 ∧ (ansS S k8).2.1[jx]? = some (fr, fv) ∧ lq2 = posP (lnK S k8) (jx + 1) (posL S (i + 1)) := by
                    intro S hS h
                    obtain ⟨p, h7, h8, h9⟩ := hpj S hS h
                    rcases hx14 with ⟨z1, hq⟩ | ⟨_, _, _, hq⟩
                    · rw [show rdBytes 24 lq = _ from hq] at h8; cases h8
                      rcases hx16 with ⟨z2, hq2⟩ | ⟨_, _, _, hq2⟩
                      · rw [show rdBytes 40 _ = _ from hq2] at h9; cases h9
                        exact ⟨z1, z2, h7, rfl⟩
                      · rw [show rdBytes 40 _ = _ from hq2] at h9; cases h9
                    · rw [show rdBytes 24 lq = _ from hq] at h8; cases h8
                  replace E := E.step k77 (by intro i hi he; (try dsimp only [NoK] at hi he ⊢); first | exact he.elim | omega | exact he)
                  replace HS1 := HS1.keep k77 (by intro i _ hi he; (try dsimp only [NoK, AllB] at hi he); first | exact hi.elim | exact he.elim | omega | (rcases hi with hi | hi <;> omega) | (rcases he with he | he <;> omega))
                  replace HB5 := HB5.keep k77 (by intro h; (try dsimp only at h); first | omega)
                  replace HT5 := HT5.keep k77 (by intro i _ hi he; (try dsimp only [NoK, AllB] at hi he); first | exact hi.elim | exact he.elim | omega | (rcases hi with hi | hi <;> omega) | (rcases he with he | he <;> omega))
                  replace EL1 := EL1.step k77 (by intro i hi he; (try dsimp only [NoK] at hi he ⊢); first | exact he.elim | omega | exact he)
                  replace HB13 := HB13.keep k77 (by intro h; (try dsimp only at h); first | omega)
                  replace HOx := HOx.keep k77 (by intro i ho he; have he0 := he; have ho0 := ho; (try dsimp only [NoK] at he); (try simp only [Value.ownBlock, Option.some.injEq, reduceCtorEq] at ho); (try simp only [Value.ownBlock, Option.some.injEq, reduceCtorEq] at he); first | exact he.elim | exact ho.elim | omega | (have := zo_HOx _ ho0; omega)) (by intro i _ hi _ he; have he0 := he; have hi := hi; have he := he; (try dsimp only [NoK, AllB] at hi he); (try simp only [Value.ownBlock, Option.some.injEq, reduceCtorEq] at he); all_goals first | exact hi.elim | exact hi.1.elim | exact he.elim | omega | (rcases hi with hi | hi <;> omega) | (rcases he with he | he <;> omega))
                  replace EL2 := EL2.step k77 (by intro i hi he; (try dsimp only [NoK] at hi he ⊢); first | exact he.elim | omega | exact he)
                  replace HS14 := HS14.keep k77 (by intro i _ hi he; (try dsimp only [NoK, AllB] at hi he); first | exact hi.elim | exact he.elim | omega | (rcases hi with hi | hi <;> omega) | (rcases he with he | he <;> omega))
                  refine l_v (v_move (t := .tuple _) rfl) ?_
                  refine l_v (v_extract (t := .slice _ _ _) rfl rfl) ?_
                  refine l_v (v_extract (t := .int _ _) rfl rfl) ?_
                  refine l_v (v_assign (t := .slice _ _ _) rfl) ?_
                  refine l_v (v_assign (t := .int _ _) rfl) ?_
                  refine l_nil ?_
                  refine n_then ?_
                  refine c_seq ?_
                  refine c_seq ?_
                  refine wp_reg (by decide +kernel) ?_
                  refine l_v (v_move (t := .int _ _) rfl) ?_
                  refine l_v (v_neq rfl rfl) ?_
                  refine l_v (v_move (t := .bool _) rfl) ?_
                  refine l_g1 rfl rfl (fun hG => v_move (t := .int _ _) rfl) ?_
                  refine l_g1 rfl rfl (fun hG => v_neq (gd hG rfl) rfl) ?_
                  refine l_v (v_or rfl rfl) ?_
                  refine l_nil ?_
                  refine n_then ?_
                  refine c_cond rfl rfl (fun hq2 => ?_) (fun hq2 => ?_)
                  · skip
                    refine c_seq ?_
                    refine wp_reg (by decide +kernel) ?_
                    refine l_v (v_assign rfl) ?_
                    refine l_v (v_assign rfl) ?_
                    refine l_nil ?_
                    refine n_then ?_
                    refine c_ret ?_
                    refine r_then ?_
                    refine r_blk ?_
                    refine r_then ?_
                    refine r_then ?_
                    refine r_blk ?_
                    refine r_then ?_
                    refine r_blk ?_
                    refine r_then ?_
                    refine r_then ?_
                    refine r_blk ?_
                    refine r_then ?_
                    refine ret2v rfl (by decide) (by decide) (show _ = (Value.pointer _) from rfl) (show _ = (Value.int _ _) from rfl) ?_
                    refine ⟨.inr ⟨rfl, fun S hS h => ?_⟩, E⟩
                    obtain ⟨z1, z2, _⟩ := hpe S hS h
                    subst z1
                    subst z2
                    simp at hq2
                  · skip
                    refine c_skip ?_
                    refine n_then ?_
                    refine wp_reg (by decide +kernel) ?_
                    refine l_v (v_fieldAddr (off := 1) (ft := 30) (by kernel_rfl) rfl) ?_
                    refine l_v (v_load (by kernel_rfl) rfl (by first | exact HB13.pv 1 _ rfl | exact HB5.pv 1 _ rfl | assumption)) ?_
                    refine l_v (v_move (t := .slice _ _ _) rfl) ?_
                    refine l_v (v_move (t := .slice _ _ _) rfl) ?_
                    refine l_v (v_build (pl := [(0, 1), (1, 1)]) (z := .agg #[.slice none 0 0, .slice none 0 0]) (zl := [.slice none 0 0, .slice none 0 0]) (by kernel_rfl) (by unfold kZero; kernel_rfl) rfl rfl (cells := [_, _]) rfl) ?_
                    refine l_to (to_slice1 (t := tPr) (et := 61) (bytes := 48) (by kernel_rfl) (by decide) (show _ = (Value.agg _) from rfl) ((show tPr.rep _ (fun k => n5 ≤ k) [.slice a14 fr.length c14, .slice a16 fv.length c16] (fr, fv) from tPr_mk (HS14.mono fun k _ h => by omega) (HS16.mono fun k _ h => by omega))) ?_)
                    rintro b50 w50 zb50 HO50 e50 z50
                    have zs_e50 := e50.size
                    replace E := E.trans (Ext.keep e50)
                    replace HS1 := HS1.ext e50
                    replace HB5 := HB5.ext e50
                    replace HT5 := HT5.ext e50
                    replace EL1 := EL1.trans (Ext.keep e50)
                    replace HB13 := HB13.ext e50
                    replace HOx := HOx.ext e50
                    replace EL2 := EL2.trans (Ext.keep e50)
                    replace HS14 := HS14.ext e50
                    replace HS16 := HS16.ext e50
                    replace HRp := HRp.ext e50
                    have zo_HO50 := fun (b : Nat) h => HO50.own_lt (b := b) h
                    refine l_to (to_append (et := 61) (bytes := 48) (by kernel_rfl) (show _ = (Value.slice _ _ _) from rfl) HOx (show _ = (Value.slice _ _ _) from rfl) HO50.view (deepF fun k hk hk2 => ⟨by omega, fun ho => by have := zo_HOx _ ho; omega⟩) (by first | omega | (simp; done) | (simp; omega)) (by simp only [maxLen]; first | omega | (simp; done) | (simp; omega)) (by omega) ?_)
                    rintro a51 n51 c51 w51 HO51 hn51 k51 h51 i51
                    have zs_k51 := k51.size
                    subst hn51
                    replace E := E.step k51 (by intro i hi he; have he0 := he; (try dsimp only [NoK] at hi he ⊢); (try simp only [Value.ownBlock, Option.some.injEq] at he); first | exact he.elim | omega | exact he | (have := (HOx).own_lt he0; omega) | (have := zo_HOx _ he0; omega) | (have := (HOx).own_lt he0; rcases hi with hi | hi <;> omega))
                    replace HS1 := HS1.keep k51 (by intro i _ hi he; have he0 := he; (try dsimp only [NoK, AllB] at hi he); (try simp only [Value.ownBlock, Option.some.injEq] at he); first | exact hi.elim | exact he.elim | omega | (rcases hi with hi | hi <;> omega) | (rcases he with he | he <;> omega) | (have := (HOx).own_lt he0; omega) | (have := zo_HOx _ he0; omega) | (have := (HOx).own_lt he0; rcases hi with hi | hi <;> omega))
                    replace HB5 := HB5.keep k51 (by intro h; have he0 := h; (try dsimp only at h); (try simp only [Value.ownBlock, Option.some.injEq] at h); first | omega | (have := (HOx).own_lt he0; omega) | (have := zo_HOx _ he0; omega))
                    replace HT5 := HT5.keep k51 (by intro i _ hi he; have he0 := he; (try dsimp only [NoK, AllB] at hi he); (try simp only [Value.ownBlock, Option.some.injEq] at he); first | exact hi.elim | exact he.elim | omega | (rcases hi with hi | hi <;> omega) | (rcases he with he | he <;> omega) | (have := (HOx).own_lt he0; omega) | (have := zo_HOx _ he0; omega) | (have := (HOx).own_lt he0; rcases hi with hi | hi <;> omega))
                    replace EL1 := EL1.step k51 (by intro i hi he; have he0 := he; (try dsimp only [NoK] at hi he ⊢); (try simp only [Value.ownBlock, Option.some.injEq] at he); first | exact he.elim | omega | exact he | (have := (HOx).own_lt he0; omega) | (have := zo_HOx _ he0; omega) | (have := (HOx).own_lt he0; rcases hi with hi | hi <;> omega))
                    replace HB13 := HB13.keep k51 (by intro h; have he0 := h; (try dsimp only at h); (try simp only [Value.ownBlock, Option.some.injEq] at h); first | omega | (have := (HOx).own_lt he0; omega) | (have := zo_HOx _ he0; omega))
                    replace EL2 := EL2.step k51 (by intro i hi he; have he0 := he; (try dsimp only [NoK] at hi he ⊢); (try simp only [Value.ownBlock, Option.some.injEq] at he); first | exact he.elim | omega | exact he | (have := (HOx).own_lt he0; omega) | (have := zo_HOx _ he0; omega) | (have := (HOx).own_lt he0; rcases hi with hi | hi <;> omega))
                    replace HRp := HRp.keep k51 (by intro h; have h := h; (try dsimp only [NoK] at h); first | exact h | omega | (rcases h with h | h <;> omega) | (have := (HOx).own_lt h; omega) | (have := zo_HOx _ h; omega) | (have := (HOx).own_lt h; rcases hi with hi | hi <;> omega)) (by intro i hi he; have hi0 := hi; have hi := hi; have he := he; (try dsimp only [NoK] at hi he); first | exact he.elim | omega | (have := hF i hi0; omega) | (have := (HOx).own_lt he; omega) | (have := zo_HOx _ he; omega) | (have := (HOx).own_lt he; rcases hi with hi | hi <;> omega))
                    have zo_HO51 := fun (b : Nat) h => HO51.own_lt (b := b) h
                    refine l_v (v_fieldAddr (off := 1) (ft := 30) (by kernel_rfl) rfl) ?_
                    refine l_to (to_store rfl rfl (show _ = (Value.slice _ _ _) from rfl) rfl (by kernel_rfl) HB13 (by simp) ?_)
                    rintro w52 HB13 k52 z52
                    have zs_k52 := k52.size
                    try simp only [List.set_cons_zero, List.set_cons_succ, setAt, List.take, List.drop, List.nil_append, List.cons_append, List.append_nil, List.length_cons, List.length_nil] at HB13
                    replace E := E.step k52 (by intro i hi he; (try dsimp only [NoK] at hi he ⊢); first | exact he.elim | omega | exact he)
                    replace HS1 := HS1.keep k52 (by intro i _ hi he; (try dsimp only [NoK, AllB] at hi he); first | exact hi.elim | exact he.elim | omega | (rcases hi with hi | hi <;> omega) | (rcases he with he | he <;> omega))
                    replace HB5 := HB5.keep k52 (by intro h; (try dsimp only at h); first | omega)
                    replace HT5 := HT5.keep k52 (by intro i _ hi he; (try dsimp only [NoK, AllB] at hi he); first | exact hi.elim | exact he.elim | omega | (rcases hi with hi | hi <;> omega) | (rcases he with he | he <;> omega))
                    replace EL1 := EL1.step k52 (by intro i hi he; (try dsimp only [NoK] at hi he ⊢); first | exact he.elim | omega | exact he)
                    replace EL2 := EL2.step k52 (by intro i hi he; (try dsimp only [NoK] at hi he ⊢); first | exact he.elim | omega | exact he)
                    replace HRp := HRp.keep k52 (by intro h; have h := h; (try dsimp only [NoK] at h); first | exact h | omega | (rcases h with h | h <;> omega)) (by intro i hi he; have hi0 := hi; have hi := hi; have he := he; (try dsimp only [NoK] at hi he); first | exact he.elim | omega | (have := hF i hi0; omega))
                    replace HO51 := HO51.keep k52 (by intro i ho he; have he0 := he; have ho0 := ho; (try dsimp only [NoK] at he); (try simp only [Value.ownBlock, Option.some.injEq, reduceCtorEq] at ho); (try simp only [Value.ownBlock, Option.some.injEq, reduceCtorEq] at he); first | exact he.elim | exact ho.elim | omega | (have := zo_HO51 _ ho0; omega)) (by intro i _ hi _ he; have he0 := he; have hi := hi; have he := he; (try dsimp only [NoK, AllB] at hi he); (try simp only [Value.ownBlock, Option.some.injEq, reduceCtorEq] at he); all_goals first | exact hi.elim | exact hi.1.elim | exact he.elim | omega | (rcases hi with hi | hi <;> omega) | (rcases he with he | he <;> omega))
                    refine l_nil ?_
                    refine n_blk ?_
                    refine n_then ?_
                    refine wp_reg (by decide +kernel) ?_
                    refine l_v (v_move (t := .int _ _) rfl) ?_
                    refine l_v (v_add rfl rfl (by first | exact wr_i64 (by omega) (by omega) | rfl)) ?_
                    refine l_v (v_assign (t := .int _ _) rfl) ?_
                    refine l_nil ?_
                    refine n_then ?_
                    refine ⟨(jx + 1, a51, c51, xs ++ [(fr, fv)], lq2), _, rfl, by (repeat (first | exact Off.of_over _ _ _ | refine Off.upd ?_ (by decide) _ | refine Off.overs ?_ (by decide) _)), ⟨by first | rfl | exact congrArg (Value.int _) (by omega) | (simp; done), trivial⟩, ⟨E, EL2, ?_⟩, ?_⟩
                    · skip
                      refine ⟨by omega, by simp; omega, hl16, fun S hS h => ?_, HRp, HB13, HO51⟩
                      obtain ⟨_, _, z3, z4⟩ := hpe S hS h
                      exact ⟨by rw [List.take_add_one, z3, (g4 S hS h).1]; simp, z4⟩
                    · (dsimp only; omega)
                · skip
                  have hj : jx = m11 := by have := dfalse hlt2; omega
                  refine c_exit ?_
                  refine x_then ?_
                  refine x_then ?_
                  refine x_hit ?_
                  refine n_then ?_
                  refine c_seq ?_
                  refine wp_reg (by decide +kernel) ?_
                  refine l_v (v_move (t := .pointer _) rfl) ?_
                  refine l_to (to_f2 (by kernel_rfl) (show _ = (Value.pointer _) from rfl) (show _ = (Value.int _ _) from rfl) (CallsR.mono (refRBytes_c (most := 25) HRp (fun k h => by omega) (by omega) (by decide) (by decide) (by omega)) ?_))
                  rintro r w96 ⟨hr96, k96⟩
                  have zs_k96 := k96.size
                  obtain ⟨a18, c18, er18, nx, l5, rfl, HS18, HRp, hx18⟩ := TryF_any hr96
                  have hl5 : l5.length ≤ l.length := by
                    rcases hx18 with ⟨_, hq⟩ | ⟨_, _, h, _⟩
                    · have := (rdBytes_le (m := 25) hq).1; omega
                    · rw [h]; exact g3
                  have HS18 := HS18.mono (F' := fun k => n4 ≤ k) fun k _ h => by omega
                  have hend : ∀ S, TbOk S → tbW S = l → er18 = 0 ∧ (c10, xs, nx) = ansS S k8 ∧ l5 = posL S (i + 1) := by
                    intro S hS h
                    obtain ⟨cS, hp1, hp2, hp3, hp4, hp5, hp6, hp7, hp8, hp9⟩ := hpos S hS h
                    subst hp3
                    have hk := okLn_tb hS (c := (k8 : Int)) (by omega) (by omega)
                    have h8 := posP_end hk (j := jx) (by show (ansS S k8).2.1.length ≤ jx; omega) (posL S (i + 1))
                    rw [← (g4 S hS h).2] at h8
                    have h9 := (g4 S hS h).1
                    rw [List.take_of_length_le (by omega)] at h9
                    rcases hx18 with ⟨z1, hq⟩ | ⟨_, _, _, hq⟩
                    · rw [show rdBytes 25 lq = _ from hq] at h8; cases h8
                      refine ⟨z1, ?_, rfl⟩
                      rw [hp5, h9]; rfl
                    · rw [show rdBytes 25 lq = _ from hq] at h8; cases h8
                  replace E := E.step k96 (by intro i hi he; (try dsimp only [NoK] at hi he ⊢); first | exact he.elim | omega | exact he)
                  replace HS1 := HS1.keep k96 (by intro i _ hi he; (try dsimp only [NoK, AllB] at hi he); first | exact hi.elim | exact he.elim | omega | (rcases hi with hi | hi <;> omega) | (rcases he with he | he <;> omega))
                  replace HB5 := HB5.keep k96 (by intro h; (try dsimp only at h); first | omega)
                  replace HT5 := HT5.keep k96 (by intro i _ hi he; (try dsimp only [NoK, AllB] at hi he); first | exact hi.elim | exact he.elim | omega | (rcases hi with hi | hi <;> omega) | (rcases he with he | he <;> omega))
                  replace EL1 := EL1.step k96 (by intro i hi he; (try dsimp only [NoK] at hi he ⊢); first | exact he.elim | omega | exact he)
                  replace HB13 := HB13.keep k96 (by intro h; (try dsimp only at h); first | omega)
                  replace HOx := HOx.keep k96 (by intro i ho he; have he0 := he; have ho0 := ho; (try dsimp only [NoK] at he); (try simp only [Value.ownBlock, Option.some.injEq, reduceCtorEq] at ho); (try simp only [Value.ownBlock, Option.some.injEq, reduceCtorEq] at he); first | exact he.elim | exact ho.elim | omega | (have := zo_HOx _ ho0; omega)) (by intro i _ hi _ he; have he0 := he; have hi := hi; have he := he; (try dsimp only [NoK, AllB] at hi he); (try simp only [Value.ownBlock, Option.some.injEq, reduceCtorEq] at he); all_goals first | exact hi.elim | exact hi.1.elim | exact he.elim | omega | (rcases hi with hi | hi <;> omega) | (rcases he with he | he <;> omega))
                  refine l_v (v_move (t := .tuple _) rfl) ?_
                  refine l_v (v_extract (t := .slice _ _ _) rfl rfl) ?_
                  refine l_v (v_extract (t := .int _ _) rfl rfl) ?_
                  refine l_v (v_assign (t := .slice _ _ _) rfl) ?_
                  refine l_v (v_assign (t := .int _ _) rfl) ?_
                  refine l_nil ?_
                  refine n_then ?_
                  refine c_seq ?_
                  refine wp_reg (by decide +kernel) ?_
                  refine l_v (v_move (t := .slice _ _ _) rfl) ?_
                  refine l_v (v_fieldAddr (off := 2) (ft := 31) (by kernel_rfl) rfl) ?_
                  refine l_to (to_store rfl rfl (show _ = (Value.slice _ _ _) from rfl) rfl (by kernel_rfl) HB13 (by simp) ?_)
                  rintro w100 HB13 k100 z100
                  have zs_k100 := k100.size
                  try simp only [List.set_cons_zero, List.set_cons_succ, setAt, List.take, List.drop, List.nil_append, List.cons_append, List.append_nil, List.length_cons, List.length_nil] at HB13
                  replace E := E.step k100 (by intro i hi he; (try dsimp only [NoK] at hi he ⊢); first | exact he.elim | omega | exact he)
                  replace HS1 := HS1.keep k100 (by intro i _ hi he; (try dsimp only [NoK, AllB] at hi he); first | exact hi.elim | exact he.elim | omega | (rcases hi with hi | hi <;> omega) | (rcases he with he | he <;> omega))
                  replace HB5 := HB5.keep k100 (by intro h; (try dsimp only at h); first | omega)
                  replace HT5 := HT5.keep k100 (by intro i _ hi he; (try dsimp only [NoK, AllB] at hi he); first | exact hi.elim | exact he.elim | omega | (rcases hi with hi | hi <;> omega) | (rcases he with he | he <;> omega))
                  replace EL1 := EL1.step k100 (by intro i hi he; (try dsimp only [NoK] at hi he ⊢); first | exact he.elim | omega | exact he)
                  replace HOx := HOx.keep k100 (by intro i ho he; have he0 := he; have ho0 := ho; (try dsimp only [NoK] at he); (try simp only [Value.ownBlock, Option.some.injEq, reduceCtorEq] at ho); (try simp only [Value.ownBlock, Option.some.injEq, reduceCtorEq] at he); first | exact he.elim | exact ho.elim | omega | (have := zo_HOx _ ho0; omega)) (by intro i _ hi _ he; have he0 := he; have hi := hi; have he := he; (try dsimp only [NoK, AllB] at hi he); (try simp only [Value.ownBlock, Option.some.injEq, reduceCtorEq] at he); all_goals first | exact hi.elim | exact hi.1.elim | exact he.elim | omega | (rcases hi with hi | hi <;> omega) | (rcases he with he | he <;> omega))
                  replace HS18 := HS18.keep k100 (by intro i _ hi he; (try dsimp only [NoK, AllB] at hi he); first | exact hi.elim | exact he.elim | omega | (rcases hi with hi | hi <;> omega) | (rcases he with he | he <;> omega))
                  replace HRp := HRp.keep k100 (by intro h; have h := h; (try dsimp only [NoK] at h); first | exact h | omega | (rcases h with h | h <;> omega)) (by intro i hi he; have hi0 := hi; have hi := hi; have he := he; (try dsimp only [NoK] at hi he); first | exact he.elim | omega | (have := hF i hi0; omega))
                  refine l_nil ?_
                  refine n_then ?_
                  refine c_seq ?_
                  refine c_seq ?_
                  have HS20 := HOx.view.mono (F' := fun k => n4 ≤ k) fun k _ h => by rcases h with h | h <;> omega
                  have hi10 : I64 c10 := ⟨by omega, by omega⟩
                  have HG12 : AgV tAn _ (fun k => n4 ≤ k) _ (c10, xs, nx) := AgV.mkAn HS20 HS18 hi10
                  refine wp_reg (by decide +kernel) ?_
                  refine l_v (v_move (t := .int _ _) rfl) ?_
                  refine l_v (v_neq rfl rfl) ?_
                  refine l_v (v_move (t := .bool _) rfl) ?_
                  refine l_g1 rfl rfl (fun hG => v_loadA (by kernel_rfl) rfl (by first | exact HB13.pv | exact HB5.pv | assumption) rfl) ?_
                  refine l_g1f rfl rfl (fun hG => to_f1 (by kernel_rfl) (gd hG rfl) (refMayAnswer_c HG12)) ?_
                  rintro w104 e104
                  have zs_e104 := e104.size
                  replace E := E.trans (Ext.keep e104)
                  replace HS1 := HS1.ext e104
                  replace HB5 := HB5.ext e104
                  replace HT5 := HT5.ext e104
                  replace EL1 := EL1.trans (Ext.keep e104)
                  replace HS18 := HS18.ext e104
                  replace HRp := HRp.ext e104
                  replace HB13 := HB13.ext e104
                  replace HS20 := HS20.ext e104
                  replace HG12 := HG12.ext e104
                  refine l_g1 rfl rfl (fun hG => v_not (gd hG rfl)) ?_
                  refine l_v (v_or rfl rfl) ?_
                  refine l_nil ?_
                  refine n_then ?_
                  refine c_cond rfl rfl (fun hq3 => ?_) (fun hq3 => ?_)
                  · skip
                    refine c_seq ?_
                    refine wp_reg (by decide +kernel) ?_
                    refine l_v (v_assign rfl) ?_
                    refine l_v (v_assign rfl) ?_
                    refine l_nil ?_
                    refine n_then ?_
                    refine c_ret ?_
                    refine r_then ?_
                    refine r_blk ?_
                    refine r_then ?_
                    refine r_then ?_
                    refine r_blk ?_
                    refine r_then ?_
                    refine ret2v rfl (by decide) (by decide) (show _ = (Value.pointer _) from rfl) (show _ = (Value.int _ _) from rfl) ?_
                    refine ⟨.inr ⟨rfl, fun S hS h => ?_⟩, E⟩
                    obtain ⟨z1, z2, _⟩ := hend S hS h
                    rw [z2, ansS_may hS] at hq3
                    subst z1
                    simp at hq3
                  · skip
                    have hmay : mayAn (c10, xs, nx) = true := by simp only [Bool.or_eq_false_iff, Bool.not_eq_false'] at hq3; exact hq3.2
                    have hS9 : ∀ S, TbOk S → tbW S = l → updS S3 k8 (c9, (c10, xs, nx)) = resS S ((ksS S).take (i + 1)) ∧ l5 = posL S (i + 1) := by
                      intro S hS h
                      obtain ⟨cS, hp1, hp2, hp3, hp4, hp5, hp6, hp7, hp8, hp9⟩ := hpos S hS h
                      subst hp3
                      obtain ⟨_, z2, z3⟩ := hend S hS h
                      have r := (res_upd hS hp1).1
                      rw [← hp4, ← z2, ← (hS3 S hS h).1] at r
                      exact ⟨r, z3⟩
                    have hok9 : TbOk (updS S3 k8 (c9, (c10, xs, nx))) := by
                      intro c x hx
                      simp only [updS] at hx
                      split at hx
                      · next hc => cases hx; exact ⟨by omega, by dsimp only; omega, hmay⟩
                      · exact hok3 c x hx
                    have hlen := HT5.len
                    have h19 : (i + 1 : Int) ≤ c6 := by omega
                    by_cases hk1 : k8 = 1
                    · skip
                      refine c_skip ?_
                      refine n_then ?_
                      subst hk1
                      refine wp_any (by kernel_rfl) ?_
                      have e105 : Ext w104 { w104 with drawn := w104.drawn + 1 } := Keep.drawn _ _
                      generalize hw105 : ({ w104 with drawn := w104.drawn + 1 } : World) = w105 at e105 ⊢
                      clear hw105
                      have zs_e105 := e105.size
                      replace E := E.trans (Ext.keep e105)
                      replace HS1 := HS1.ext e105
                      replace HB5 := HB5.ext e105
                      replace HT5 := HT5.ext e105
                      replace EL1 := EL1.trans (Ext.keep e105)
                      replace HS18 := HS18.ext e105
                      replace HRp := HRp.ext e105
                      replace HB13 := HB13.ext e105
                      replace HS20 := HS20.ext e105
                      refine r_cut 13 rfl (by decide +kernel) (by decide +kernel) (by decide +kernel) ?_
                      refine wp_regJW (fun k => k = b24) (StJ b24 _ _ [(9, 1, some 4, (undef : Value))]) (by decide +kernel) (by decide +kernel) (fun vals done hd => StJ.start HB5 (fun a ha => hd a.1 (st_lt (n := 13) rfl a ha))) ?_
                      refine rj_vJ (fun done vals w hR hcl hdk hJ hdn hd => v_move (t := .pointer _) rfl) (fun done vals w hdk hJ => hJ.src (Keep.refl _) hdk rfl) ?_
                      refine rj_vJ (fun done vals w hR hcl hdk hJ hdn hd => v_move (t := .int _ _) rfl) (fun done vals w hdk hJ => hJ.src (Keep.refl _) hdk rfl) ?_
                      refine rj_vJ (fun done vals w hR hcl hdk hJ hdn hd => v_move (t := .pointer _) rfl) (fun done vals w hdk hJ => hJ.src (Keep.refl _) hdk rfl) ?_
                      refine rj_vJ (fun done vals w hR hcl hdk hJ hdn hd => v_move (t := .int _ _) rfl) (fun done vals w hdk hJ => hJ.src (Keep.refl _) hdk rfl) ?_
                      refine rj_vJ (fun done vals w hR hcl hdk hJ hdn hd => v_move (t := .int _ _) rfl) (fun done vals w hdk hJ => hJ.src (Keep.refl _) hdk rfl) ?_
                      refine rj_vJ (fun done vals w hR hcl hdk hJ hdn hd => v_loadA (by kernel_rfl) rfl (by first | exact (HB13.keep hR (by intro h; (try dsimp only at h); first | omega)).pv | exact (HB5.keep hR (by intro h; (try dsimp only at h); first | omega)).pv | assumption) rfl) (fun done vals w hdk hJ => hJ.src (Keep.refl _) hdk rfl) ?_
                      refine rj_vJ (fun done vals w hR hcl hdk hJ hdn hd => v_nilCheck (hd 0 rfl)) (fun done vals w hdk hJ => hJ.src (Keep.refl _) hdk rfl) ?_
                      refine rj_vJ (fun done vals w hR hcl hdk hJ hdn hd => v_fieldAddr (off := 0) (ft := 45) (by kernel_rfl) (hd 6 rfl)) (fun done vals w hdk hJ => hJ.src (Keep.refl _) hdk rfl) ?_
                      refine rj_vJ (fun done vals w hR hcl hdk hJ hdn hd => v_arrAddr (et := 2) (n := 5) (sz := 1) (k := 1) (by kernel_rfl) (hd 7 rfl) (hd 1 rfl) rfl (by decide)) (fun done vals w hdk hJ => hJ.src (Keep.refl _) hdk rfl) ?_
                      refine rj_d (fun done vals w hR hcl hdk hJ hdn hd => to_store (hd 8 rfl) rfl rfl (by first | exact SlV.one (hd 4 rfl) | exact SlV.one (hd 4 rfl).1 | exact OwV.one (hd 4 rfl) | exact OwV.one (hd 4 rfl).1 | (have h := hd 4 rfl; dsimp only [setS] at h; rw [h]; rfl) | exact (hd 4 rfl).1 | (obtain ⟨_, h⟩ := hd 4 rfl; rw [h]; rfl) | exact (congrArg Value.oneCell' (hd 4 rfl)).trans rfl) (by kernel_rfl) (hJ.at (n := 0) rfl hdk (fun m h => by cases h)) (by rw [conts_len]; first | exact of_decide_eq_true rfl | (rw [hlen]; exact of_decide_eq_true rfl)) (fun w1 hB k z => ⟨k, hJ.step (n := 0) rfl hdk (fun m h => by cases h) (fun k h => by cases h; exact hdn 4 rfl) (once_st rfl) rfl hB⟩)) ?_
                      refine rj_vJ (fun done vals w hR hcl hdk hJ hdn hd => v_nilCheck (hd 2 rfl)) (fun done vals w hdk hJ => hJ.src (Keep.refl _) hdk rfl) ?_
                      refine rj_vJ (fun done vals w hR hcl hdk hJ hdn hd => v_fieldAddr (off := 5) (ft := 46) (by kernel_rfl) (hd 10 rfl)) (fun done vals w hdk hJ => hJ.src (Keep.refl _) hdk rfl) ?_
                      refine rj_vJ (fun done vals w hR hcl hdk hJ hdn hd => v_arrAddr (et := 33) (n := 5) (sz := 3) (k := 1) (by kernel_rfl) (hd 11 rfl) (hd 3 rfl) rfl (by decide)) (fun done vals w hdk hJ => hJ.src (Keep.refl _) hdk rfl) ?_
                      refine rj_nil (fun vals w106 k106 J106 => ?_)
                      rintro _ - rfl _ - rfl _ - rfl _ - rfl _ qs4 rfl _ - rfl _ - rfl _ - rfl _ - rfl _ - - _ - rfl _ - rfl _ - rfl
                      have zs_k106 := k106.size
                      have HX106 := J106.fin
                      simp only [conts, sv, ← qs4] at HX106
                      replace E := E.step k106 (by intro i hi he; (try dsimp only [NoK] at hi he ⊢); first | exact he.elim | omega | exact he)
                      replace HS1 := HS1.keep k106 (by intro i _ hi he; (try dsimp only [NoK, AllB] at hi he); first | exact hi.elim | exact he.elim | omega | (rcases hi with hi | hi <;> omega) | (rcases he with he | he <;> omega))
                      replace HT5 := HT5.keep k106 (by intro i _ hi he; (try dsimp only [NoK, AllB] at hi he); first | exact hi.elim | exact he.elim | omega | (rcases hi with hi | hi <;> omega) | (rcases he with he | he <;> omega))
                      replace EL1 := EL1.step k106 (by intro i hi he; (try dsimp only [NoK] at hi he ⊢); first | exact he.elim | omega | exact he)
                      replace HS18 := HS18.keep k106 (by intro i _ hi he; (try dsimp only [NoK, AllB] at hi he); first | exact hi.elim | exact he.elim | omega | (rcases hi with hi | hi <;> omega) | (rcases he with he | he <;> omega))
                      replace HRp := HRp.keep k106 (by intro h; have h := h; (try dsimp only [NoK] at h); first | exact h | omega | (rcases h with h | h <;> omega)) (by intro i hi he; have hi0 := hi; have hi := hi; have he := he; (try dsimp only [NoK] at hi he); first | exact he.elim | omega | (have := hF i hi0; omega))
                      replace HB13 := HB13.keep k106 (by intro h; (try dsimp only at h); first | omega)
                      replace HS20 := HS20.keep k106 (by intro i _ hi he; (try dsimp only [NoK, AllB] at hi he); first | exact hi.elim | exact he.elim | omega | (rcases hi with hi | hi <;> omega) | (rcases he with he | he <;> omega))
                      replace HB5 := HX106
                      clear HX106
                      try simp only [List.set_cons_zero, List.set_cons_succ, setAt, List.take_zero, List.take_succ_cons, List.drop_zero, List.drop_succ_cons, List.nil_append, List.cons_append, List.append_nil, List.length_cons, List.length_nil, Nat.zero_add, Nat.reduceAdd, List.drop_nil] at HB5
                      refine fin_nilJ ?_
                      refine n_then ?_
                      refine r_one (by decide +kernel) rfl ?_
                      refine l_to (to_storeA (n := 3) rfl rfl (show _ = (Value.agg _) from rfl) (by kernel_rfl) rfl (by first | (simp [slice_one]; done) | (simp only [List.forall_mem_cons, List.cons_append, List.nil_append]; repeat' (first | exact rfl | apply And.intro | (intro u hu; cases hu; done)))) HB5 (by first | exact of_decide_eq_true rfl | (simp; done) | decide | (simp only [List.length_set, hlen]; exact of_decide_eq_true rfl)) ?_)
                      rintro w107 HX107 k107 z107
                      have zs_k107 := k107.size
                      try simp only [add_block] at k107
                      try simp only [add_block] at HX107
                      replace E := E.step k107 (by intro i hi he; (try dsimp only [NoK] at hi he ⊢); first | exact he.elim | omega | exact he)
                      replace HS1 := HS1.keep k107 (by intro i _ hi he; (try dsimp only [NoK, AllB] at hi he); first | exact hi.elim | exact he.elim | omega | (rcases hi with hi | hi <;> omega) | (rcases he with he | he <;> omega))
                      replace HT5 := HT5.keep k107 (by intro i _ hi he; (try dsimp only [NoK, AllB] at hi he); first | exact hi.elim | exact he.elim | omega | (rcases hi with hi | hi <;> omega) | (rcases he with he | he <;> omega))
                      replace EL1 := EL1.step k107 (by intro i hi he; (try dsimp only [NoK] at hi he ⊢); first | exact he.elim | omega | exact he)
                      replace HS18 := HS18.keep k107 (by intro i _ hi he; (try dsimp only [NoK, AllB] at hi he); first | exact hi.elim | exact he.elim | omega | (rcases hi with hi | hi <;> omega) | (rcases he with he | he <;> omega))
                      replace HRp := HRp.keep k107 (by intro h; have h := h; (try dsimp only [NoK] at h); first | exact h | omega | (rcases h with h | h <;> omega)) (by intro i hi he; have hi0 := hi; have hi := hi; have he := he; (try dsimp only [NoK] at hi he); first | exact he.elim | omega | (have := hF i hi0; omega))
                      replace HB13 := HB13.keep k107 (by intro h; (try dsimp only at h); first | omega)
                      replace HS20 := HS20.keep k107 (by intro i _ hi he; (try dsimp only [NoK, AllB] at hi he); first | exact hi.elim | exact he.elim | omega | (rcases hi with hi | hi <;> omega) | (rcases he with he | he <;> omega))
                      replace HB5 := HX107
                      clear HX107
                      try simp only [List.set_cons_zero, List.set_cons_succ, setAt, List.take_zero, List.take_succ_cons, List.drop_zero, List.drop_succ_cons, List.nil_append, List.cons_append, List.append_nil, List.length_cons, List.length_nil, Nat.zero_add, Nat.reduceAdd, List.drop_nil] at HB5
                      refine l_nil ?_
                      refine n_blk ?_
                      refine n_then ?_
                      refine wp_reg (by decide +kernel) ?_
                      refine l_v (v_move (t := .int _ _) rfl) ?_
                      refine l_v (v_add rfl rfl (by first | exact wr_i64 (by omega) (by omega) | rfl)) ?_
                      refine l_v (v_assign (t := .int _ _) rfl) ?_
                      refine l_nil ?_
                      refine n_then ?_
                      obtain ⟨cs2, HB6, HT6⟩ : ∃ l, Blk w107 b24 l 48 ∧ RfC w107 (fun i => n2 ≤ i) l (updS S3 (1 : Nat) (c9, (c10, xs, nx))) := ⟨_, HB5, (HT5.mono (F' := fun i => n2 ≤ i) (fun i _ h => h.1)).put (c := 1) (n := c9) (a := (c10, xs, nx)) (by decide) (tAn_mk (HS20.mono fun k _ h => by omega) (HS18.mono fun k _ h => by omega) hi10)⟩
                      refine ⟨(i + 1, l5, cs2, updS S3 (1 : Nat) (c9, (c10, xs, nx))), _, rfl, by (repeat (first | exact Off.of_over _ _ _ | refine Off.upd ?_ (by decide) _ | refine Off.overs ?_ (by decide) _)), ⟨by first | rfl | exact congrArg (Value.int _) (by omega) | (simp; done), trivial⟩, ⟨E, EL1, ?_⟩, ?_⟩
                      · skip
                        exact ⟨.inr (by omega), hok9, hl5, hS9, HRp, HB6, HT6⟩
                      · (dsimp only; omega)
                    · skip
                      by_cases hk2 : k8 = 2
                      · skip
                        refine c_skip ?_
                        refine n_then ?_
                        subst hk2
                        refine wp_any (by kernel_rfl) ?_
                        have e108 : Ext w104 { w104 with drawn := w104.drawn + 1 } := Keep.drawn _ _
                        generalize hw108 : ({ w104 with drawn := w104.drawn + 1 } : World) = w108 at e108 ⊢
                        clear hw108
                        have zs_e108 := e108.size
                        replace E := E.trans (Ext.keep e108)
                        replace HS1 := HS1.ext e108
                        replace HB5 := HB5.ext e108
                        replace HT5 := HT5.ext e108
                        replace EL1 := EL1.trans (Ext.keep e108)
                        replace HS18 := HS18.ext e108
                        replace HRp := HRp.ext e108
                        replace HB13 := HB13.ext e108
                        replace HS20 := HS20.ext e108
                        refine r_cut 13 rfl (by decide +kernel) (by decide +kernel) (by decide +kernel) ?_
                        refine wp_regJW (fun k => k = b24) (StJ b24 _ _ [(9, 2, some 4, (undef : Value))]) (by decide +kernel) (by decide +kernel) (fun vals done hd => StJ.start HB5 (fun a ha => hd a.1 (st_lt (n := 13) rfl a ha))) ?_
                        refine rj_vJ (fun done vals w hR hcl hdk hJ hdn hd => v_move (t := .pointer _) rfl) (fun done vals w hdk hJ => hJ.src (Keep.refl _) hdk rfl) ?_
                        refine rj_vJ (fun done vals w hR hcl hdk hJ hdn hd => v_move (t := .int _ _) rfl) (fun done vals w hdk hJ => hJ.src (Keep.refl _) hdk rfl) ?_
                        refine rj_vJ (fun done vals w hR hcl hdk hJ hdn hd => v_move (t := .pointer _) rfl) (fun done vals w hdk hJ => hJ.src (Keep.refl _) hdk rfl) ?_
                        refine rj_vJ (fun done vals w hR hcl hdk hJ hdn hd => v_move (t := .int _ _) rfl) (fun done vals w hdk hJ => hJ.src (Keep.refl _) hdk rfl) ?_
                        refine rj_vJ (fun done vals w hR hcl hdk hJ hdn hd => v_move (t := .int _ _) rfl) (fun done vals w hdk hJ => hJ.src (Keep.refl _) hdk rfl) ?_
                        refine rj_vJ (fun done vals w hR hcl hdk hJ hdn hd => v_loadA (by kernel_rfl) rfl (by first | exact (HB13.keep hR (by intro h; (try dsimp only at h); first | omega)).pv | exact (HB5.keep hR (by intro h; (try dsimp only at h); first | omega)).pv | assumption) rfl) (fun done vals w hdk hJ => hJ.src (Keep.refl _) hdk rfl) ?_
                        refine rj_vJ (fun done vals w hR hcl hdk hJ hdn hd => v_nilCheck (hd 0 rfl)) (fun done vals w hdk hJ => hJ.src (Keep.refl _) hdk rfl) ?_
                        refine rj_vJ (fun done vals w hR hcl hdk hJ hdn hd => v_fieldAddr (off := 0) (ft := 45) (by kernel_rfl) (hd 6 rfl)) (fun done vals w hdk hJ => hJ.src (Keep.refl _) hdk rfl) ?_
                        refine rj_vJ (fun done vals w hR hcl hdk hJ hdn hd => v_arrAddr (et := 2) (n := 5) (sz := 1) (k := 2) (by kernel_rfl) (hd 7 rfl) (hd 1 rfl) rfl (by decide)) (fun done vals w hdk hJ => hJ.src (Keep.refl _) hdk rfl) ?_
                        refine rj_d (fun done vals w hR hcl hdk hJ hdn hd => to_store (hd 8 rfl) rfl rfl (by first | exact SlV.one (hd 4 rfl) | exact SlV.one (hd 4 rfl).1 | exact OwV.one (hd 4 rfl) | exact OwV.one (hd 4 rfl).1 | (have h := hd 4 rfl; dsimp only [setS] at h; rw [h]; rfl) | exact (hd 4 rfl).1 | (obtain ⟨_, h⟩ := hd 4 rfl; rw [h]; rfl) | exact (congrArg Value.oneCell' (hd 4 rfl)).trans rfl) (by kernel_rfl) (hJ.at (n := 0) rfl hdk (fun m h => by cases h)) (by rw [conts_len]; first | exact of_decide_eq_true rfl | (rw [hlen]; exact of_decide_eq_true rfl)) (fun w1 hB k z => ⟨k, hJ.step (n := 0) rfl hdk (fun m h => by cases h) (fun k h => by cases h; exact hdn 4 rfl) (once_st rfl) rfl hB⟩)) ?_
                        refine rj_vJ (fun done vals w hR hcl hdk hJ hdn hd => v_nilCheck (hd 2 rfl)) (fun done vals w hdk hJ => hJ.src (Keep.refl _) hdk rfl) ?_
                        refine rj_vJ (fun done vals w hR hcl hdk hJ hdn hd => v_fieldAddr (off := 5) (ft := 46) (by kernel_rfl) (hd 10 rfl)) (fun done vals w hdk hJ => hJ.src (Keep.refl _) hdk rfl) ?_
                        refine rj_vJ (fun done vals w hR hcl hdk hJ hdn hd => v_arrAddr (et := 33) (n := 5) (sz := 3) (k := 2) (by kernel_rfl) (hd 11 rfl) (hd 3 rfl) rfl (by decide)) (fun done vals w hdk hJ => hJ.src (Keep.refl _) hdk rfl) ?_
                        refine rj_nil (fun vals w109 k109 J109 => ?_)
                        rintro _ - rfl _ - rfl _ - rfl _ - rfl _ qs4 rfl _ - rfl _ - rfl _ - rfl _ - rfl _ - - _ - rfl _ - rfl _ - rfl
                        have zs_k109 := k109.size
                        have HX109 := J109.fin
                        simp only [conts, sv, ← qs4] at HX109
                        replace E := E.step k109 (by intro i hi he; (try dsimp only [NoK] at hi he ⊢); first | exact he.elim | omega | exact he)
                        replace HS1 := HS1.keep k109 (by intro i _ hi he; (try dsimp only [NoK, AllB] at hi he); first | exact hi.elim | exact he.elim | omega | (rcases hi with hi | hi <;> omega) | (rcases he with he | he <;> omega))
                        replace HT5 := HT5.keep k109 (by intro i _ hi he; (try dsimp only [NoK, AllB] at hi he); first | exact hi.elim | exact he.elim | omega | (rcases hi with hi | hi <;> omega) | (rcases he with he | he <;> omega))
                        replace EL1 := EL1.step k109 (by intro i hi he; (try dsimp only [NoK] at hi he ⊢); first | exact he.elim | omega | exact he)
                        replace HS18 := HS18.keep k109 (by intro i _ hi he; (try dsimp only [NoK, AllB] at hi he); first | exact hi.elim | exact he.elim | omega | (rcases hi with hi | hi <;> omega) | (rcases he with he | he <;> omega))
                        replace HRp := HRp.keep k109 (by intro h; have h := h; (try dsimp only [NoK] at h); first | exact h | omega | (rcases h with h | h <;> omega)) (by intro i hi he; have hi0 := hi; have hi := hi; have he := he; (try dsimp only [NoK] at hi he); first | exact he.elim | omega | (have := hF i hi0; omega))
                        replace HB13 := HB13.keep k109 (by intro h; (try dsimp only at h); first | omega)
                        replace HS20 := HS20.keep k109 (by intro i _ hi he; (try dsimp only [NoK, AllB] at hi he); first | exact hi.elim | exact he.elim | omega | (rcases hi with hi | hi <;> omega) | (rcases he with he | he <;> omega))
                        replace HB5 := HX109
                        clear HX109
                        try simp only [List.set_cons_zero, List.set_cons_succ, setAt, List.take_zero, List.take_succ_cons, List.drop_zero, List.drop_succ_cons, List.nil_append, List.cons_append, List.append_nil, List.length_cons, List.length_nil, Nat.zero_add, Nat.reduceAdd, List.drop_nil] at HB5
                        refine fin_nilJ ?_
                        refine n_then ?_
                        refine r_one (by decide +kernel) rfl ?_
                        refine l_to (to_storeA (n := 3) rfl rfl (show _ = (Value.agg _) from rfl) (by kernel_rfl) rfl (by first | (simp [slice_one]; done) | (simp only [List.forall_mem_cons, List.cons_append, List.nil_append]; repeat' (first | exact rfl | apply And.intro | (intro u hu; cases hu; done)))) HB5 (by first | exact of_decide_eq_true rfl | (simp; done) | decide | (simp only [List.length_set, hlen]; exact of_decide_eq_true rfl)) ?_)
                        rintro w110 HX110 k110 z110
                        have zs_k110 := k110.size
                        try simp only [add_block] at k110
                        try simp only [add_block] at HX110
                        replace E := E.step k110 (by intro i hi he; (try dsimp only [NoK] at hi he ⊢); first | exact he.elim | omega | exact he)
                        replace HS1 := HS1.keep k110 (by intro i _ hi he; (try dsimp only [NoK, AllB] at hi he); first | exact hi.elim | exact he.elim | omega | (rcases hi with hi | hi <;> omega) | (rcases he with he | he <;> omega))
                        replace HT5 := HT5.keep k110 (by intro i _ hi he; (try dsimp only [NoK, AllB] at hi he); first | exact hi.elim | exact he.elim | omega | (rcases hi with hi | hi <;> omega) | (rcases he with he | he <;> omega))
                        replace EL1 := EL1.step k110 (by intro i hi he; (try dsimp only [NoK] at hi he ⊢); first | exact he.elim | omega | exact he)
                        replace HS18 := HS18.keep k110 (by intro i _ hi he; (try dsimp only [NoK, AllB] at hi he); first | exact hi.elim | exact he.elim | omega | (rcases hi with hi | hi <;> omega) | (rcases he with he | he <;> omega))
                        replace HRp := HRp.keep k110 (by intro h; have h := h; (try dsimp only [NoK] at h); first | exact h | omega | (rcases h with h | h <;> omega)) (by intro i hi he; have hi0 := hi; have hi := hi; have he := he; (try dsimp only [NoK] at hi he); first | exact he.elim | omega | (have := hF i hi0; omega))
                        replace HB13 := HB13.keep k110 (by intro h; (try dsimp only at h); first | omega)
                        replace HS20 := HS20.keep k110 (by intro i _ hi he; (try dsimp only [NoK, AllB] at hi he); first | exact hi.elim | exact he.elim | omega | (rcases hi with hi | hi <;> omega) | (rcases he with he | he <;> omega))
                        replace HB5 := HX110
                        clear HX110
                        try simp only [List.set_cons_zero, List.set_cons_succ, setAt, List.take_zero, List.take_succ_cons, List.drop_zero, List.drop_succ_cons, List.nil_append, List.cons_append, List.append_nil, List.length_cons, List.length_nil, Nat.zero_add, Nat.reduceAdd, List.drop_nil] at HB5
                        refine l_nil ?_
                        refine n_blk ?_
                        refine n_then ?_
                        refine wp_reg (by decide +kernel) ?_
                        refine l_v (v_move (t := .int _ _) rfl) ?_
                        refine l_v (v_add rfl rfl (by first | exact wr_i64 (by omega) (by omega) | rfl)) ?_
                        refine l_v (v_assign (t := .int _ _) rfl) ?_
                        refine l_nil ?_
                        refine n_then ?_
                        obtain ⟨cs2, HB6, HT6⟩ : ∃ l, Blk w110 b24 l 48 ∧ RfC w110 (fun i => n2 ≤ i) l (updS S3 (2 : Nat) (c9, (c10, xs, nx))) := ⟨_, HB5, (HT5.mono (F' := fun i => n2 ≤ i) (fun i _ h => h.1)).put (c := 2) (n := c9) (a := (c10, xs, nx)) (by decide) (tAn_mk (HS20.mono fun k _ h => by omega) (HS18.mono fun k _ h => by omega) hi10)⟩
                        refine ⟨(i + 1, l5, cs2, updS S3 (2 : Nat) (c9, (c10, xs, nx))), _, rfl, by (repeat (first | exact Off.of_over _ _ _ | refine Off.upd ?_ (by decide) _ | refine Off.overs ?_ (by decide) _)), ⟨by first | rfl | exact congrArg (Value.int _) (by omega) | (simp; done), trivial⟩, ⟨E, EL1, ?_⟩, ?_⟩
                        · skip
                          exact ⟨.inr (by omega), hok9, hl5, hS9, HRp, HB6, HT6⟩
                        · (dsimp only; omega)
                      · skip
                        by_cases hk3 : k8 = 3
                        · skip
                          refine c_skip ?_
                          refine n_then ?_
                          subst hk3
                          refine wp_any (by kernel_rfl) ?_
                          have e111 : Ext w104 { w104 with drawn := w104.drawn + 1 } := Keep.drawn _ _
                          generalize hw111 : ({ w104 with drawn := w104.drawn + 1 } : World) = w111 at e111 ⊢
                          clear hw111
                          have zs_e111 := e111.size
                          replace E := E.trans (Ext.keep e111)
                          replace HS1 := HS1.ext e111
                          replace HB5 := HB5.ext e111
                          replace HT5 := HT5.ext e111
                          replace EL1 := EL1.trans (Ext.keep e111)
                          replace HS18 := HS18.ext e111
                          replace HRp := HRp.ext e111
                          replace HB13 := HB13.ext e111
                          replace HS20 := HS20.ext e111
                          refine r_cut 13 rfl (by decide +kernel) (by decide +kernel) (by decide +kernel) ?_
                          refine wp_regJW (fun k => k = b24) (StJ b24 _ _ [(9, 3, some 4, (undef : Value))]) (by decide +kernel) (by decide +kernel) (fun vals done hd => StJ.start HB5 (fun a ha => hd a.1 (st_lt (n := 13) rfl a ha))) ?_
                          refine rj_vJ (fun done vals w hR hcl hdk hJ hdn hd => v_move (t := .pointer _) rfl) (fun done vals w hdk hJ => hJ.src (Keep.refl _) hdk rfl) ?_
                          refine rj_vJ (fun done vals w hR hcl hdk hJ hdn hd => v_move (t := .int _ _) rfl) (fun done vals w hdk hJ => hJ.src (Keep.refl _) hdk rfl) ?_
                          refine rj_vJ (fun done vals w hR hcl hdk hJ hdn hd => v_move (t := .pointer _) rfl) (fun done vals w hdk hJ => hJ.src (Keep.refl _) hdk rfl) ?_
                          refine rj_vJ (fun done vals w hR hcl hdk hJ hdn hd => v_move (t := .int _ _) rfl) (fun done vals w hdk hJ => hJ.src (Keep.refl _) hdk rfl) ?_
                          refine rj_vJ (fun done vals w hR hcl hdk hJ hdn hd => v_move (t := .int _ _) rfl) (fun done vals w hdk hJ => hJ.src (Keep.refl _) hdk rfl) ?_
                          refine rj_vJ (fun done vals w hR hcl hdk hJ hdn hd => v_loadA (by kernel_rfl) rfl (by first | exact (HB13.keep hR (by intro h; (try dsimp only at h); first | omega)).pv | exact (HB5.keep hR (by intro h; (try dsimp only at h); first | omega)).pv | assumption) rfl) (fun done vals w hdk hJ => hJ.src (Keep.refl _) hdk rfl) ?_
                          refine rj_vJ (fun done vals w hR hcl hdk hJ hdn hd => v_nilCheck (hd 0 rfl)) (fun done vals w hdk hJ => hJ.src (Keep.refl _) hdk rfl) ?_
                          refine rj_vJ (fun done vals w hR hcl hdk hJ hdn hd => v_fieldAddr (off := 0) (ft := 45) (by kernel_rfl) (hd 6 rfl)) (fun done vals w hdk hJ => hJ.src (Keep.refl _) hdk rfl) ?_
                          refine rj_vJ (fun done vals w hR hcl hdk hJ hdn hd => v_arrAddr (et := 2) (n := 5) (sz := 1) (k := 3) (by kernel_rfl) (hd 7 rfl) (hd 1 rfl) rfl (by decide)) (fun done vals w hdk hJ => hJ.src (Keep.refl _) hdk rfl) ?_
                          refine rj_d (fun done vals w hR hcl hdk hJ hdn hd => to_store (hd 8 rfl) rfl rfl (by first | exact SlV.one (hd 4 rfl) | exact SlV.one (hd 4 rfl).1 | exact OwV.one (hd 4 rfl) | exact OwV.one (hd 4 rfl).1 | (have h := hd 4 rfl; dsimp only [setS] at h; rw [h]; rfl) | exact (hd 4 rfl).1 | (obtain ⟨_, h⟩ := hd 4 rfl; rw [h]; rfl) | exact (congrArg Value.oneCell' (hd 4 rfl)).trans rfl) (by kernel_rfl) (hJ.at (n := 0) rfl hdk (fun m h => by cases h)) (by rw [conts_len]; first | exact of_decide_eq_true rfl | (rw [hlen]; exact of_decide_eq_true rfl)) (fun w1 hB k z => ⟨k, hJ.step (n := 0) rfl hdk (fun m h => by cases h) (fun k h => by cases h; exact hdn 4 rfl) (once_st rfl) rfl hB⟩)) ?_
                          refine rj_vJ (fun done vals w hR hcl hdk hJ hdn hd => v_nilCheck (hd 2 rfl)) (fun done vals w hdk hJ => hJ.src (Keep.refl _) hdk rfl) ?_
                          refine rj_vJ (fun done vals w hR hcl hdk hJ hdn hd => v_fieldAddr (off := 5) (ft := 46) (by kernel_rfl) (hd 10 rfl)) (fun done vals w hdk hJ => hJ.src (Keep.refl _) hdk rfl) ?_
                          refine rj_vJ (fun done vals w hR hcl hdk hJ hdn hd => v_arrAddr (et := 33) (n := 5) (sz := 3) (k := 3) (by kernel_rfl) (hd 11 rfl) (hd 3 rfl) rfl (by decide)) (fun done vals w hdk hJ => hJ.src (Keep.refl _) hdk rfl) ?_
                          refine rj_nil (fun vals w112 k112 J112 => ?_)
                          rintro _ - rfl _ - rfl _ - rfl _ - rfl _ qs4 rfl _ - rfl _ - rfl _ - rfl _ - rfl _ - - _ - rfl _ - rfl _ - rfl
                          have zs_k112 := k112.size
                          have HX112 := J112.fin
                          simp only [conts, sv, ← qs4] at HX112
                          replace E := E.step k112 (by intro i hi he; (try dsimp only [NoK] at hi he ⊢); first | exact he.elim | omega | exact he)
                          replace HS1 := HS1.keep k112 (by intro i _ hi he; (try dsimp only [NoK, AllB] at hi he); first | exact hi.elim | exact he.elim | omega | (rcases hi with hi | hi <;> omega) | (rcases he with he | he <;> omega))
                          replace HT5 := HT5.keep k112 (by intro i _ hi he; (try dsimp only [NoK, AllB] at hi he); first | exact hi.elim | exact he.elim | omega | (rcases hi with hi | hi <;> omega) | (rcases he with he | he <;> omega))
                          replace EL1 := EL1.step k112 (by intro i hi he; (try dsimp only [NoK] at hi he ⊢); first | exact he.elim | omega | exact he)
                          replace HS18 := HS18.keep k112 (by intro i _ hi he; (try dsimp only [NoK, AllB] at hi he); first | exact hi.elim | exact he.elim | omega | (rcases hi with hi | hi <;> omega) | (rcases he with he | he <;> omega))
                          replace HRp := HRp.keep k112 (by intro h; have h := h; (try dsimp only [NoK] at h); first | exact h | omega | (rcases h with h | h <;> omega)) (by intro i hi he; have hi0 := hi; have hi := hi; have he := he; (try dsimp only [NoK] at hi he); first | exact he.elim | omega | (have := hF i hi0; omega))
                          replace HB13 := HB13.keep k112 (by intro h; (try dsimp only at h); first | omega)
                          replace HS20 := HS20.keep k112 (by intro i _ hi he; (try dsimp only [NoK, AllB] at hi he); first | exact hi.elim | exact he.elim | omega | (rcases hi with hi | hi <;> omega) | (rcases he with he | he <;> omega))
                          replace HB5 := HX112
                          clear HX112
                          try simp only [List.set_cons_zero, List.set_cons_succ, setAt, List.take_zero, List.take_succ_cons, List.drop_zero, List.drop_succ_cons, List.nil_append, List.cons_append, List.append_nil, List.length_cons, List.length_nil, Nat.zero_add, Nat.reduceAdd, List.drop_nil] at HB5
                          refine fin_nilJ ?_
                          refine n_then ?_
                          refine r_one (by decide +kernel) rfl ?_
                          refine l_to (to_storeA (n := 3) rfl rfl (show _ = (Value.agg _) from rfl) (by kernel_rfl) rfl (by first | (simp [slice_one]; done) | (simp only [List.forall_mem_cons, List.cons_append, List.nil_append]; repeat' (first | exact rfl | apply And.intro | (intro u hu; cases hu; done)))) HB5 (by first | exact of_decide_eq_true rfl | (simp; done) | decide | (simp only [List.length_set, hlen]; exact of_decide_eq_true rfl)) ?_)
                          rintro w113 HX113 k113 z113
                          have zs_k113 := k113.size
                          try simp only [add_block] at k113
                          try simp only [add_block] at HX113
                          replace E := E.step k113 (by intro i hi he; (try dsimp only [NoK] at hi he ⊢); first | exact he.elim | omega | exact he)
                          replace HS1 := HS1.keep k113 (by intro i _ hi he; (try dsimp only [NoK, AllB] at hi he); first | exact hi.elim | exact he.elim | omega | (rcases hi with hi | hi <;> omega) | (rcases he with he | he <;> omega))
                          replace HT5 := HT5.keep k113 (by intro i _ hi he; (try dsimp only [NoK, AllB] at hi he); first | exact hi.elim | exact he.elim | omega | (rcases hi with hi | hi <;> omega) | (rcases he with he | he <;> omega))
                          replace EL1 := EL1.step k113 (by intro i hi he; (try dsimp only [NoK] at hi he ⊢); first | exact he.elim | omega | exact he)
                          replace HS18 := HS18.keep k113 (by intro i _ hi he; (try dsimp only [NoK, AllB] at hi he); first | exact hi.elim | exact he.elim | omega | (rcases hi with hi | hi <;> omega) | (rcases he with he | he <;> omega))
                          replace HRp := HRp.keep k113 (by intro h; have h := h; (try dsimp only [NoK] at h); first | exact h | omega | (rcases h with h | h <;> omega)) (by intro i hi he; have hi0 := hi; have hi := hi; have he := he; (try dsimp only [NoK] at hi he); first | exact he.elim | omega | (have := hF i hi0; omega))
                          replace HB13 := HB13.keep k113 (by intro h; (try dsimp only at h); first | omega)
                          replace HS20 := HS20.keep k113 (by intro i _ hi he; (try dsimp only [NoK, AllB] at hi he); first | exact hi.elim | exact he.elim | omega | (rcases hi with hi | hi <;> omega) | (rcases he with he | he <;> omega))
                          replace HB5 := HX113
                          clear HX113
                          try simp only [List.set_cons_zero, List.set_cons_succ, setAt, List.take_zero, List.take_succ_cons, List.drop_zero, List.drop_succ_cons, List.nil_append, List.cons_append, List.append_nil, List.length_cons, List.length_nil, Nat.zero_add, Nat.reduceAdd, List.drop_nil] at HB5
                          refine l_nil ?_
                          refine n_blk ?_
                          refine n_then ?_
                          refine wp_reg (by decide +kernel) ?_
                          refine l_v (v_move (t := .int _ _) rfl) ?_
                          refine l_v (v_add rfl rfl (by first | exact wr_i64 (by omega) (by omega) | rfl)) ?_
                          refine l_v (v_assign (t := .int _ _) rfl) ?_
                          refine l_nil ?_
                          refine n_then ?_
                          obtain ⟨cs2, HB6, HT6⟩ : ∃ l, Blk w113 b24 l 48 ∧ RfC w113 (fun i => n2 ≤ i) l (updS S3 (3 : Nat) (c9, (c10, xs, nx))) := ⟨_, HB5, (HT5.mono (F' := fun i => n2 ≤ i) (fun i _ h => h.1)).put (c := 3) (n := c9) (a := (c10, xs, nx)) (by decide) (tAn_mk (HS20.mono fun k _ h => by omega) (HS18.mono fun k _ h => by omega) hi10)⟩
                          refine ⟨(i + 1, l5, cs2, updS S3 (3 : Nat) (c9, (c10, xs, nx))), _, rfl, by (repeat (first | exact Off.of_over _ _ _ | refine Off.upd ?_ (by decide) _ | refine Off.overs ?_ (by decide) _)), ⟨by first | rfl | exact congrArg (Value.int _) (by omega) | (simp; done), trivial⟩, ⟨E, EL1, ?_⟩, ?_⟩
                          · skip
                            exact ⟨.inr (by omega), hok9, hl5, hS9, HRp, HB6, HT6⟩
                          · (dsimp only; omega)
                        · skip
                          refine c_skip ?_
                          refine n_then ?_
                          have hk4 : k8 = 4 := by omega
                          subst hk4
                          refine wp_any (by kernel_rfl) ?_
                          have e114 : Ext w104 { w104 with drawn := w104.drawn + 1 } := Keep.drawn _ _
                          generalize hw114 : ({ w104 with drawn := w104.drawn + 1 } : World) = w114 at e114 ⊢
                          clear hw114
                          have zs_e114 := e114.size
                          replace E := E.trans (Ext.keep e114)
                          replace HS1 := HS1.ext e114
                          replace HB5 := HB5.ext e114
                          replace HT5 := HT5.ext e114
                          replace EL1 := EL1.trans (Ext.keep e114)
                          replace HS18 := HS18.ext e114
                          replace HRp := HRp.ext e114
                          replace HB13 := HB13.ext e114
                          replace HS20 := HS20.ext e114
                          refine r_cut 13 rfl (by decide +kernel) (by decide +kernel) (by decide +kernel) ?_
                          refine wp_regJW (fun k => k = b24) (StJ b24 _ _ [(9, 4, some 4, (undef : Value))]) (by decide +kernel) (by decide +kernel) (fun vals done hd => StJ.start HB5 (fun a ha => hd a.1 (st_lt (n := 13) rfl a ha))) ?_
                          refine rj_vJ (fun done vals w hR hcl hdk hJ hdn hd => v_move (t := .pointer _) rfl) (fun done vals w hdk hJ => hJ.src (Keep.refl _) hdk rfl) ?_
                          refine rj_vJ (fun done vals w hR hcl hdk hJ hdn hd => v_move (t := .int _ _) rfl) (fun done vals w hdk hJ => hJ.src (Keep.refl _) hdk rfl) ?_
                          refine rj_vJ (fun done vals w hR hcl hdk hJ hdn hd => v_move (t := .pointer _) rfl) (fun done vals w hdk hJ => hJ.src (Keep.refl _) hdk rfl) ?_
                          refine rj_vJ (fun done vals w hR hcl hdk hJ hdn hd => v_move (t := .int _ _) rfl) (fun done vals w hdk hJ => hJ.src (Keep.refl _) hdk rfl) ?_
                          refine rj_vJ (fun done vals w hR hcl hdk hJ hdn hd => v_move (t := .int _ _) rfl) (fun done vals w hdk hJ => hJ.src (Keep.refl _) hdk rfl) ?_
                          refine rj_vJ (fun done vals w hR hcl hdk hJ hdn hd => v_loadA (by kernel_rfl) rfl (by first | exact (HB13.keep hR (by intro h; (try dsimp only at h); first | omega)).pv | exact (HB5.keep hR (by intro h; (try dsimp only at h); first | omega)).pv | assumption) rfl) (fun done vals w hdk hJ => hJ.src (Keep.refl _) hdk rfl) ?_
                          refine rj_vJ (fun done vals w hR hcl hdk hJ hdn hd => v_nilCheck (hd 0 rfl)) (fun done vals w hdk hJ => hJ.src (Keep.refl _) hdk rfl) ?_
                          refine rj_vJ (fun done vals w hR hcl hdk hJ hdn hd => v_fieldAddr (off := 0) (ft := 45) (by kernel_rfl) (hd 6 rfl)) (fun done vals w hdk hJ => hJ.src (Keep.refl _) hdk rfl) ?_
                          refine rj_vJ (fun done vals w hR hcl hdk hJ hdn hd => v_arrAddr (et := 2) (n := 5) (sz := 1) (k := 4) (by kernel_rfl) (hd 7 rfl) (hd 1 rfl) rfl (by decide)) (fun done vals w hdk hJ => hJ.src (Keep.refl _) hdk rfl) ?_
                          refine rj_d (fun done vals w hR hcl hdk hJ hdn hd => to_store (hd 8 rfl) rfl rfl (by first | exact SlV.one (hd 4 rfl) | exact SlV.one (hd 4 rfl).1 | exact OwV.one (hd 4 rfl) | exact OwV.one (hd 4 rfl).1 | (have h := hd 4 rfl; dsimp only [setS] at h; rw [h]; rfl) | exact (hd 4 rfl).1 | (obtain ⟨_, h⟩ := hd 4 rfl; rw [h]; rfl) | exact (congrArg Value.oneCell' (hd 4 rfl)).trans rfl) (by kernel_rfl) (hJ.at (n := 0) rfl hdk (fun m h => by cases h)) (by rw [conts_len]; first | exact of_decide_eq_true rfl | (rw [hlen]; exact of_decide_eq_true rfl)) (fun w1 hB k z => ⟨k, hJ.step (n := 0) rfl hdk (fun m h => by cases h) (fun k h => by cases h; exact hdn 4 rfl) (once_st rfl) rfl hB⟩)) ?_
                          refine rj_vJ (fun done vals w hR hcl hdk hJ hdn hd => v_nilCheck (hd 2 rfl)) (fun done vals w hdk hJ => hJ.src (Keep.refl _) hdk rfl) ?_
                          refine rj_vJ (fun done vals w hR hcl hdk hJ hdn hd => v_fieldAddr (off := 5) (ft := 46) (by kernel_rfl) (hd 10 rfl)) (fun done vals w hdk hJ => hJ.src (Keep.refl _) hdk rfl) ?_
                          refine rj_vJ (fun done vals w hR hcl hdk hJ hdn hd => v_arrAddr (et := 33) (n := 5) (sz := 3) (k := 4) (by kernel_rfl) (hd 11 rfl) (hd 3 rfl) rfl (by decide)) (fun done vals w hdk hJ => hJ.src (Keep.refl _) hdk rfl) ?_
                          refine rj_nil (fun vals w115 k115 J115 => ?_)
                          rintro _ - rfl _ - rfl _ - rfl _ - rfl _ qs4 rfl _ - rfl _ - rfl _ - rfl _ - rfl _ - - _ - rfl _ - rfl _ - rfl
                          have zs_k115 := k115.size
                          have HX115 := J115.fin
                          simp only [conts, sv, ← qs4] at HX115
                          replace E := E.step k115 (by intro i hi he; (try dsimp only [NoK] at hi he ⊢); first | exact he.elim | omega | exact he)
                          replace HS1 := HS1.keep k115 (by intro i _ hi he; (try dsimp only [NoK, AllB] at hi he); first | exact hi.elim | exact he.elim | omega | (rcases hi with hi | hi <;> omega) | (rcases he with he | he <;> omega))
                          replace HT5 := HT5.keep k115 (by intro i _ hi he; (try dsimp only [NoK, AllB] at hi he); first | exact hi.elim | exact he.elim | omega | (rcases hi with hi | hi <;> omega) | (rcases he with he | he <;> omega))
                          replace EL1 := EL1.step k115 (by intro i hi he; (try dsimp only [NoK] at hi he ⊢); first | exact he.elim | omega | exact he)
                          replace HS18 := HS18.keep k115 (by intro i _ hi he; (try dsimp only [NoK, AllB] at hi he); first | exact hi.elim | exact he.elim | omega | (rcases hi with hi | hi <;> omega) | (rcases he with he | he <;> omega))
                          replace HRp := HRp.keep k115 (by intro h; have h := h; (try dsimp only [NoK] at h); first | exact h | omega | (rcases h with h | h <;> omega)) (by intro i hi he; have hi0 := hi; have hi := hi; have he := he; (try dsimp only [NoK] at hi he); first | exact he.elim | omega | (have := hF i hi0; omega))
                          replace HB13 := HB13.keep k115 (by intro h; (try dsimp only at h); first | omega)
                          replace HS20 := HS20.keep k115 (by intro i _ hi he; (try dsimp only [NoK, AllB] at hi he); first | exact hi.elim | exact he.elim | omega | (rcases hi with hi | hi <;> omega) | (rcases he with he | he <;> omega))
                          replace HB5 := HX115
                          clear HX115
                          try simp only [List.set_cons_zero, List.set_cons_succ, setAt, List.take_zero, List.take_succ_cons, List.drop_zero, List.drop_succ_cons, List.nil_append, List.cons_append, List.append_nil, List.length_cons, List.length_nil, Nat.zero_add, Nat.reduceAdd, List.drop_nil] at HB5
                          refine fin_nilJ ?_
                          refine n_then ?_
                          refine r_one (by decide +kernel) rfl ?_
                          refine l_to (to_storeA (n := 3) rfl rfl (show _ = (Value.agg _) from rfl) (by kernel_rfl) rfl (by first | (simp [slice_one]; done) | (simp only [List.forall_mem_cons, List.cons_append, List.nil_append]; repeat' (first | exact rfl | apply And.intro | (intro u hu; cases hu; done)))) HB5 (by first | exact of_decide_eq_true rfl | (simp; done) | decide | (simp only [List.length_set, hlen]; exact of_decide_eq_true rfl)) ?_)
                          rintro w116 HX116 k116 z116
                          have zs_k116 := k116.size
                          try simp only [add_block] at k116
                          try simp only [add_block] at HX116
                          replace E := E.step k116 (by intro i hi he; (try dsimp only [NoK] at hi he ⊢); first | exact he.elim | omega | exact he)
                          replace HS1 := HS1.keep k116 (by intro i _ hi he; (try dsimp only [NoK, AllB] at hi he); first | exact hi.elim | exact he.elim | omega | (rcases hi with hi | hi <;> omega) | (rcases he with he | he <;> omega))
                          replace HT5 := HT5.keep k116 (by intro i _ hi he; (try dsimp only [NoK, AllB] at hi he); first | exact hi.elim | exact he.elim | omega | (rcases hi with hi | hi <;> omega) | (rcases he with he | he <;> omega))
                          replace EL1 := EL1.step k116 (by intro i hi he; (try dsimp only [NoK] at hi he ⊢); first | exact he.elim | omega | exact he)
                          replace HS18 := HS18.keep k116 (by intro i _ hi he; (try dsimp only [NoK, AllB] at hi he); first | exact hi.elim | exact he.elim | omega | (rcases hi with hi | hi <;> omega) | (rcases he with he | he <;> omega))
                          replace HRp := HRp.keep k116 (by intro h; have h := h; (try dsimp only [NoK] at h); first | exact h | omega | (rcases h with h | h <;> omega)) (by intro i hi he; have hi0 := hi; have hi := hi; have he := he; (try dsimp only [NoK] at hi he); first | exact he.elim | omega | (have := hF i hi0; omega))
                          replace HB13 := HB13.keep k116 (by intro h; (try dsimp only at h); first | omega)
                          replace HS20 := HS20.keep k116 (by intro i _ hi he; (try dsimp only [NoK, AllB] at hi he); first | exact hi.elim | exact he.elim | omega | (rcases hi with hi | hi <;> omega) | (rcases he with he | he <;> omega))
                          replace HB5 := HX116
                          clear HX116
                          try simp only [List.set_cons_zero, List.set_cons_succ, setAt, List.take_zero, List.take_succ_cons, List.drop_zero, List.drop_succ_cons, List.nil_append, List.cons_append, List.append_nil, List.length_cons, List.length_nil, Nat.zero_add, Nat.reduceAdd, List.drop_nil] at HB5
                          refine l_nil ?_
                          refine n_blk ?_
                          refine n_then ?_
                          refine wp_reg (by decide +kernel) ?_
                          refine l_v (v_move (t := .int _ _) rfl) ?_
                          refine l_v (v_add rfl rfl (by first | exact wr_i64 (by omega) (by omega) | rfl)) ?_
                          refine l_v (v_assign (t := .int _ _) rfl) ?_
                          refine l_nil ?_
                          refine n_then ?_
                          obtain ⟨cs2, HB6, HT6⟩ : ∃ l, Blk w116 b24 l 48 ∧ RfC w116 (fun i => n2 ≤ i) l (updS S3 (4 : Nat) (c9, (c10, xs, nx))) := ⟨_, HB5, (HT5.mono (F' := fun i => n2 ≤ i) (fun i _ h => h.1)).put (c := 4) (n := c9) (a := (c10, xs, nx)) (by decide) (tAn_mk (HS20.mono fun k _ h => by omega) (HS18.mono fun k _ h => by omega) hi10)⟩
                          refine ⟨(i + 1, l5, cs2, updS S3 (4 : Nat) (c9, (c10, xs, nx))), _, rfl, by (repeat (first | exact Off.of_over _ _ _ | refine Off.upd ?_ (by decide) _ | refine Off.overs ?_ (by decide) _)), ⟨by first | rfl | exact congrArg (Value.int _) (by omega) | (simp; done), trivial⟩, ⟨E, EL1, ?_⟩, ?_⟩
                          · skip
                            exact ⟨.inr (by omega), hok9, hl5, hS9, HRp, HB6, HT6⟩
                          · (dsimp only; omega)
  · skip
    have hlt := dfalse hlt
    have hcnt : ∀ S, TbOk S → tbW S = l → 0 ≤ c6 ∧ lp = [] ∧ S3 = S := by
      intro S hS h
      obtain ⟨e1, e2⟩ := hS3 S hS h
      have e3 := (hini S hS h).2
      have e4 : (ksS S).length ≤ i := by omega
      refine ⟨by omega, by rw [e2, posL_end e4], ?_⟩
      rw [e1, List.take_of_length_le e4, resS_all hS]
    by_cases hneg : c6 < 0
    · skip
      refine c_exit ?_
      refine x_then ?_
      refine x_then ?_
      refine x_hit ?_
      refine n_then ?_
      refine c_seq ?_
      refine c_seq ?_
      refine wp_regd (NoK) (by kernel_rfl) (by decide +kernel) (by decide +kernel) ?_
      refine rt_v (fun vals w hR hd => v_move (t := .int _ _) rfl) ?_
      refine rt_v (fun vals w hR hd => OpVat.as (b := true) (v_lss (hd 0 rfl) rfl) (decide_eq_true hneg)) ?_
      refine rt_v (fun vals w hR hd => v_move (t := .bool _) (hd 1 rfl)) ?_
      refine rt_skip (u := .bool true) rfl (fun vals w hd => hd 2 rfl) rfl ?_
      refine rt_skip (u := .bool true) rfl (fun vals w hd => hd 2 rfl) rfl ?_
      refine rt_skip (u := .bool true) rfl (fun vals w hd => hd 2 rfl) rfl ?_
      refine rt_v (fun vals w hR hd => v_orC (hd 2 rfl)) ?_
      refine rt_v (fun vals w hR hd => v_move (t := .bool _) (hd 6 rfl)) ?_
      refine rt_skip (u := .bool true) rfl (fun vals w hd => hd 7 rfl) rfl ?_
      refine rt_skip (u := .bool true) rfl (fun vals w hd => hd 7 rfl) rfl ?_
      refine rt_skip (u := .bool true) rfl (fun vals w hd => hd 7 rfl) rfl ?_
      refine rt_skip (u := .bool true) rfl (fun vals w hd => hd 7 rfl) rfl ?_
      refine rt_skip (u := .bool true) rfl (fun vals w hd => hd 7 rfl) rfl ?_
      refine rt_skip (u := .bool true) rfl (fun vals w hd => hd 7 rfl) rfl ?_
      refine rt_v (fun vals w hR hd => v_orC (hd 7 rfl)) ?_
      refine rt_nil (fun w117 e117 => ?_)
      rintro _ rfl _ rfl _ rfl _ rfl _ rfl _ rfl _ rfl _ rfl _ rfl _ rfl _ rfl _ rfl _ rfl _ rfl _ rfl
      have zs_e117 := e117.size
      replace E := E.trans (Ext.keep e117)
      replace HS1 := HS1.ext e117
      replace HRp := HRp.ext e117
      replace HB5 := HB5.ext e117
      replace HT5 := HT5.ext e117
      refine fin_nil ?_
      refine n_then ?_
      refine c_cond rfl rfl (fun hq5 => ?_) (fun hq5 => ?_)
      · skip
        refine c_seq ?_
        refine wp_reg (by decide +kernel) ?_
        refine l_v (v_assign rfl) ?_
        refine l_v (v_assign rfl) ?_
        refine l_nil ?_
        refine n_then ?_
        refine c_ret ?_
        refine r_then ?_
        refine ret2v rfl (by decide) (by decide) (show _ = (Value.pointer _) from rfl) (show _ = (Value.int _ _) from rfl) ?_
        refine ⟨.inr ⟨rfl, fun S hS h => ?_⟩, E⟩
        have := (hcnt S hS h).1
        omega
      · skip
        cases hq5
    · skip
      by_cases hlen : 0 < lp.length
      · skip
        refine c_exit ?_
        refine x_then ?_
        refine x_then ?_
        refine x_hit ?_
        refine n_then ?_
        refine c_seq ?_
        refine c_seq ?_
        refine wp_regd (NoK) (by kernel_rfl) (by decide +kernel) (by decide +kernel) ?_
        refine rt_v (fun vals w hR hd => v_move (t := .int _ _) rfl) ?_
        refine rt_v (fun vals w hR hd => OpVat.as (b := false) (v_lss (hd 0 rfl) rfl) (decide_eq_false hneg)) ?_
        refine rt_v (fun vals w hR hd => v_move (t := .bool _) (hd 1 rfl)) ?_
        refine rt_hv rfl (fun vals w hd => hd 2 rfl) (fun vals w hR hd => v_move (t := .pointer _) rfl) ?_
        refine rt_hvf rfl (fun vals w hd => hd 2 rfl) (fun vals w hR hd => to_f1 (by kernel_rfl) (hd 3 rfl) (refLeft_c (HRp.ext hR))) ?_
        refine rt_hv rfl (fun vals w hd => hd 2 rfl) (fun vals w hR hd => OpVat.as (b := true) (v_gtr (hd 4 rfl) rfl) (decide_eq_true (by omega))) ?_
        refine rt_v (fun vals w hR hd => v_orT (hd 2 rfl) (hd 5 rfl)) ?_
        refine rt_v (fun vals w hR hd => v_move (t := .bool _) (hd 6 rfl)) ?_
        refine rt_skip (u := .bool true) rfl (fun vals w hd => hd 7 rfl) rfl ?_
        refine rt_skip (u := .bool true) rfl (fun vals w hd => hd 7 rfl) rfl ?_
        refine rt_skip (u := .bool true) rfl (fun vals w hd => hd 7 rfl) rfl ?_
        refine rt_skip (u := .bool true) rfl (fun vals w hd => hd 7 rfl) rfl ?_
        refine rt_skip (u := .bool true) rfl (fun vals w hd => hd 7 rfl) rfl ?_
        refine rt_skip (u := .bool true) rfl (fun vals w hd => hd 7 rfl) rfl ?_
        refine rt_v (fun vals w hR hd => v_orC (hd 7 rfl)) ?_
        refine rt_nil (fun w118 e118 => ?_)
        rintro _ rfl _ rfl _ rfl _ rfl _ rfl _ rfl _ rfl _ rfl _ rfl _ rfl _ rfl _ rfl _ rfl _ rfl _ rfl
        have zs_e118 := e118.size
        replace E := E.trans (Ext.keep e118)
        replace HS1 := HS1.ext e118
        replace HRp := HRp.ext e118
        replace HB5 := HB5.ext e118
        replace HT5 := HT5.ext e118
        refine fin_nil ?_
        refine n_then ?_
        refine c_cond rfl rfl (fun hq5 => ?_) (fun hq5 => ?_)
        · skip
          refine c_seq ?_
          refine wp_reg (by decide +kernel) ?_
          refine l_v (v_assign rfl) ?_
          refine l_v (v_assign rfl) ?_
          refine l_nil ?_
          refine n_then ?_
          refine c_ret ?_
          refine r_then ?_
          refine ret2v rfl (by decide) (by decide) (show _ = (Value.pointer _) from rfl) (show _ = (Value.int _ _) from rfl) ?_
          refine ⟨.inr ⟨rfl, fun S hS h => ?_⟩, E⟩
          rw [(hcnt S hS h).2.1] at hlen
          simp at hlen
        · skip
          cases hq5
      · skip
        by_cases heq : tbW S3 = l
        · skip
          refine c_exit ?_
          refine x_then ?_
          refine x_then ?_
          refine x_hit ?_
          refine n_then ?_
          refine c_seq ?_
          refine c_seq ?_
          refine wp_regd (NoK) (by kernel_rfl) (by decide +kernel) (by decide +kernel) ?_
          refine rt_v (fun vals w hR hd => v_move (t := .int _ _) rfl) ?_
          refine rt_v (fun vals w hR hd => OpVat.as (b := false) (v_lss (hd 0 rfl) rfl) (decide_eq_false hneg)) ?_
          refine rt_v (fun vals w hR hd => v_move (t := .bool _) (hd 1 rfl)) ?_
          refine rt_hv rfl (fun vals w hd => hd 2 rfl) (fun vals w hR hd => v_move (t := .pointer _) rfl) ?_
          refine rt_hvf rfl (fun vals w hd => hd 2 rfl) (fun vals w hR hd => to_f1 (by kernel_rfl) (hd 3 rfl) (refLeft_c (HRp.ext hR))) ?_
          refine rt_hv rfl (fun vals w hd => hd 2 rfl) (fun vals w hR hd => OpVat.as (b := false) (v_gtr (hd 4 rfl) rfl) (decide_eq_false (by omega))) ?_
          refine rt_v (fun vals w hR hd => v_orT (hd 2 rfl) (hd 5 rfl)) ?_
          refine rt_v (fun vals w hR hd => v_move (t := .bool _) (hd 6 rfl)) ?_
          refine rt_hv rfl (fun vals w hd => hd 7 rfl) (fun vals w hR hd => v_move (t := .pointer _) rfl) ?_
          refine rt_hto (fun v W => Bv W AllB v (tbW S3)) (fun v w w' h k => h.ext k) rfl (fun vals w hd => hd 7 rfl) (fun vals w hR hd => to_f1 (by kernel_rfl) (hd 8 rfl) (CallsR.mono (refTBytes_c (HB5.ext hR) (HT5.ext hR) hok3) fun v w1 ⟨⟨_, _, _, h⟩, e⟩ => ⟨e, h.allB⟩)) ?_
          refine rt_hv rfl (fun vals w hd => hd 7 rfl) (fun vals w hR hd => v_b2s (et := 5) (by kernel_rfl) (by kernel_rfl) (by kernel_rfl) rfl (hd 9 rfl)) ?_
          refine rt_hv rfl (fun vals w hd => hd 7 rfl) (fun vals w hR hd => v_move (t := .slice _ _ _) rfl) ?_
          refine rt_hv rfl (fun vals w hd => hd 7 rfl) (fun vals w hR hd => v_b2s (et := 5) (by kernel_rfl) (by kernel_rfl) (by kernel_rfl) (hd 11 rfl) (by first | exact (HS1.ext hR) | assumption)) ?_
          refine rt_hv rfl (fun vals w hd => hd 7 rfl) (fun vals w hR hd => OpVat.as (b := false) (v_sne (hd 10 rfl) (hd 12 rfl)) (by simp [heq])) ?_
          refine rt_v (fun vals w hR hd => v_orT (hd 7 rfl) (hd 13 rfl)) ?_
          refine rt_nil (fun w119 e119 => ?_)
          rintro _ rfl _ rfl _ rfl _ rfl _ rfl _ rfl _ rfl _ rfl _ rfl v129 HS129 _ rfl _ rfl _ rfl _ rfl _ rfl
          have zs_e119 := e119.size
          replace E := E.trans (Ext.keep e119)
          replace HS1 := HS1.ext e119
          replace HRp := HRp.ext e119
          replace HB5 := HB5.ext e119
          replace HT5 := HT5.ext e119
          refine fin_nil ?_
          refine n_then ?_
          refine c_cond rfl rfl (fun hq5 => ?_) (fun hq5 => ?_)
          · skip
            cases hq5
          · skip
            refine c_skip ?_
            refine n_then ?_
            refine c_seq ?_
            refine wp_reg (by decide +kernel) ?_
            refine l_v (v_move (t := .pointer _) rfl) ?_
            refine l_v (v_assign (t := .pointer _) rfl) ?_
            refine l_v (v_assign rfl) ?_
            refine l_nil ?_
            refine n_then ?_
            refine c_ret ?_
            refine ret2v rfl (by decide) (by decide) (show _ = (Value.pointer _) from rfl) (show _ = (Value.int _ _) from rfl) ?_
            exact ⟨.inl ⟨b24, cells, S3, rfl, by omega, HB5, HT5.mono (fun k _ h => by omega), hok3, heq⟩, E⟩
        · skip
          refine c_exit ?_
          refine x_then ?_
          refine x_then ?_
          refine x_hit ?_
          refine n_then ?_
          refine c_seq ?_
          refine c_seq ?_
          refine wp_regd (NoK) (by kernel_rfl) (by decide +kernel) (by decide +kernel) ?_
          refine rt_v (fun vals w hR hd => v_move (t := .int _ _) rfl) ?_
          refine rt_v (fun vals w hR hd => OpVat.as (b := false) (v_lss (hd 0 rfl) rfl) (decide_eq_false hneg)) ?_
          refine rt_v (fun vals w hR hd => v_move (t := .bool _) (hd 1 rfl)) ?_
          refine rt_hv rfl (fun vals w hd => hd 2 rfl) (fun vals w hR hd => v_move (t := .pointer _) rfl) ?_
          refine rt_hvf rfl (fun vals w hd => hd 2 rfl) (fun vals w hR hd => to_f1 (by kernel_rfl) (hd 3 rfl) (refLeft_c (HRp.ext hR))) ?_
          refine rt_hv rfl (fun vals w hd => hd 2 rfl) (fun vals w hR hd => OpVat.as (b := false) (v_gtr (hd 4 rfl) rfl) (decide_eq_false (by omega))) ?_
          refine rt_v (fun vals w hR hd => v_orT (hd 2 rfl) (hd 5 rfl)) ?_
          refine rt_v (fun vals w hR hd => v_move (t := .bool _) (hd 6 rfl)) ?_
          refine rt_hv rfl (fun vals w hd => hd 7 rfl) (fun vals w hR hd => v_move (t := .pointer _) rfl) ?_
          refine rt_hto (fun v W => Bv W AllB v (tbW S3)) (fun v w w' h k => h.ext k) rfl (fun vals w hd => hd 7 rfl) (fun vals w hR hd => to_f1 (by kernel_rfl) (hd 8 rfl) (CallsR.mono (refTBytes_c (HB5.ext hR) (HT5.ext hR) hok3) fun v w1 ⟨⟨_, _, _, h⟩, e⟩ => ⟨e, h.allB⟩)) ?_
          refine rt_hv rfl (fun vals w hd => hd 7 rfl) (fun vals w hR hd => v_b2s (et := 5) (by kernel_rfl) (by kernel_rfl) (by kernel_rfl) rfl (hd 9 rfl)) ?_
          refine rt_hv rfl (fun vals w hd => hd 7 rfl) (fun vals w hR hd => v_move (t := .slice _ _ _) rfl) ?_
          refine rt_hv rfl (fun vals w hd => hd 7 rfl) (fun vals w hR hd => v_b2s (et := 5) (by kernel_rfl) (by kernel_rfl) (by kernel_rfl) (hd 11 rfl) (by first | exact (HS1.ext hR) | assumption)) ?_
          refine rt_hv rfl (fun vals w hd => hd 7 rfl) (fun vals w hR hd => OpVat.as (b := true) (v_sne (hd 10 rfl) (hd 12 rfl)) (by simp [heq])) ?_
          refine rt_v (fun vals w hR hd => v_orT (hd 7 rfl) (hd 13 rfl)) ?_
          refine rt_nil (fun w120 e120 => ?_)
          rintro _ rfl _ rfl _ rfl _ rfl _ rfl _ rfl _ rfl _ rfl _ rfl v129 HS129 _ rfl _ rfl _ rfl _ rfl _ rfl
          have zs_e120 := e120.size
          replace E := E.trans (Ext.keep e120)
          replace HS1 := HS1.ext e120
          replace HRp := HRp.ext e120
          replace HB5 := HB5.ext e120
          replace HT5 := HT5.ext e120
          refine fin_nil ?_
          refine n_then ?_
          refine c_cond rfl rfl (fun hq5 => ?_) (fun hq5 => ?_)
          · skip
            refine c_seq ?_
            refine wp_reg (by decide +kernel) ?_
            refine l_v (v_assign rfl) ?_
            refine l_v (v_assign rfl) ?_
            refine l_nil ?_
            refine n_then ?_
            refine c_ret ?_
            refine r_then ?_
            refine ret2v rfl (by decide) (by decide) (show _ = (Value.pointer _) from rfl) (show _ = (Value.int _ _) from rfl) ?_
            refine ⟨.inr ⟨rfl, fun S hS h => ?_⟩, E⟩
            rw [(hcnt S hS h).2.2] at heq
            exact heq h
          · skip
            cases hq5
end Go.Proofs.Ytlhanmlpionomaa
