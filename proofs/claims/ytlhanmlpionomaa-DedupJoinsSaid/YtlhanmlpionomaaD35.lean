/- A part of the proof: steps and lemmas for the walks through the given program. -/
import Derived.Test.YtlhanmlpionomaaDh
namespace Go.Proofs.Ytlhanmlpionomaa
open Go.Vc
set_option linter.unusedVariables false
set_option linter.unusedSimpArgs false
set_option maxRecDepth 100000

theorem TRead_j {w : World} {F : Nat → Prop} {v : Value} {l : List UInt8} {S : TbS} (hS : TbOk S) (h : tbW S = l) (HS1 : Bv w F v l) (hl : l.length ≤ 1000000) : CallsR Try.prog 35 #[v] w (fun o w' => (∃ b bm, o = .tuple #[.pointer (some ⟨b, 0, none⟩), .int .i64 0] ∧ w.heap.size ≤ b ∧ w.heap.size ≤ bm ∧ b ≠ bm ∧ Blk w' b [.map (some bm)] 65 ∧ TbI w' (fun i => w.heap.size ≤ i ∧ i ≠ bm) bm S) ∧ Ext w w') := by
  refine CallsR.mono (TRead_c HS1 hl) fun o w' h1 => ⟨?_, h1.2⟩
  rcases h1.1 with ⟨b, bm, S', g1, g2, g3, g4, g5, g6, g7, g8⟩ | ⟨_, g⟩
  · obtain rfl : S' = S := (tbW_inj g7 hS).1 (g8.trans h.symm)
    exact ⟨b, bm, g1, g2, g3, g4, g5, g6⟩
  · exact absurd h (g S hS)
theorem numS_join (S O : TbS) (c : Int) : numS (joinS S O) c = if numS S c < numS O c then numS O c else numS S c := by
  unfold joinS
  by_cases h : numS S c < numS O c
  · rw [if_pos h]
    show (match (if numS S c < numS O c then O c else S c) with | some x => x.1 | none => 0) = _
    rw [if_pos h]; rfl
  · rw [if_neg h]
    show (match (if numS S c < numS O c then O c else S c) with | some x => x.1 | none => 0) = _
    rw [if_neg h]; rfl
theorem join_sym (S O : TbS) (c : Int) : numS (joinS O S) c = numS (joinS S O) c := by
  rw [numS_join, numS_join]
  split <;> split <;> omega
theorem join_max (S O : TbS) (c : Int) : (if numS O c > numS S c then numS O c else numS S c) = numS (joinS S O) c := by
  rw [numS_join]
theorem joinS_again (S O : TbS) : joinS (joinS S O) O = joinS S O := by
  funext c
  show (if numS (joinS S O) c < numS O c then O c else joinS S O c) = joinS S O c
  rw [numS_join]
  by_cases h : numS S c < numS O c
  · rw [if_pos h, if_neg (by omega)]
  · rw [if_neg h, if_neg h]
theorem tbW_len {S : TbS} (hok : TbOk S) : (tbW S).length ≤ 16010 := by rw [← accK_end S]; exact accK_len hok 4
set_option maxHeartbeats 8000000 in
theorem DedupJoins_c {w : World} {F G : Nat → Prop} {v u : Value} {l l2 : List DsV} (HS1 : SlV tDs w F v l) (HS2 : SlV tDs w G u l2) : CallsR Try.prog 9 #[v, u] w (fun o w' => o = .bool true ∧ Ext w w') := by
  obtain ⟨a0, c0, rfl⟩ := HS1.shape
  obtain ⟨a1, c1, rfl⟩ := HS2.shape
  refine enter 141 Try.func9 rfl rfl (by simp) ?_
  refine c_seq ?_
  have E := Keep.refl (K := NoK) w
  replace HS1 := HS1.all
  replace HS2 := HS2.all
  refine wp_reg (by decide +kernel) ?_
  refine l_v (v_assign rfl) ?_
  refine l_nil ?_
  refine n_then ?_
  refine c_seq ?_
  refine c_seq ?_
  refine wp_reg (by decide +kernel) ?_
  refine l_to (to_f0 (by kernel_rfl) (CallsR.mono (known_c) ?_))
  rintro _ w101 ⟨rfl, e101⟩
  have zs_e101 := e101.size
  replace E := E.trans (Ext.keep e101)
  replace HS1 := HS1.ext e101
  replace HS2 := HS2.ext e101
  refine l_v (v_not rfl) ?_
  refine l_nil ?_
  refine n_then ?_
  refine c_cond rfl rfl (fun hk => ?_) (fun hk => ?_)
  · skip
    cases hk
  · skip
    refine c_skip ?_
    refine n_then ?_
    refine c_seq ?_
    refine c_seq ?_
    refine wp_reg (by decide +kernel) ?_
    refine l_v (v_move (t := .slice _ _ _) rfl) ?_
    refine l_to (to_f1 (by kernel_rfl) (show _ = (Value.slice _ _ _) from rfl) (CallsR.mono (much_c HS1) ?_))
    rintro _ w102 ⟨rfl, e102⟩
    have zs_e102 := e102.size
    replace E := E.trans (Ext.keep e102)
    replace HS1 := HS1.ext e102
    replace HS2 := HS2.ext e102
    refine l_v (v_move (t := .bool _) rfl) ?_
    refine l_g1 rfl rfl (fun hG => v_move (t := .slice _ _ _) rfl) ?_
    refine l_g1f rfl rfl (fun hG => to_f1 (by kernel_rfl) (gd hG rfl) (much_c HS2)) ?_
    rintro w103 e103
    have zs_e103 := e103.size
    replace E := E.trans (Ext.keep e103)
    replace HS1 := HS1.ext e103
    replace HS2 := HS2.ext e103
    refine l_v (v_or rfl rfl) ?_
    refine l_nil ?_
    refine n_then ?_
    refine c_cond rfl rfl (fun hm => ?_) (fun hm => ?_)
    · skip
      refine c_seq ?_
      refine wp_reg (by decide +kernel) ?_
      refine l_v (v_assign rfl) ?_
      refine l_nil ?_
      refine n_then ?_
      refine c_ret ?_
      refine r_then ?_
      refine ret1v rfl (by decide) (show _ = (Value.bool _) from rfl) ?_
      exact ⟨rfl, E⟩
    · skip
      have hm : muchS l = false ∧ muchS l2 = false := by simpa using hm
      refine c_skip ?_
      refine n_then ?_
      refine c_seq ?_
      refine wp_reg (by decide +kernel) ?_
      refine l_v (v_move (t := .slice _ _ _) rfl) ?_
      refine l_to (to_f1 (by kernel_rfl) (show _ = (Value.slice _ _ _) from rfl) (CallsR.mono (fill_c HS1 hm.1) ?_))
      rintro _ w24 ⟨⟨b, bm, br, cells, S, rfl, hT⟩, e24⟩
      have zs_e24 := e24.size
      replace E := E.trans (Ext.keep e24)
      replace HS1 := HS1.ext e24
      replace HS2 := HS2.ext e24
      obtain ⟨hok, d1, d2, d3, d4, d5, d6, HB5, HT5, HB6, HT6⟩ := hT
      replace HT5 := HT5.mono (F' := fun i => i < w24.heap.size ∧ i ≠ bm) fun i hi h => ⟨hi, by omega⟩
      have zb5 := HB5.lt
      have zm5 := HT5.lt
      refine l_v (v_move (t := .tuple _) rfl) ?_
      refine l_v (v_extract (t := .pointer _) rfl rfl) ?_
      refine l_v (v_extract (t := .pointer _) rfl rfl) ?_
      refine l_v (v_extract (t := .bool _) rfl rfl) ?_
      refine l_v (v_assign (t := .pointer _) rfl) ?_
      refine l_v (v_assign (t := .pointer _) rfl) ?_
      refine l_v (v_assign (t := .bool _) rfl) ?_
      refine l_nil ?_
      refine n_then ?_
      refine c_seq ?_
      refine wp_reg (by decide +kernel) ?_
      refine l_v (v_move (t := .slice _ _ _) rfl) ?_
      refine l_to (to_f1 (by kernel_rfl) (show _ = (Value.slice _ _ _) from rfl) (CallsR.mono (fill_c HS2 hm.2) ?_))
      rintro _ w28 ⟨⟨b2, bm2, br2, cells2, T, rfl, hT⟩, e28⟩
      have zs_e28 := e28.size
      replace E := E.trans (Ext.keep e28)
      replace HS1 := HS1.ext e28
      replace HS2 := HS2.ext e28
      replace HB5 := HB5.ext e28
      replace HT5 := HT5.ext e28
      obtain ⟨hok2, q1, q2, q3, q4, q5, q6, HB8, HT8, HB9, HT9⟩ := hT
      replace HT8 := HT8.mono (F' := fun i => i < w28.heap.size ∧ i ≠ bm2) fun i hi h => ⟨hi, by omega⟩
      have zb8 := HB8.lt
      have zm8 := HT8.lt
      refine l_v (v_move (t := .tuple _) rfl) ?_
      refine l_v (v_extract (t := .pointer _) rfl rfl) ?_
      refine l_v (v_extract (t := .pointer _) rfl rfl) ?_
      refine l_v (v_extract (t := .bool _) rfl rfl) ?_
      refine l_v (v_assign (t := .pointer _) rfl) ?_
      refine l_v (v_assign (t := .pointer _) rfl) ?_
      refine l_v (v_assign (t := .bool _) rfl) ?_
      refine l_nil ?_
      refine n_then ?_
      refine c_seq ?_
      refine c_seq ?_
      refine wp_reg (by decide +kernel) ?_
      refine l_v (v_move (t := .bool _) rfl) ?_
      refine l_v (v_not rfl) ?_
      refine l_v (v_move (t := .bool _) rfl) ?_
      refine l_g1 rfl rfl (fun hG => v_move (t := .bool _) rfl) ?_
      refine l_g1 rfl rfl (fun hG => v_not (gd hG rfl)) ?_
      refine l_v (v_or rfl rfl) ?_
      refine l_nil ?_
      refine n_then ?_
      refine c_cond rfl rfl (fun hq => ?_) (fun hq => ?_)
      · skip
        simp at hq
      · skip
        refine c_skip ?_
        refine n_then ?_
        refine c_seq ?_
        refine wp_reg (by decide +kernel) ?_
        refine l_v (v_move (t := .pointer _) rfl) ?_
        refine l_to (to_f1 (by kernel_rfl) (show _ = (Value.pointer _) from rfl) (CallsR.mono (TCopy_c HB5 HT5 hok) ?_))
        rintro _ w52 ⟨⟨b11, m11, rfl, hb11, hm11, hn11, HB11, HT11⟩, e52⟩
        have zs_e52 := e52.size
        have zb11 := HB11.lt
        have zm11 := HT11.lt
        replace E := E.trans (Ext.keep e52)
        replace HS1 := HS1.ext e52
        replace HS2 := HS2.ext e52
        replace HB5 := HB5.ext e52
        replace HT5 := HT5.ext e52
        replace HB8 := HB8.ext e52
        replace HT8 := HT8.ext e52
        refine l_v (v_move (t := .pointer _) rfl) ?_
        refine l_to (to_f1 (by kernel_rfl) (show _ = (Value.pointer _) from rfl) (CallsR.mono (TCopy_c HB8 HT8 hok2) ?_))
        rintro _ w54 ⟨⟨b12, m12, rfl, hb12, hm12, hn12, HB12, HT12⟩, e54⟩
        have zs_e54 := e54.size
        have zb12 := HB12.lt
        have zm12 := HT12.lt
        replace E := E.trans (Ext.keep e54)
        replace HS1 := HS1.ext e54
        replace HS2 := HS2.ext e54
        replace HB5 := HB5.ext e54
        replace HT5 := HT5.ext e54
        replace HB8 := HB8.ext e54
        replace HT8 := HT8.ext e54
        replace HB11 := HB11.ext e54
        replace HT11 := HT11.ext e54
        refine l_v (v_assign (t := .pointer _) rfl) ?_
        refine l_v (v_assign (t := .pointer _) rfl) ?_
        refine l_nil ?_
        refine n_then ?_
        refine c_seq ?_
        refine c_seq ?_
        refine wp_reg (by decide +kernel) ?_
        refine l_v (v_move (t := .pointer _) rfl) ?_
        refine l_v (v_move (t := .pointer _) rfl) ?_
        refine l_to (to_f2 (by kernel_rfl) (show _ = (Value.pointer _) from rfl) (show _ = (Value.pointer _) from rfl) (CallsR.mono (TJoin_c HB11 HT11 HB8 HT8 hok hok2 (by omega) (fun i h => by omega) (fun i h => by omega)) ?_))
        rintro _ w57 ⟨⟨rfl, HT11⟩, k57⟩
        have zs_k57 := k57.size
        replace E := E.step k57 (by intro i hi he; (try dsimp only [NoK] at hi he ⊢); first | exact he.elim | omega | exact he)
        replace HS1 := HS1.keep k57 (by intro i _ hi he; (try dsimp only [NoK, AllB] at hi he); first | exact hi.elim | exact he.elim | omega | (rcases hi with hi | hi <;> omega) | (rcases he with he | he <;> omega))
        replace HS2 := HS2.keep k57 (by intro i _ hi he; (try dsimp only [NoK, AllB] at hi he); first | exact hi.elim | exact he.elim | omega | (rcases hi with hi | hi <;> omega) | (rcases he with he | he <;> omega))
        replace HB5 := HB5.keep k57 (by intro h; (try dsimp only at h); first | omega)
        replace HT5 := HT5.keep k57 (by intro i _ hi he; (try dsimp only [NoK, AllB] at hi he); first | exact hi.elim | exact he.elim | omega | (rcases hi with hi | hi <;> omega) | (rcases he with he | he <;> omega))
        replace HB8 := HB8.keep k57 (by intro h; (try dsimp only at h); first | omega)
        replace HT8 := HT8.keep k57 (by intro i _ hi he; (try dsimp only [NoK, AllB] at hi he); first | exact hi.elim | exact he.elim | omega | (rcases hi with hi | hi <;> omega) | (rcases he with he | he <;> omega))
        replace HB11 := HB11.keep k57 (by intro h; (try dsimp only at h); first | omega)
        replace HB12 := HB12.keep k57 (by intro h; (try dsimp only at h); first | omega)
        replace HT12 := HT12.keep k57 (by intro i _ hi he; (try dsimp only [NoK, AllB] at hi he); first | exact hi.elim | exact he.elim | omega | (rcases hi with hi | hi <;> omega) | (rcases he with he | he <;> omega))
        refine l_to (to_f1 (by kernel_rfl) (show _ = (Value.int _ _) from rfl) (CallsR.mono (num_c) ?_))
        rintro _ w104 ⟨rfl, e104⟩
        have zs_e104 := e104.size
        replace E := E.trans (Ext.keep e104)
        replace HS1 := HS1.ext e104
        replace HS2 := HS2.ext e104
        replace HB5 := HB5.ext e104
        replace HT5 := HT5.ext e104
        replace HB8 := HB8.ext e104
        replace HT8 := HT8.ext e104
        replace HB11 := HB11.ext e104
        replace HB12 := HB12.ext e104
        replace HT12 := HT12.ext e104
        replace HT11 := HT11.ext e104
        refine l_v (OpVat.as (b := false) (v_neq rfl rfl) rfl) ?_
        refine l_v (v_move (t := .bool _) rfl) ?_
        refine l_gt rfl rfl (OpTo.of_v (v_move (t := .pointer _) rfl) ?_)
        refine l_gt rfl rfl (OpTo.of_v (v_move (t := .pointer _) rfl) ?_)
        refine l_gt rfl rfl (to_f2 (by kernel_rfl) (show _ = (Value.pointer _) from rfl) (show _ = (Value.pointer _) from rfl) (CallsR.mono (TJoin_c HB12 HT12 HB5 HT5 hok2 hok (by omega) (fun i h => by omega) (fun i h => by omega)) ?_))
        rintro _ w63 ⟨⟨rfl, HT12⟩, k63⟩
        have zs_k63 := k63.size
        replace E := E.step k63 (by intro i hi he; (try dsimp only [NoK] at hi he ⊢); first | exact he.elim | omega | exact he)
        replace HS1 := HS1.keep k63 (by intro i _ hi he; (try dsimp only [NoK, AllB] at hi he); first | exact hi.elim | exact he.elim | omega | (rcases hi with hi | hi <;> omega) | (rcases he with he | he <;> omega))
        replace HS2 := HS2.keep k63 (by intro i _ hi he; (try dsimp only [NoK, AllB] at hi he); first | exact hi.elim | exact he.elim | omega | (rcases hi with hi | hi <;> omega) | (rcases he with he | he <;> omega))
        replace HB5 := HB5.keep k63 (by intro h; (try dsimp only at h); first | omega)
        replace HT5 := HT5.keep k63 (by intro i _ hi he; (try dsimp only [NoK, AllB] at hi he); first | exact hi.elim | exact he.elim | omega | (rcases hi with hi | hi <;> omega) | (rcases he with he | he <;> omega))
        replace HB8 := HB8.keep k63 (by intro h; (try dsimp only at h); first | omega)
        replace HT8 := HT8.keep k63 (by intro i _ hi he; (try dsimp only [NoK, AllB] at hi he); first | exact hi.elim | exact he.elim | omega | (rcases hi with hi | hi <;> omega) | (rcases he with he | he <;> omega))
        replace HB11 := HB11.keep k63 (by intro h; (try dsimp only at h); first | omega)
        replace HB12 := HB12.keep k63 (by intro h; (try dsimp only at h); first | omega)
        replace HT11 := HT11.keep k63 (by intro i _ hi he; (try dsimp only [NoK, AllB] at hi he); first | exact hi.elim | exact he.elim | omega | (rcases hi with hi | hi <;> omega) | (rcases he with he | he <;> omega))
        refine l_gt rfl rfl (to_f1 (by kernel_rfl) (show _ = (Value.int _ _) from rfl) (CallsR.mono (num_c) ?_))
        rintro _ w105 ⟨rfl, e105⟩
        have zs_e105 := e105.size
        replace E := E.trans (Ext.keep e105)
        replace HS1 := HS1.ext e105
        replace HS2 := HS2.ext e105
        replace HB5 := HB5.ext e105
        replace HT5 := HT5.ext e105
        replace HB8 := HB8.ext e105
        replace HT8 := HT8.ext e105
        replace HB11 := HB11.ext e105
        replace HB12 := HB12.ext e105
        replace HT11 := HT11.ext e105
        replace HT12 := HT12.ext e105
        refine l_gt rfl rfl (OpTo.of_v (OpVat.as (b := false) (v_neq rfl rfl) rfl) ?_)
        refine l_v (v_orT rfl rfl) ?_
        refine l_nil ?_
        refine n_then ?_
        refine c_cond rfl rfl (fun hq2 => ?_) (fun hq2 => ?_)
        · skip
          cases hq2
        · skip
          have hj1 := joinS_ok hok hok2
          have hj2 := joinS_ok hok2 hok
          refine c_skip ?_
          refine n_then ?_
          refine c_seq ?_
          refine c_seq ?_
          refine wp_reg (by decide +kernel) ?_
          refine l_v (v_assign rfl) ?_
          refine l_nil ?_
          refine n_then ?_
          refine c_block ?_
          refine c_loop (τ := Nat) [4, 13, 14, 15, 16, 17, 18, 19, 20, 21, 67, 68, 69, 70, 71, 72, 73, 74, 75, 76, 77, 78, 79, 80, 81, 82, 83, 84, 85, 86, 87, 88, 89, 90, 91, 92, 93, 94, 95, 96, 97, 98, 99, 100, 101, 102, 103, 104] (fun c => [(13, .int .i64 c)]) (fun c W => Ext w W ∧ Keep (NoK) w105 W ∧ 1 ≤ c ∧ c ≤ 5) (fun c => 5 - c) 1 (by exact ⟨rfl, trivial⟩) (by exact ⟨E, Keep.refl _, by decide, by decide⟩) ?_
          rintro c w106 j ⟨E, EL1, h1, h2⟩
          have zs_EL1 := EL1.size
          replace HS1 := HS1.ext EL1
          replace HS2 := HS2.ext EL1
          replace HB5 := HB5.ext EL1
          replace HT5 := HT5.ext EL1
          replace HB8 := HB8.ext EL1
          replace HT8 := HT8.ext EL1
          replace HB11 := HB11.ext EL1
          replace HB12 := HB12.ext EL1
          replace HT11 := HT11.ext EL1
          replace HT12 := HT12.ext EL1
          refine c_seq ?_
          refine c_seq ?_
          refine wp_reg (by decide +kernel) ?_
          refine l_v (v_move (t := .int _ _) rfl) ?_
          refine l_v (v_leq rfl rfl) ?_
          refine l_nil ?_
          refine n_then ?_
          refine c_cond rfl rfl (fun hlt => ?_) (fun hlt => ?_)
          · skip
            have hlt := dtrue hlt
            refine c_skip ?_
            refine n_then ?_
            refine c_seq ?_
            refine c_block ?_
            refine c_seq ?_
            refine wp_reg (by decide +kernel) ?_
            refine l_v (v_move (t := .pointer _) rfl) ?_
            refine l_v (v_move (t := .int _ _) rfl) ?_
            refine l_to (to_f2 (by kernel_rfl) (show _ = (Value.pointer _) from rfl) (show _ = (Value.int _ _) from rfl) (CallsR.mono (Last_c HB11 HT11 hj1) ?_))
            rintro _ w74 ⟨rfl, e74⟩
            have zs_e74 := e74.size
            replace E := E.trans (Ext.keep e74)
            replace HS1 := HS1.ext e74
            replace HS2 := HS2.ext e74
            replace HB5 := HB5.ext e74
            replace HT5 := HT5.ext e74
            replace HB8 := HB8.ext e74
            replace HT8 := HT8.ext e74
            replace HB11 := HB11.ext e74
            replace HB12 := HB12.ext e74
            replace HT11 := HT11.ext e74
            replace HT12 := HT12.ext e74
            replace EL1 := EL1.trans (Ext.keep e74)
            refine l_v (v_move (t := .tuple _) rfl) ?_
            refine l_v (v_extract (t := .int _ _) rfl rfl) ?_
            refine l_v (v_extract (t := .bool _) rfl rfl) ?_
            refine l_v (v_assign (t := .int _ _) rfl) ?_
            refine l_v (v_assign (t := .bool _) rfl) ?_
            refine l_nil ?_
            refine n_then ?_
            refine c_seq ?_
            refine wp_reg (by decide +kernel) ?_
            refine l_v (v_move (t := .pointer _) rfl) ?_
            refine l_v (v_move (t := .int _ _) rfl) ?_
            refine l_to (to_f2 (by kernel_rfl) (show _ = (Value.pointer _) from rfl) (show _ = (Value.int _ _) from rfl) (CallsR.mono (Last_c HB12 HT12 hj2) ?_))
            rintro _ w80 ⟨rfl, e80⟩
            have zs_e80 := e80.size
            replace E := E.trans (Ext.keep e80)
            replace HS1 := HS1.ext e80
            replace HS2 := HS2.ext e80
            replace HB5 := HB5.ext e80
            replace HT5 := HT5.ext e80
            replace HB8 := HB8.ext e80
            replace HT8 := HT8.ext e80
            replace HB11 := HB11.ext e80
            replace HB12 := HB12.ext e80
            replace HT11 := HT11.ext e80
            replace HT12 := HT12.ext e80
            replace EL1 := EL1.trans (Ext.keep e80)
            refine l_v (v_move (t := .tuple _) rfl) ?_
            refine l_v (v_extract (t := .int _ _) rfl rfl) ?_
            refine l_v (v_extract (t := .bool _) rfl rfl) ?_
            refine l_v (v_assign (t := .int _ _) rfl) ?_
            refine l_v (v_assign (t := .bool _) rfl) ?_
            refine l_nil ?_
            refine n_then ?_
            refine c_seq ?_
            refine wp_reg (by decide +kernel) ?_
            refine l_v (v_move (t := .pointer _) rfl) ?_
            refine l_v (v_move (t := .int _ _) rfl) ?_
            refine l_to (to_f2 (by kernel_rfl) (show _ = (Value.pointer _) from rfl) (show _ = (Value.int _ _) from rfl) (CallsR.mono (Last_c HB5 HT5 hok) ?_))
            rintro _ w86 ⟨rfl, e86⟩
            have zs_e86 := e86.size
            replace E := E.trans (Ext.keep e86)
            replace HS1 := HS1.ext e86
            replace HS2 := HS2.ext e86
            replace HB5 := HB5.ext e86
            replace HT5 := HT5.ext e86
            replace HB8 := HB8.ext e86
            replace HT8 := HT8.ext e86
            replace HB11 := HB11.ext e86
            replace HB12 := HB12.ext e86
            replace HT11 := HT11.ext e86
            replace HT12 := HT12.ext e86
            replace EL1 := EL1.trans (Ext.keep e86)
            refine l_v (v_move (t := .tuple _) rfl) ?_
            refine l_v (v_extract (t := .int _ _) rfl rfl) ?_
            refine l_v (v_extract (t := .bool _) rfl rfl) ?_
            refine l_v (v_assign (t := .int _ _) rfl) ?_
            refine l_v (v_assign (t := .bool _) rfl) ?_
            refine l_nil ?_
            refine n_then ?_
            refine c_seq ?_
            refine wp_reg (by decide +kernel) ?_
            refine l_v (v_move (t := .pointer _) rfl) ?_
            refine l_v (v_move (t := .int _ _) rfl) ?_
            refine l_to (to_f2 (by kernel_rfl) (show _ = (Value.pointer _) from rfl) (show _ = (Value.int _ _) from rfl) (CallsR.mono (Last_c HB8 HT8 hok2) ?_))
            rintro _ w92 ⟨rfl, e92⟩
            have zs_e92 := e92.size
            replace E := E.trans (Ext.keep e92)
            replace HS1 := HS1.ext e92
            replace HS2 := HS2.ext e92
            replace HB5 := HB5.ext e92
            replace HT5 := HT5.ext e92
            replace HB8 := HB8.ext e92
            replace HT8 := HT8.ext e92
            replace HB11 := HB11.ext e92
            replace HB12 := HB12.ext e92
            replace HT11 := HT11.ext e92
            replace HT12 := HT12.ext e92
            replace EL1 := EL1.trans (Ext.keep e92)
            refine l_v (v_move (t := .tuple _) rfl) ?_
            refine l_v (v_extract (t := .int _ _) rfl rfl) ?_
            refine l_v (v_extract (t := .bool _) rfl rfl) ?_
            refine l_v (v_assign (t := .int _ _) rfl) ?_
            refine l_v (v_assign (t := .bool _) rfl) ?_
            refine l_nil ?_
            refine n_then ?_
            refine c_seq ?_
            refine wp_reg (by decide +kernel) ?_
            refine l_v (v_move (t := .int _ _) rfl) ?_
            refine l_v (v_move (t := .int _ _) rfl) ?_
            refine l_v (v_neq rfl rfl) ?_
            refine l_v (v_move (t := .bool _) rfl) ?_
            refine l_g1 rfl rfl (fun hG => v_move (t := .int _ _) rfl) ?_
            refine l_g1 rfl rfl (fun hG => v_move (t := .int _ _) rfl) ?_
            refine l_g1 rfl rfl (fun hG => v_move (t := .int _ _) rfl) ?_
            refine l_g1 rfl rfl (fun hG => vmax (gd hG rfl) (gd hG rfl)) ?_
            refine l_g1 rfl rfl (fun hG => v_neq (gd hG rfl) (gd hG rfl)) ?_
            refine l_v (v_or rfl rfl) ?_
            refine l_nil ?_
            refine n_then ?_
            refine c_cond rfl rfl (fun hq3 => ?_) (fun hq3 => ?_)
            · skip
              exfalso; rw [join_sym S T, join_max S T] at hq3; simp at hq3
            · skip
              refine c_skip ?_
              refine n_blk ?_
              refine n_then ?_
              refine wp_reg (by decide +kernel) ?_
              refine l_v (v_move (t := .int _ _) rfl) ?_
              refine l_v (v_add rfl rfl (by first | exact wr_i64 (by omega) (by omega) | rfl)) ?_
              refine l_v (v_assign (t := .int _ _) rfl) ?_
              refine l_nil ?_
              refine n_then ?_
              refine ⟨c + 1, _, rfl, by (repeat (first | exact Off.of_over _ _ _ | refine Off.upd ?_ (by decide) _ | refine Off.overs ?_ (by decide) _)), ⟨by first | rfl | exact congrArg (Value.int _) (by omega) | (simp; done), trivial⟩, ⟨E, EL1, ?_⟩, ?_⟩
              · skip
                exact ⟨by omega, by omega⟩
              · (dsimp only; omega)
          · skip
            refine c_exit ?_
            refine x_then ?_
            refine x_then ?_
            refine x_hit ?_
            refine n_then ?_
            refine c_seq ?_
            refine wp_reg (by decide +kernel) ?_
            refine l_v (v_move (t := .pointer _) rfl) ?_
            refine l_to (to_f1 (by kernel_rfl) (show _ = (Value.pointer _) from rfl) (CallsR.mono (TCopy_c HB11 HT11 hj1) ?_))
            rintro _ w106 ⟨⟨b22, m22, rfl, hb22, hm22, hn22, HB22, HT22⟩, e106⟩
            have zs_e106 := e106.size
            have zb22 := HB22.lt
            have zm22 := HT22.lt
            replace E := E.trans (Ext.keep e106)
            replace HS1 := HS1.ext e106
            replace HS2 := HS2.ext e106
            replace HB5 := HB5.ext e106
            replace HT5 := HT5.ext e106
            replace HB8 := HB8.ext e106
            replace HT8 := HT8.ext e106
            replace HB11 := HB11.ext e106
            replace HB12 := HB12.ext e106
            replace HT11 := HT11.ext e106
            replace HT12 := HT12.ext e106
            refine l_v (v_assign (t := .pointer _) rfl) ?_
            refine l_nil ?_
            refine n_then ?_
            refine c_seq ?_
            refine wp_reg (by decide +kernel) ?_
            refine l_v (v_move (t := .pointer _) rfl) ?_
            refine l_v (v_move (t := .pointer _) rfl) ?_
            refine l_to (to_f2 (by kernel_rfl) (show _ = (Value.pointer _) from rfl) (show _ = (Value.pointer _) from rfl) (CallsR.mono (TJoin_c HB22 HT22 HB8 HT8 hj1 hok2 (by omega) (fun i h => by omega) (fun i h => by omega)) ?_))
            rintro _ w109 ⟨⟨rfl, HT22⟩, k109⟩
            have zs_k109 := k109.size
            rw [joinS_again] at HT22
            replace E := E.step k109 (by intro i hi he; (try dsimp only [NoK] at hi he ⊢); first | exact he.elim | omega | exact he)
            replace HS1 := HS1.keep k109 (by intro i _ hi he; (try dsimp only [NoK, AllB] at hi he); first | exact hi.elim | exact he.elim | omega | (rcases hi with hi | hi <;> omega) | (rcases he with he | he <;> omega))
            replace HS2 := HS2.keep k109 (by intro i _ hi he; (try dsimp only [NoK, AllB] at hi he); first | exact hi.elim | exact he.elim | omega | (rcases hi with hi | hi <;> omega) | (rcases he with he | he <;> omega))
            replace HB5 := HB5.keep k109 (by intro h; (try dsimp only at h); first | omega)
            replace HT5 := HT5.keep k109 (by intro i _ hi he; (try dsimp only [NoK, AllB] at hi he); first | exact hi.elim | exact he.elim | omega | (rcases hi with hi | hi <;> omega) | (rcases he with he | he <;> omega))
            replace HB8 := HB8.keep k109 (by intro h; (try dsimp only at h); first | omega)
            replace HT8 := HT8.keep k109 (by intro i _ hi he; (try dsimp only [NoK, AllB] at hi he); first | exact hi.elim | exact he.elim | omega | (rcases hi with hi | hi <;> omega) | (rcases he with he | he <;> omega))
            replace HB11 := HB11.keep k109 (by intro h; (try dsimp only at h); first | omega)
            replace HB12 := HB12.keep k109 (by intro h; (try dsimp only at h); first | omega)
            replace HT11 := HT11.keep k109 (by intro i _ hi he; (try dsimp only [NoK, AllB] at hi he); first | exact hi.elim | exact he.elim | omega | (rcases hi with hi | hi <;> omega) | (rcases he with he | he <;> omega))
            replace HT12 := HT12.keep k109 (by intro i _ hi he; (try dsimp only [NoK, AllB] at hi he); first | exact hi.elim | exact he.elim | omega | (rcases hi with hi | hi <;> omega) | (rcases he with he | he <;> omega))
            replace HB22 := HB22.keep k109 (by intro h; (try dsimp only at h); first | omega)
            refine l_nil ?_
            refine n_then ?_
            refine c_seq ?_
            refine wp_reg (by decide +kernel) ?_
            refine l_v (v_move (t := .pointer _) rfl) ?_
            refine l_to (to_f1 (by kernel_rfl) (show _ = (Value.pointer _) from rfl) (CallsR.mono (TBytes_c HB11 HT11 hj1) ?_))
            rintro _ w112 ⟨⟨a112, c112, rfl, HS112⟩, e112⟩
            have zs_e112 := e112.size
            replace E := E.trans (Ext.keep e112)
            replace HS1 := HS1.ext e112
            replace HS2 := HS2.ext e112
            replace HB5 := HB5.ext e112
            replace HT5 := HT5.ext e112
            replace HB8 := HB8.ext e112
            replace HT8 := HT8.ext e112
            replace HB11 := HB11.ext e112
            replace HB12 := HB12.ext e112
            replace HT11 := HT11.ext e112
            replace HT12 := HT12.ext e112
            replace HB22 := HB22.ext e112
            replace HT22 := HT22.ext e112
            refine l_to (to_f1 (by kernel_rfl) (show _ = (Value.slice _ _ _) from rfl) (CallsR.mono (TRead_j hj1 rfl HS112 (by have := tbW_len hj1; omega)) ?_))
            rintro _ w113 ⟨⟨b23, m23, rfl, hb23, hm23, hn23, HB23, HT23⟩, e113⟩
            have zs_e113 := e113.size
            replace E := E.trans (Ext.keep e113)
            replace HS1 := HS1.ext e113
            replace HS2 := HS2.ext e113
            replace HB5 := HB5.ext e113
            replace HT5 := HT5.ext e113
            replace HB8 := HB8.ext e113
            replace HT8 := HT8.ext e113
            replace HB11 := HB11.ext e113
            replace HB12 := HB12.ext e113
            replace HT11 := HT11.ext e113
            replace HT12 := HT12.ext e113
            replace HB22 := HB22.ext e113
            replace HT22 := HT22.ext e113
            replace HS112 := HS112.ext e113
            refine l_v (v_move (t := .tuple _) rfl) ?_
            refine l_v (v_extract (t := .pointer _) rfl rfl) ?_
            refine l_v (v_extract (t := .int _ _) rfl rfl) ?_
            refine l_v (v_assign (t := .pointer _) rfl) ?_
            refine l_v (v_assign (t := .int _ _) rfl) ?_
            refine l_nil ?_
            refine n_then ?_
            refine c_seq ?_
            refine wp_reg (by decide +kernel) ?_
            refine l_v (v_move (t := .pointer _) rfl) ?_
            refine l_v (v_move (t := .pointer _) rfl) ?_
            refine l_to (to_f2 (by kernel_rfl) (show _ = (Value.pointer _) from rfl) (show _ = (Value.pointer _) from rfl) (CallsR.mono (TSame_c HB22 HT22 HB11 HT11 hj1 hj1) ?_))
            rintro _ w107 ⟨rfl, e107⟩
            have zs_e107 := e107.size
            replace E := E.trans (Ext.keep e107)
            replace HS1 := HS1.ext e107
            replace HS2 := HS2.ext e107
            replace HB5 := HB5.ext e107
            replace HT5 := HT5.ext e107
            replace HB8 := HB8.ext e107
            replace HT8 := HT8.ext e107
            replace HB11 := HB11.ext e107
            replace HB12 := HB12.ext e107
            replace HT11 := HT11.ext e107
            replace HT12 := HT12.ext e107
            replace HB22 := HB22.ext e107
            replace HT22 := HT22.ext e107
            replace HS112 := HS112.ext e107
            replace HB23 := HB23.ext e107
            replace HT23 := HT23.ext e107
            refine l_v (v_move (t := .bool _) rfl) ?_
            refine l_g1 rfl rfl (fun hG => v_move (t := .pointer _) rfl) ?_
            refine l_g1 rfl rfl (fun hG => v_move (t := .pointer _) rfl) ?_
            refine l_g1f rfl rfl (fun hG => to_f2 (by kernel_rfl) (gd hG rfl) (gd hG rfl) (TJoinSelf_c HB11 HT11 hj1)) ?_
            rintro w108 e108
            have zs_e108 := e108.size
            replace E := E.trans (Ext.keep e108)
            replace HS1 := HS1.ext e108
            replace HS2 := HS2.ext e108
            replace HB5 := HB5.ext e108
            replace HT5 := HT5.ext e108
            replace HB8 := HB8.ext e108
            replace HT8 := HT8.ext e108
            replace HB11 := HB11.ext e108
            replace HB12 := HB12.ext e108
            replace HT11 := HT11.ext e108
            replace HT12 := HT12.ext e108
            replace HB22 := HB22.ext e108
            replace HT22 := HT22.ext e108
            replace HS112 := HS112.ext e108
            replace HB23 := HB23.ext e108
            replace HT23 := HT23.ext e108
            refine l_g1f rfl rfl (fun hG => to_f1 (by kernel_rfl) (gd hG rfl) (num_c)) ?_
            rintro w109 e109
            have zs_e109 := e109.size
            replace E := E.trans (Ext.keep e109)
            replace HS1 := HS1.ext e109
            replace HS2 := HS2.ext e109
            replace HB5 := HB5.ext e109
            replace HT5 := HT5.ext e109
            replace HB8 := HB8.ext e109
            replace HT8 := HT8.ext e109
            replace HB11 := HB11.ext e109
            replace HB12 := HB12.ext e109
            replace HT11 := HT11.ext e109
            replace HT12 := HT12.ext e109
            replace HB22 := HB22.ext e109
            replace HT22 := HT22.ext e109
            replace HS112 := HS112.ext e109
            replace HB23 := HB23.ext e109
            replace HT23 := HT23.ext e109
            refine l_g1 rfl rfl (fun hG => v_eql (gd hG rfl) rfl) ?_
            refine l_v (v_and rfl rfl) ?_
            refine l_v (v_move (t := .bool _) rfl) ?_
            refine l_g1 rfl rfl (fun hG => v_move (t := .pointer _) rfl) ?_
            refine l_g1 rfl rfl (fun hG => v_move (t := .pointer _) rfl) ?_
            refine l_g1f rfl rfl (fun hG => to_f2 (by kernel_rfl) (gd hG rfl) (gd hG rfl) (TSame_c HB22 HT22 HB11 HT11 hj1 hj1)) ?_
            rintro w110 e110
            have zs_e110 := e110.size
            replace E := E.trans (Ext.keep e110)
            replace HS1 := HS1.ext e110
            replace HS2 := HS2.ext e110
            replace HB5 := HB5.ext e110
            replace HT5 := HT5.ext e110
            replace HB8 := HB8.ext e110
            replace HT8 := HT8.ext e110
            replace HB11 := HB11.ext e110
            replace HB12 := HB12.ext e110
            replace HT11 := HT11.ext e110
            replace HT12 := HT12.ext e110
            replace HB22 := HB22.ext e110
            replace HT22 := HT22.ext e110
            replace HS112 := HS112.ext e110
            replace HB23 := HB23.ext e110
            replace HT23 := HT23.ext e110
            refine l_v (v_and rfl rfl) ?_
            refine l_v (v_move (t := .bool _) rfl) ?_
            refine l_g1 rfl rfl (fun hG => v_move (t := .int _ _) rfl) ?_
            refine l_g1f rfl rfl (fun hG => to_f1 (by kernel_rfl) (gd hG rfl) (num_c)) ?_
            rintro w111 e111
            have zs_e111 := e111.size
            replace E := E.trans (Ext.keep e111)
            replace HS1 := HS1.ext e111
            replace HS2 := HS2.ext e111
            replace HB5 := HB5.ext e111
            replace HT5 := HT5.ext e111
            replace HB8 := HB8.ext e111
            replace HT8 := HT8.ext e111
            replace HB11 := HB11.ext e111
            replace HB12 := HB12.ext e111
            replace HT11 := HT11.ext e111
            replace HT12 := HT12.ext e111
            replace HB22 := HB22.ext e111
            replace HT22 := HT22.ext e111
            replace HS112 := HS112.ext e111
            replace HB23 := HB23.ext e111
            replace HT23 := HT23.ext e111
            refine l_g1 rfl rfl (fun hG => v_eql (gd hG rfl) rfl) ?_
            refine l_v (v_and rfl rfl) ?_
            refine l_v (v_move (t := .bool _) rfl) ?_
            refine l_g1 rfl rfl (fun hG => v_move (t := .pointer _) rfl) ?_
            refine l_g1 rfl rfl (fun hG => v_move (t := .pointer _) rfl) ?_
            refine l_g1f rfl rfl (fun hG => to_f2 (by kernel_rfl) (gd hG rfl) (gd hG rfl) (TSame_c HB23 HT23 HB11 HT11 hj1 hj1)) ?_
            rintro w112 e112
            have zs_e112 := e112.size
            replace E := E.trans (Ext.keep e112)
            replace HS1 := HS1.ext e112
            replace HS2 := HS2.ext e112
            replace HB5 := HB5.ext e112
            replace HT5 := HT5.ext e112
            replace HB8 := HB8.ext e112
            replace HT8 := HT8.ext e112
            replace HB11 := HB11.ext e112
            replace HB12 := HB12.ext e112
            replace HT11 := HT11.ext e112
            replace HT12 := HT12.ext e112
            replace HB22 := HB22.ext e112
            replace HT22 := HT22.ext e112
            replace HS112 := HS112.ext e112
            replace HB23 := HB23.ext e112
            replace HT23 := HT23.ext e112
            refine l_v (v_and rfl rfl) ?_
            refine l_v (v_assign (t := .bool _) rfl) ?_
            refine l_nil ?_
            refine n_then ?_
            refine c_ret ?_
            refine ret1v rfl (by decide) (show _ = (Value.bool _) from rfl) ?_
            refine ⟨?_, E⟩
            rw [(eqT_iff hj1 hj1).2 rfl]
            rfl
end Go.Proofs.Ytlhanmlpionomaa
