/- A part of the proof: steps and lemmas for the walks through the given program. -/
import Derived.Test.YtaidpdjlchnonaaN47
namespace Go.Proofs.Ytaidpdjlchnonaa
open Go.Vc
set_option linter.unusedVariables false
set_option linter.unusedSimpArgs false
set_option maxRecDepth 100000

theorem DropA_c {w : World} {G : Nat → Prop} {b c : Nat} {a : Option Addr} {ms : List Ms} {lost : Int} {n : Int} (HB1 : Blk w b [.bool true, .slice a ms.length c, .int .i64 lost] 68) (HS1 : SlV tMs w G (.slice a ms.length c) ms) (hG : ∀ i, G i → i ≠ b) (hml : ms.length ≤ 256) (hmay : ∀ m ∈ ms, mayN m = true) (hlo : 0 ≤ lost ∧ lost ≤ 4611686018427387904) : CallsR Try.prog 23 #[.pointer (some ⟨b, 0, none⟩), .int .i64 n] w (fun o w' => (∃ e, o = .int .i64 e) ∧ Keep (fun i => i = b) w w') := by
  by_cases hv : 0 ≤ n ∧ n < (ms.length : Int)
  · obtain ⟨m, hxm, _⟩ := getE (l := ms) (i := n.toNat) (by omega)
    exact CallsR.mono (Drop_c HB1 HS1 hG hml hv.1 hxm (hmay m (List.mem_of_getElem? hxm)) hlo) fun o w' h => ⟨⟨_, h.1⟩, h.2.2⟩
  · exact CallsR.mono (Drop_no HB1 (by omega)) fun o w' h => ⟨⟨_, h.1⟩, Ext.keep h.2⟩
set_option maxHeartbeats 8000000 in
theorem do6_c {w : World} {n0 bw br lost : Nat} {ms : List Ms} {r : StpV} {a7 : Option Addr} {c7 : Nat} (hW : WR w n0 bw br ms lost) (HS7 : SlV tMs w (fun i => i < n0) (.slice a7 r.2.2.length c7) r.2.2) (hlo : lost ≤ 100000) (hk : r.1 = 6) : CallsR Try.prog 29 #[.pointer (some ⟨bw, 0, none⟩), .pointer (some ⟨br, 0, none⟩), .agg #[.int .i64 r.1, .int .i64 r.2.1, .slice a7 r.2.2.length c7]] w (DoP n0 bw br lost w) := by
  obtain ⟨hne, hb0, hr0, ⟨a1, c1, HB1, HS1⟩, ⟨a2, c2, HB2, HS2⟩, hmay, hlen⟩ := hW
  obtain ⟨n1, hn1⟩ : ∃ n, n = w.heap.size := ⟨_, rfl⟩
  have zl1 := HB1.lt
  have zl2 := HB2.lt
  replace HS1 := HS1.mono (F' := fun i => i ≠ bw ∧ i ≠ br ∧ i < n1) fun b hb h => ⟨h.1, h.2, by omega⟩
  replace HS2 := HS2.mono (F' := fun i => i ≠ bw ∧ i ≠ br ∧ i < n1) fun b hb h => ⟨h.1, h.2, by omega⟩
  have hm2 := HS2.len_max
  refine enter 281 Try.func29 rfl rfl (by simp) ?_
  refine c_seq ?_
  have E := Keep.refl (K := fun i => i = bw ∨ i = br) w
  refine wp_reg (by decide +kernel) ?_
  refine l_to (to_box (show _ = (Value.agg _) from rfl) ?_)
  rintro b5 w5 zb5 HB5 e5 z5
  have zs_e5 := e5.size
  replace E := E.trans (Ext.keep e5)
  replace HB1 := HB1.ext e5
  replace HB2 := HB2.ext e5
  replace HS1 := HS1.ext e5
  replace HS2 := HS2.ext e5
  try simp only [Value.cells] at HB5
  refine l_v (v_assign rfl) ?_
  refine l_v (v_assign rfl) ?_
  refine l_v (v_assign rfl) ?_
  refine l_nil ?_
  refine n_then ?_
  refine c_seq ?_
  refine wp_regd (NoK) (by kernel_rfl) (by decide +kernel) (by decide +kernel) ?_
  refine rt_v (fun vals w hR hd => v_fieldAddr (off := 1) (ft := 3) (by kernel_rfl) rfl) ?_
  refine rt_v (fun vals w hR hd => v_load (by kernel_rfl) (hd 0 rfl) (by first | exact (HB5.ext hR).pv 1 _ rfl | exact (HB2.ext hR).pv 1 _ rfl | exact (HB1.ext hR).pv 1 _ rfl | assumption)) ?_
  refine rt_v (fun vals w hR hd => v_geq (hd 1 rfl) rfl) ?_
  refine rt_v (fun vals w hR hd => v_move (t := .bool _) (hd 2 rfl)) ?_
  refine rt_g1 rfl (fun vals w hd => hd 3 rfl) (fun vals w hR hd hG => v_fieldAddr (off := 1) (ft := 3) (by kernel_rfl) rfl) ?_
  refine rt_g1 rfl (fun vals w hd => hd 3 rfl) (fun vals w hR hd hG => v_load (by kernel_rfl) (gd hG (hd 4 rfl)) (by first | exact (HB5.ext hR).pv 1 _ rfl | exact (HB2.ext hR).pv 1 _ rfl | exact (HB1.ext hR).pv 1 _ rfl | assumption)) ?_
  refine rt_g1 rfl (fun vals w hd => hd 3 rfl) (fun vals w hR hd hG => v_move (t := .pointer _) rfl) ?_
  refine rt_g1 rfl (fun vals w hd => hd 3 rfl) (fun vals w hR hd hG => v_nilCheck (gd hG (hd 6 rfl))) ?_
  refine rt_g1 rfl (fun vals w hd => hd 3 rfl) (fun vals w hR hd hG => v_fieldAddr (off := 0) (ft := 41) (by kernel_rfl) (gd hG (hd 7 rfl))) ?_
  refine rt_g1 rfl (fun vals w hd => hd 3 rfl) (fun vals w hR hd hG => v_load (by kernel_rfl) (gd hG (hd 8 rfl)) (by first | exact (HB5.ext hR).pv 0 _ rfl | exact (HB2.ext hR).pv 0 _ rfl | exact (HB1.ext hR).pv 0 _ rfl | assumption)) ?_
  refine rt_g1 rfl (fun vals w hd => hd 3 rfl) (fun vals w hR hd hG => v_len (et := 26) (by kernel_rfl) (gd hG (hd 9 rfl))) ?_
  refine rt_g1 rfl (fun vals w hd => hd 3 rfl) (fun vals w hR hd hG => v_lss (gd hG (hd 5 rfl)) (gd hG (hd 10 rfl))) ?_
  refine rt_v (fun vals w hR hd => v_and (hd 3 rfl) (hd 11 rfl)) ?_
  refine rt_v (fun vals w hR hd => v_assign (t := .bool _) (hd 12 rfl)) ?_
  refine rt_nil (fun w101 e101 => ?_)
  rintro _ rfl _ rfl _ rfl _ rfl _ rfl _ rfl _ rfl _ rfl _ rfl _ rfl _ rfl _ rfl _ rfl _ rfl
  have zs_e101 := e101.size
  replace E := E.trans (Ext.keep e101)
  replace HB1 := HB1.ext e101
  replace HB2 := HB2.ext e101
  replace HS1 := HS1.ext e101
  replace HS2 := HS2.ext e101
  replace HB5 := HB5.ext e101
  refine fin_nil ?_
  refine n_then ?_
  refine c_seq ?_
  refine c_seq ?_
  refine wp_reg (by decide +kernel) ?_
  refine l_v (v_fieldAddr (off := 0) (ft := 3) (by kernel_rfl) rfl) ?_
  refine l_v (v_load (by kernel_rfl) rfl (by first | exact HB5.pv 0 _ rfl | exact HB2.pv 0 _ rfl | exact HB1.pv 0 _ rfl | assumption)) ?_
  refine l_nil ?_
  refine n_then ?_
  refine c_block ?_
  refine c_seq ?_
  refine wp_reg (by decide +kernel) ?_
  refine l_v (v_eql rfl rfl) ?_
  refine l_v (v_assign (t := .bool _) rfl) ?_
  refine l_nil ?_
  refine n_then ?_
  refine c_cond rfl rfl (fun hk1 => ?_) (fun hk1 => ?_)
  · skip
    exact absurd (dtrue hk1) (by omega)
  · skip
    refine c_seq ?_
    refine wp_reg (by decide +kernel) ?_
    refine l_v (v_eql rfl rfl) ?_
    refine l_v (v_assign (t := .bool _) rfl) ?_
    refine l_nil ?_
    refine n_then ?_
    refine c_cond rfl rfl (fun hk2 => ?_) (fun hk2 => ?_)
    · skip
      exact absurd (dtrue hk2) (by omega)
    · skip
      refine c_seq ?_
      refine wp_reg (by decide +kernel) ?_
      refine l_v (v_eql rfl rfl) ?_
      refine l_v (v_assign (t := .bool _) rfl) ?_
      refine l_nil ?_
      refine n_then ?_
      refine c_cond rfl rfl (fun hk3 => ?_) (fun hk3 => ?_)
      · skip
        exact absurd (dtrue hk3) (by omega)
      · skip
        refine c_seq ?_
        refine wp_reg (by decide +kernel) ?_
        refine l_v (v_eql rfl rfl) ?_
        refine l_v (v_assign (t := .bool _) rfl) ?_
        refine l_nil ?_
        refine n_then ?_
        refine c_cond rfl rfl (fun hk4 => ?_) (fun hk4 => ?_)
        · skip
          exact absurd (dtrue hk4) (by omega)
        · skip
          refine c_seq ?_
          refine wp_reg (by decide +kernel) ?_
          refine l_v (v_eql rfl rfl) ?_
          refine l_v (v_assign (t := .bool _) rfl) ?_
          refine l_nil ?_
          refine n_then ?_
          refine c_cond rfl rfl (fun hk5 => ?_) (fun hk5 => ?_)
          · skip
            exact absurd (dtrue hk5) (by omega)
          · skip
            refine c_seq ?_
            refine wp_reg (by decide +kernel) ?_
            refine l_v (v_eql rfl rfl) ?_
            refine l_v (v_assign (t := .bool _) rfl) ?_
            refine l_nil ?_
            refine n_then ?_
            refine c_cond rfl rfl (fun hk6 => ?_) (fun hk6 => ?_)
            · skip
              have hvm : ∀ x ∈ [voteM 1 2], mayN x = true := fun x hx => by rw [List.mem_singleton.1 hx]; simp [mayN, wiB, numB, kNm, kRows, voteM]
              refine c_seq ?_
              refine wp_reg (by decide +kernel) ?_
              refine l_v (v_move (t := .pointer _) rfl) ?_
              refine l_to (to_f1 (by kernel_rfl) (show _ = (Value.pointer _) from rfl) (CallsR.mono (wayCopy_c HB1 HS1 (by omega)) ?_))
              rintro _ w8 ⟨⟨b8, a8, c8, rfl, hb8, HB8, HS8⟩, e8⟩
              have zs_e8 := e8.size
              replace HS8 := HS8.mono (F' := fun i => i ≠ bw ∧ i ≠ br ∧ i ≠ b8 ∧ i < w8.heap.size) fun b hb h => by omega
              have zl8 := HB8.lt
              replace E := E.trans (Ext.keep e8)
              replace HB1 := HB1.ext e8
              replace HB2 := HB2.ext e8
              replace HS1 := HS1.ext e8
              replace HS2 := HS2.ext e8
              replace HB5 := HB5.ext e8
              refine l_v (v_assign (t := .pointer _) rfl) ?_
              refine l_nil ?_
              refine n_then ?_
              refine c_seq ?_
              refine wp_reg (by decide +kernel) ?_
              refine l_v (v_move (t := .pointer _) rfl) ?_
              refine l_v (v_pneq (et := 68) (by kernel_rfl) rfl rfl) ?_
              refine l_v (v_move (t := .bool _) rfl) ?_
              refine l_g1 rfl rfl (fun hG => v_move (t := .pointer _) rfl) ?_
              refine l_g1 rfl rfl (fun hG => v_move (t := .pointer _) rfl) ?_
              refine l_g1f rfl rfl (fun hG => to_f2 (by kernel_rfl) (gd hG rfl) (gd hG rfl) (netSameWay_c HB8 HS8 HB1 HS1)) ?_
              rintro w102 e102
              have zs_e102 := e102.size
              replace E := E.trans (Ext.keep e102)
              replace HB1 := HB1.ext e102
              replace HB2 := HB2.ext e102
              replace HS1 := HS1.ext e102
              replace HS2 := HS2.ext e102
              replace HB5 := HB5.ext e102
              replace HB8 := HB8.ext e102
              replace HS8 := HS8.ext e102
              refine l_v (v_and rfl rfl) ?_
              refine l_v (v_assign (t := .bool _) rfl) ?_
              refine l_nil ?_
              refine n_then ?_
              refine c_seq ?_
              refine wp_reg (by decide +kernel) ?_
              refine l_v (v_move (t := .pointer _) rfl) ?_
              refine l_to (to_f2 (by kernel_rfl) (show _ = (Value.int _ _) from rfl) (show _ = (Value.int _ _) from rfl) (CallsR.mono (vote_c) ?_))
              rintro _ w103 ⟨rfl, e103⟩
              have zs_e103 := e103.size
              replace E := E.trans (Ext.keep e103)
              replace HB1 := HB1.ext e103
              replace HB2 := HB2.ext e103
              replace HS1 := HS1.ext e103
              replace HS2 := HS2.ext e103
              replace HB5 := HB5.ext e103
              replace HB8 := HB8.ext e103
              replace HS8 := HS8.ext e103
              refine l_to (to_slice1 (t := tMs) (et := 26) (bytes := 120) (by kernel_rfl) (by decide) (show _ = (Value.agg _) from rfl) (vote_rep (F := NoK) (by decide) (by decide)) ?_)
              rintro b20 w20 zb20 HO20 e20 z20
              have zs_e20 := e20.size
              replace E := E.trans (Ext.keep e20)
              replace HB1 := HB1.ext e20
              replace HB2 := HB2.ext e20
              replace HS1 := HS1.ext e20
              replace HS2 := HS2.ext e20
              replace HB5 := HB5.ext e20
              replace HB8 := HB8.ext e20
              replace HS8 := HS8.ext e20
              have zo_HO20 := fun (b : Nat) h => HO20.own_lt (b := b) h
              refine l_to (to_f2 (by kernel_rfl) (show _ = (Value.pointer _) from rfl) (show _ = (Value.slice _ _ _) from rfl) (CallsR.mono (SendA_c HB1 HS1 HO20.view (fun i h => h.1) hlen (by simp) (by omega)) ?_))
              rintro _ w21 ⟨rfl, ⟨a21, c21, HB1, HS21⟩, k21⟩
              have zs_k21 := k21.size
              replace HS21 := HS21.mono (F' := fun i => i ≠ bw ∧ i < w21.heap.size) fun b hb h => by omega
              replace E := E.step k21 (by intro i hi he; (try dsimp only [NoK] at hi he ⊢); first | exact he.elim | omega | exact he)
              replace HB2 := HB2.keep k21 (by intro h; (try dsimp only at h); first | omega)
              replace HS1 := HS1.keep k21 (by intro i _ hi he; (try dsimp only [NoK, AllB] at hi he); first | exact hi.elim | exact he.elim | omega | (rcases hi with hi | hi <;> omega) | (rcases he with he | he <;> omega))
              replace HS2 := HS2.keep k21 (by intro i _ hi he; (try dsimp only [NoK, AllB] at hi he); first | exact hi.elim | exact he.elim | omega | (rcases hi with hi | hi <;> omega) | (rcases he with he | he <;> omega))
              replace HB5 := HB5.keep k21 (by intro h; (try dsimp only at h); first | omega)
              replace HB8 := HB8.keep k21 (by intro h; (try dsimp only at h); first | omega)
              replace HS8 := HS8.keep k21 (by intro i _ hi he; (try dsimp only [NoK, AllB] at hi he); first | exact hi.elim | exact he.elim | omega | (rcases hi with hi | hi <;> omega) | (rcases he with he | he <;> omega))
              replace HO20 := HO20.keep k21 (by intro i ho he; have he0 := he; have ho0 := ho; (try dsimp only [NoK] at he); (try simp only [Value.ownBlock, Option.some.injEq, reduceCtorEq] at ho); (try simp only [Value.ownBlock, Option.some.injEq, reduceCtorEq] at he); first | exact he.elim | exact ho.elim | omega | (have := zo_HO20 _ ho0; omega)) (by intro i _ hi _ he; have he0 := he; have hi := hi; have he := he; (try dsimp only [NoK, AllB] at hi he); (try simp only [Value.ownBlock, Option.some.injEq, reduceCtorEq] at he); all_goals first | exact hi.elim | exact hi.1.elim | exact he.elim | omega | (rcases hi with hi | hi <;> omega) | (rcases he with he | he <;> omega))
              refine l_nil ?_
              refine n_then ?_
              refine c_seq ?_
              refine wp_reg (by decide +kernel) ?_
              refine l_v (v_move (t := .pointer _) rfl) ?_
              refine l_to (to_f2 (by kernel_rfl) (show _ = (Value.pointer _) from rfl) (show _ = (Value.int _ _) from rfl) (CallsR.mono (DropA_c HB1 HS21 (fun i h => h.1) (sdL_len hlen) (sdL_may hmay) (by have := sdN_le ms [voteM 1 2]; have : [voteM 1 2].length = 1 := rfl; omega)) ?_))
              rintro _ w22 ⟨⟨er22, rfl⟩, k22⟩
              have zs_k22 := k22.size
              replace E := E.step k22 (by intro i hi he; (try dsimp only [NoK] at hi he ⊢); first | exact he.elim | omega | exact he)
              replace HB2 := HB2.keep k22 (by intro h; (try dsimp only at h); first | omega)
              replace HS2 := HS2.keep k22 (by intro i _ hi he; (try dsimp only [NoK, AllB] at hi he); first | exact hi.elim | exact he.elim | omega | (rcases hi with hi | hi <;> omega) | (rcases he with he | he <;> omega))
              replace HB5 := HB5.keep k22 (by intro h; (try dsimp only at h); first | omega)
              replace HB8 := HB8.keep k22 (by intro h; (try dsimp only at h); first | omega)
              replace HS8 := HS8.keep k22 (by intro i _ hi he; (try dsimp only [NoK, AllB] at hi he); first | exact hi.elim | exact he.elim | omega | (rcases hi with hi | hi <;> omega) | (rcases he with he | he <;> omega))
              refine l_nil ?_
              refine n_then ?_
              refine c_seq ?_
              refine wp_reg (by decide +kernel) ?_
              refine l_v (v_move (t := .pointer _) rfl) ?_
              refine l_v (v_move (t := .pointer _) rfl) ?_
              refine l_v (v_move (t := .bool _) rfl) ?_
              refine l_v (v_assign (t := .pointer _) rfl) ?_
              refine l_v (v_assign (t := .pointer _) rfl) ?_
              refine l_v (v_assign (t := .bool _) rfl) ?_
              refine l_nil ?_
              refine n_then ?_
              refine c_ret ?_
              refine r_blk ?_
              refine r_then ?_
              refine ret3v rfl (by decide) (by decide) (by decide) (show _ = (Value.pointer _) from rfl) (show _ = (Value.pointer _) from rfl) (show _ = (Value.bool _) from rfl) ?_
              exact ⟨⟨b8, ms, lost, by simp, ⟨by omega, by omega, hr0, ⟨a8, c8, HB8, HS8.mono fun i _ h => by omega⟩, ⟨a2, c2, HB2, HS2.mono fun i _ h => by omega⟩, hmay, hlen⟩, by omega⟩, E⟩
            · skip
              exact absurd hk (dfalse hk6)
set_option maxHeartbeats 8000000 in
theorem do0_c {w : World} {n0 bw br lost : Nat} {ms : List Ms} {r : StpV} {a7 : Option Addr} {c7 : Nat} (hW : WR w n0 bw br ms lost) (HS7 : SlV tMs w (fun i => i < n0) (.slice a7 r.2.2.length c7) r.2.2) (hlo : lost ≤ 100000) (hk : ¬ r.1 = 1 ∧ ¬ r.1 = 2 ∧ ¬ r.1 = 3 ∧ ¬ r.1 = 4 ∧ ¬ r.1 = 5 ∧ ¬ r.1 = 6) : CallsR Try.prog 29 #[.pointer (some ⟨bw, 0, none⟩), .pointer (some ⟨br, 0, none⟩), .agg #[.int .i64 r.1, .int .i64 r.2.1, .slice a7 r.2.2.length c7]] w (DoP n0 bw br lost w) := by
  obtain ⟨hne, hb0, hr0, ⟨a1, c1, HB1, HS1⟩, ⟨a2, c2, HB2, HS2⟩, hmay, hlen⟩ := hW
  obtain ⟨n1, hn1⟩ : ∃ n, n = w.heap.size := ⟨_, rfl⟩
  have zl1 := HB1.lt
  have zl2 := HB2.lt
  replace HS1 := HS1.mono (F' := fun i => i ≠ bw ∧ i ≠ br ∧ i < n1) fun b hb h => ⟨h.1, h.2, by omega⟩
  replace HS2 := HS2.mono (F' := fun i => i ≠ bw ∧ i ≠ br ∧ i < n1) fun b hb h => ⟨h.1, h.2, by omega⟩
  have hm2 := HS2.len_max
  refine enter 281 Try.func29 rfl rfl (by simp) ?_
  refine c_seq ?_
  have E := Keep.refl (K := fun i => i = bw ∨ i = br) w
  refine wp_reg (by decide +kernel) ?_
  refine l_to (to_box (show _ = (Value.agg _) from rfl) ?_)
  rintro b5 w5 zb5 HB5 e5 z5
  have zs_e5 := e5.size
  replace E := E.trans (Ext.keep e5)
  replace HB1 := HB1.ext e5
  replace HB2 := HB2.ext e5
  replace HS1 := HS1.ext e5
  replace HS2 := HS2.ext e5
  try simp only [Value.cells] at HB5
  refine l_v (v_assign rfl) ?_
  refine l_v (v_assign rfl) ?_
  refine l_v (v_assign rfl) ?_
  refine l_nil ?_
  refine n_then ?_
  refine c_seq ?_
  refine wp_regd (NoK) (by kernel_rfl) (by decide +kernel) (by decide +kernel) ?_
  refine rt_v (fun vals w hR hd => v_fieldAddr (off := 1) (ft := 3) (by kernel_rfl) rfl) ?_
  refine rt_v (fun vals w hR hd => v_load (by kernel_rfl) (hd 0 rfl) (by first | exact (HB5.ext hR).pv 1 _ rfl | exact (HB2.ext hR).pv 1 _ rfl | exact (HB1.ext hR).pv 1 _ rfl | assumption)) ?_
  refine rt_v (fun vals w hR hd => v_geq (hd 1 rfl) rfl) ?_
  refine rt_v (fun vals w hR hd => v_move (t := .bool _) (hd 2 rfl)) ?_
  refine rt_g1 rfl (fun vals w hd => hd 3 rfl) (fun vals w hR hd hG => v_fieldAddr (off := 1) (ft := 3) (by kernel_rfl) rfl) ?_
  refine rt_g1 rfl (fun vals w hd => hd 3 rfl) (fun vals w hR hd hG => v_load (by kernel_rfl) (gd hG (hd 4 rfl)) (by first | exact (HB5.ext hR).pv 1 _ rfl | exact (HB2.ext hR).pv 1 _ rfl | exact (HB1.ext hR).pv 1 _ rfl | assumption)) ?_
  refine rt_g1 rfl (fun vals w hd => hd 3 rfl) (fun vals w hR hd hG => v_move (t := .pointer _) rfl) ?_
  refine rt_g1 rfl (fun vals w hd => hd 3 rfl) (fun vals w hR hd hG => v_nilCheck (gd hG (hd 6 rfl))) ?_
  refine rt_g1 rfl (fun vals w hd => hd 3 rfl) (fun vals w hR hd hG => v_fieldAddr (off := 0) (ft := 41) (by kernel_rfl) (gd hG (hd 7 rfl))) ?_
  refine rt_g1 rfl (fun vals w hd => hd 3 rfl) (fun vals w hR hd hG => v_load (by kernel_rfl) (gd hG (hd 8 rfl)) (by first | exact (HB5.ext hR).pv 0 _ rfl | exact (HB2.ext hR).pv 0 _ rfl | exact (HB1.ext hR).pv 0 _ rfl | assumption)) ?_
  refine rt_g1 rfl (fun vals w hd => hd 3 rfl) (fun vals w hR hd hG => v_len (et := 26) (by kernel_rfl) (gd hG (hd 9 rfl))) ?_
  refine rt_g1 rfl (fun vals w hd => hd 3 rfl) (fun vals w hR hd hG => v_lss (gd hG (hd 5 rfl)) (gd hG (hd 10 rfl))) ?_
  refine rt_v (fun vals w hR hd => v_and (hd 3 rfl) (hd 11 rfl)) ?_
  refine rt_v (fun vals w hR hd => v_assign (t := .bool _) (hd 12 rfl)) ?_
  refine rt_nil (fun w101 e101 => ?_)
  rintro _ rfl _ rfl _ rfl _ rfl _ rfl _ rfl _ rfl _ rfl _ rfl _ rfl _ rfl _ rfl _ rfl _ rfl
  have zs_e101 := e101.size
  replace E := E.trans (Ext.keep e101)
  replace HB1 := HB1.ext e101
  replace HB2 := HB2.ext e101
  replace HS1 := HS1.ext e101
  replace HS2 := HS2.ext e101
  replace HB5 := HB5.ext e101
  refine fin_nil ?_
  refine n_then ?_
  refine c_seq ?_
  refine c_seq ?_
  refine wp_reg (by decide +kernel) ?_
  refine l_v (v_fieldAddr (off := 0) (ft := 3) (by kernel_rfl) rfl) ?_
  refine l_v (v_load (by kernel_rfl) rfl (by first | exact HB5.pv 0 _ rfl | exact HB2.pv 0 _ rfl | exact HB1.pv 0 _ rfl | assumption)) ?_
  refine l_nil ?_
  refine n_then ?_
  refine c_block ?_
  refine c_seq ?_
  refine wp_reg (by decide +kernel) ?_
  refine l_v (v_eql rfl rfl) ?_
  refine l_v (v_assign (t := .bool _) rfl) ?_
  refine l_nil ?_
  refine n_then ?_
  refine c_cond rfl rfl (fun hk1 => ?_) (fun hk1 => ?_)
  · skip
    exact absurd (dtrue hk1) (by omega)
  · skip
    refine c_seq ?_
    refine wp_reg (by decide +kernel) ?_
    refine l_v (v_eql rfl rfl) ?_
    refine l_v (v_assign (t := .bool _) rfl) ?_
    refine l_nil ?_
    refine n_then ?_
    refine c_cond rfl rfl (fun hk2 => ?_) (fun hk2 => ?_)
    · skip
      exact absurd (dtrue hk2) (by omega)
    · skip
      refine c_seq ?_
      refine wp_reg (by decide +kernel) ?_
      refine l_v (v_eql rfl rfl) ?_
      refine l_v (v_assign (t := .bool _) rfl) ?_
      refine l_nil ?_
      refine n_then ?_
      refine c_cond rfl rfl (fun hk3 => ?_) (fun hk3 => ?_)
      · skip
        exact absurd (dtrue hk3) (by omega)
      · skip
        refine c_seq ?_
        refine wp_reg (by decide +kernel) ?_
        refine l_v (v_eql rfl rfl) ?_
        refine l_v (v_assign (t := .bool _) rfl) ?_
        refine l_nil ?_
        refine n_then ?_
        refine c_cond rfl rfl (fun hk4 => ?_) (fun hk4 => ?_)
        · skip
          exact absurd (dtrue hk4) (by omega)
        · skip
          refine c_seq ?_
          refine wp_reg (by decide +kernel) ?_
          refine l_v (v_eql rfl rfl) ?_
          refine l_v (v_assign (t := .bool _) rfl) ?_
          refine l_nil ?_
          refine n_then ?_
          refine c_cond rfl rfl (fun hk5 => ?_) (fun hk5 => ?_)
          · skip
            exact absurd (dtrue hk5) (by omega)
          · skip
            refine c_seq ?_
            refine wp_reg (by decide +kernel) ?_
            refine l_v (v_eql rfl rfl) ?_
            refine l_v (v_assign (t := .bool _) rfl) ?_
            refine l_nil ?_
            refine n_then ?_
            refine c_cond rfl rfl (fun hk6 => ?_) (fun hk6 => ?_)
            · skip
              exact absurd (dtrue hk6) (by omega)
            · skip
              refine c_skip ?_
              refine n_blk ?_
              refine n_then ?_
              refine c_seq ?_
              refine wp_reg (by decide +kernel) ?_
              refine l_v (v_move (t := .pointer _) rfl) ?_
              refine l_v (v_move (t := .pointer _) rfl) ?_
              refine l_v (v_assign (t := .pointer _) rfl) ?_
              refine l_v (v_assign (t := .pointer _) rfl) ?_
              refine l_v (v_assign rfl) ?_
              refine l_nil ?_
              refine n_then ?_
              refine c_ret ?_
              refine ret3v rfl (by decide) (by decide) (by decide) (show _ = (Value.pointer _) from rfl) (show _ = (Value.pointer _) from rfl) (show _ = (Value.bool _) from rfl) ?_
              exact ⟨⟨bw, ms, lost, by simp, ⟨hne, hb0, hr0, ⟨a1, c1, HB1, HS1.mono fun i _ h => by omega⟩, ⟨_, _, HB2, HS2.mono fun i _ h => by omega⟩, hmay, hlen⟩, by omega⟩, E⟩
end Go.Proofs.Ytaidpdjlchnonaa
