/- A part of the proof: steps and lemmas for the walks through the given program. -/
import Derived.Test.YtaidpdjlchnonaaN20
namespace Go.Proofs.Ytaidpdjlchnonaa
open Go.Vc
set_option linter.unusedVariables false
set_option linter.unusedSimpArgs false
set_option maxRecDepth 100000

set_option maxHeartbeats 8000000 in
theorem NetCounts_c {w : World} {F : Nat → Prop} {v : Value} {l : List StpV} (HS1 : SlV tStp w F v l) : CallsR Try.prog 4 #[v] w (fun o w' => o = .bool true ∧ Ext w w') := by
  obtain ⟨a1, c1, rfl⟩ := HS1.shape
  have hmx := HS1.len_max
  refine enter 92 Try.func4 rfl rfl (by simp) ?_
  refine c_seq ?_
  have E := Keep.refl (K := NoK) w
  replace HS1 := HS1.all
  refine wp_reg (by decide +kernel) ?_
  refine l_v (v_assign rfl) ?_
  refine l_nil ?_
  refine n_then ?_
  refine c_seq ?_
  refine c_seq ?_
  refine wp_reg (by decide +kernel) ?_
  refine l_to (to_f0 (by kernel_rfl) (CallsR.mono (known_c) ?_))
  rintro _ w101 ⟨rfl, e101⟩
  have zs_e101 := e101.size
  replace E := E.trans (Ext.keep e101)
  replace HS1 := HS1.ext e101
  refine l_v (v_not rfl) ?_
  refine l_nil ?_
  refine n_then ?_
  refine c_cond rfl rfl (fun hk => ?_) (fun hk => ?_)
  · skip
    cases hk
  · skip
    refine c_skip ?_
    refine n_then ?_
    refine c_seq ?_
    refine c_seq ?_
    refine wp_reg (by decide +kernel) ?_
    refine l_v (v_move (t := .slice _ _ _) rfl) ?_
    refine l_to (to_f1 (by kernel_rfl) (show _ = (Value.slice _ _ _) from rfl) (CallsR.mono (much_c HS1) ?_))
    rintro _ w3 ⟨⟨bm, rfl, hmuch⟩, e3⟩
    have zs_e3 := e3.size
    replace E := E.trans (Ext.keep e3)
    replace HS1 := HS1.ext e3
    refine l_nil ?_
    refine n_then ?_
    refine c_cond rfl rfl (fun hmu => ?_) (fun hmu => ?_)
    · skip
      refine c_seq ?_
      refine wp_reg (by decide +kernel) ?_
      refine l_v (v_assign rfl) ?_
      refine l_nil ?_
      refine n_then ?_
      refine c_ret ?_
      refine r_then ?_
      refine ret1v rfl (by decide) (show _ = (Value.bool _) from rfl) ?_
      exact ⟨rfl, E⟩
    · skip
      obtain ⟨hl60, hst⟩ := hmuch hmu
      refine c_skip ?_
      refine n_then ?_
      refine c_seq ?_
      refine wp_reg (by decide +kernel) ?_
      refine l_to (to_f0 (by kernel_rfl) (CallsR.mono (New_c) ?_))
      rintro _ w4 ⟨b4, hb4, rfl, HB4, z4, e4⟩
      have zs_e4 := e4.size
      replace E := E.trans (Ext.keep e4)
      replace HS1 := HS1.ext e4
      refine l_v (v_assign (t := .pointer _) rfl) ?_
      refine l_nil ?_
      refine n_then ?_
      refine c_seq ?_
      refine c_seq ?_
      refine wp_reg (by decide +kernel) ?_
      refine l_v (v_move (t := .pointer _) rfl) ?_
      refine l_v (v_peql (et := 68) (by kernel_rfl) rfl rfl) ?_
      refine l_nil ?_
      refine n_then ?_
      refine c_cond rfl rfl (fun hn => ?_) (fun hn => ?_)
      · skip
        cases hn
      · skip
        refine c_skip ?_
        refine n_then ?_
        refine c_seq ?_
        refine wp_reg (by decide +kernel) ?_
        refine l_v (v_assign rfl) ?_
        refine l_v (v_assign rfl) ?_
        refine l_nil ?_
        refine n_then ?_
        refine c_seq ?_
        refine c_seq ?_
        refine wp_reg (by decide +kernel) ?_
        refine l_v (v_assign rfl) ?_
        refine l_nil ?_
        refine n_then ?_
        refine c_block ?_
        refine c_loop (τ := Nat × Nat × Nat × Nat × Option Addr × Nat × List Ms) [2, 4, 5, 6, 7, 8, 9, 10, 11, 19, 20, 21, 22, 23, 24, 25, 26, 27, 28, 29, 30, 31, 32, 33, 34, 35, 36, 37, 38, 39, 40, 41, 42, 43, 44, 45, 46, 47, 48, 49, 50, 51, 52, 53, 54, 55, 56, 57, 58, 59, 60, 61, 62, 63, 64, 65, 66, 67, 68, 69, 70, 71, 72, 73, 74, 75, 76, 77, 78, 79, 80, 81, 82, 83, 84, 85, 86, 87, 88, 89, 90, 91] (fun (i, inn, out, lost, a, c, ms) => [(4, .int .i64 inn), (5, .int .i64 out), (6, .int .i64 i)]) (fun (i, inn, out, lost, a, c, ms) W => Ext w W ∧ Keep (fun b => b4 ≤ b) w4 W ∧ i ≤ l.length ∧ Blk W b4 [.bool true, .slice a ms.length c, .int .i64 (lost : Nat)] 68 ∧ SlV tMs W (fun i => b4 < i ∧ i < W.heap.size) (.slice a ms.length c) ms ∧ (∀ m ∈ ms, mayN m = true) ∧ ms.length ≤ 256 ∧ inn = out + ms.length + lost ∧ inn ≤ 1000 * i) (fun (i, inn, out, lost, a, c, ms) => l.length - i) (0, 0, 0, 0, none, 0, []) (by exact ⟨rfl, rfl, rfl, trivial⟩) (by exact ⟨E, Keep.refl _, Nat.zero_le _, HB4, SlV.nil _ _ _, (fun m hm => by simp at hm), by simp, rfl, by omega⟩) ?_
        rintro ⟨i, inn, out, lost, a, c, ms⟩ w102 j ⟨E, EL1, h1, HB4, HS5, hmay, hlen, hsum, hbnd⟩
        have zs_EL1 := EL1.size
        replace HS1 := HS1.keep EL1 (by intro i _ hi he; (try dsimp only [NoK, AllB] at hi he); first | exact hi.elim | exact he.elim | omega | (rcases hi with hi | hi <;> omega) | (rcases he with he | he <;> omega))
        refine c_seq ?_
        refine c_seq ?_
        refine wp_reg (by decide +kernel) ?_
        refine l_v (v_move (t := .int _ _) rfl) ?_
        refine l_v (v_move (t := .slice _ _ _) rfl) ?_
        refine l_v (v_len (et := 43) (by kernel_rfl) rfl) ?_
        refine l_v (v_lss rfl rfl) ?_
        refine l_nil ?_
        refine n_then ?_
        refine c_cond rfl rfl (fun hlt => ?_) (fun hlt => ?_)
        · skip
          have hlt := dtrue hlt
          obtain ⟨r, hx0, hdr⟩ := getE (l := l) (i := i) (by omega)
          obtain ⟨hs1, hs2⟩ := hst r (List.mem_of_getElem? hx0)
          obtain ⟨q, cs, hq, hF, _, HPq, hr⟩ := HS1.el hx0
          subst hq
          obtain ⟨a7, c7, rfl, HS7, hle, hi1, hi2⟩ := tStp_cells hr
          refine c_skip ?_
          refine n_then ?_
          refine c_seq ?_
          refine c_block ?_
          refine c_seq ?_
          refine wp_reg (by decide +kernel) ?_
          refine l_v (v_move (t := .slice _ _ _) rfl) ?_
          refine l_v (v_move (t := .int _ _) rfl) ?_
          refine l_v (v_indexAddr (et := 43) (sz := 3) (k := i) (by kernel_rfl) (by kernel_rfl) rfl rfl (by first | rfl | omega) (by omega)) ?_
          refine l_v (v_loadA (by kernel_rfl) rfl (by first | exact HPq | exact HB4.pv | assumption) rfl) ?_
          refine l_to (to_alloc (z := (.agg #[.int .i64 0, .int .i64 0, .slice none 0 0])) (by unfold kZero; kernel_rfl) ?_)
          rintro b7 w7 zb7 HB7 e7 z7
          have zs_e7 := e7.size
          replace E := E.trans (Ext.keep e7)
          replace HS1 := HS1.ext e7
          replace HB4 := HB4.ext e7
          replace HS5 := HS5.ext e7
          replace EL1 := EL1.trans (Ext.keep e7)
          replace HPq := HPq.ext e7
          replace HS7 := HS7.ext e7
          try simp only [Value.cells] at HB7
          refine l_to (to_storeA (n := 3) rfl rfl (show _ = (Value.agg _) from rfl) (by kernel_rfl) rfl (by first | (simp [slice_one]; done) | (simp only [List.forall_mem_cons, List.cons_append, List.nil_append]; repeat' (first | exact rfl | apply And.intro | (intro u hu; cases hu; done)))) HB7 (by first | exact of_decide_eq_true rfl | (simp; done) | decide) ?_)
          rintro w103 HX103 k103 z103
          have zs_k103 := k103.size
          replace E := E.step k103 (by intro i hi he; (try dsimp only [NoK] at hi he ⊢); first | exact he.elim | omega | exact he)
          replace HS1 := HS1.keep k103 (by intro i _ hi he; (try dsimp only [NoK, AllB] at hi he); first | exact hi.elim | exact he.elim | omega | (rcases hi with hi | hi <;> omega) | (rcases he with he | he <;> omega))
          replace HB4 := HB4.keep k103 (by intro h; (try dsimp only at h); first | omega)
          replace HS5 := HS5.keep k103 (by intro i _ hi he; (try dsimp only [NoK, AllB] at hi he); first | exact hi.elim | exact he.elim | omega | (rcases hi with hi | hi <;> omega) | (rcases he with he | he <;> omega))
          replace EL1 := EL1.step k103 (by intro i hi he; (try dsimp only [NoK] at hi he ⊢); first | exact he.elim | omega | exact he)
          replace HS7 := HS7.keep k103 (by intro i _ hi he; (try dsimp only [NoK, AllB] at hi he); first | exact hi.elim | exact he.elim | omega | (rcases hi with hi | hi <;> omega) | (rcases he with he | he <;> omega))
          replace HB7 := HX103
          clear HX103
          try simp only [List.set_cons_zero, List.set_cons_succ, setAt, List.take_zero, List.take_succ_cons, List.drop_zero, List.drop_succ_cons, List.nil_append, List.cons_append, List.append_nil, List.length_cons, List.length_nil, Nat.zero_add, Nat.reduceAdd, List.drop_nil] at HB7
          refine l_nil ?_
          refine n_then ?_
          refine c_seq ?_
          refine c_seq ?_
          refine wp_reg (by decide +kernel) ?_
          refine l_v (v_fieldAddr (off := 0) (ft := 3) (by kernel_rfl) rfl) ?_
          refine l_v (v_load (by kernel_rfl) rfl (by first | exact HB7.pv 0 _ rfl | exact HB4.pv 0 _ rfl | assumption)) ?_
          refine l_nil ?_
          refine n_then ?_
          refine c_block ?_
          refine c_seq ?_
          refine wp_reg (by decide +kernel) ?_
          refine l_v (v_eql rfl rfl) ?_
          refine l_v (v_assign (t := .bool _) rfl) ?_
          refine l_nil ?_
          refine n_then ?_
          refine c_cond rfl rfl (fun hk1 => ?_) (fun hk1 => ?_)
          · skip
            by_cases hany : r.2.2.any (fun m => !mayN m) = true
            · skip
              refine c_seq ?_
              refine wp_reg (by decide +kernel) ?_
              refine l_v (v_move (t := .pointer _) rfl) ?_
              refine l_v (v_fieldAddr (off := 2) (ft := 41) (by kernel_rfl) rfl) ?_
              refine l_v (v_load (by kernel_rfl) rfl (by first | exact HB7.pv 2 _ rfl | exact HB4.pv 2 _ rfl | assumption)) ?_
              refine l_to (to_f2 (by kernel_rfl) (show _ = (Value.pointer _) from rfl) (show _ = (Value.slice _ _ _) from rfl) (CallsR.mono (Send_no HB4 HS7 hany) ?_))
              rintro _ w104 ⟨rfl, e104⟩
              have zs_e104 := e104.size
              replace E := E.trans (Ext.keep e104)
              replace HS1 := HS1.ext e104
              replace HB4 := HB4.ext e104
              replace HS5 := HS5.ext e104
              replace EL1 := EL1.trans (Ext.keep e104)
              replace HS7 := HS7.ext e104
              replace HB7 := HB7.ext e104
              refine l_v (v_move (t := .tuple _) rfl) ?_
              refine l_v (v_extract (t := .int _ _) rfl rfl) ?_
              refine l_v (v_extract (t := .int _ _) rfl rfl) ?_
              refine l_v (v_assign (t := .int _ _) rfl) ?_
              refine l_v (v_assign (t := .int _ _) rfl) ?_
              refine l_nil ?_
              refine n_then ?_
              refine c_seq ?_
              refine wp_reg (by decide +kernel) ?_
              refine l_v (v_move (t := .int _ _) rfl) ?_
              refine l_to (to_f1 (by kernel_rfl) (show _ = (Value.int _ _) from rfl) (CallsR.mono (num_c) ?_))
              rintro _ w105 ⟨rfl, e105⟩
              have zs_e105 := e105.size
              replace E := E.trans (Ext.keep e105)
              replace HS1 := HS1.ext e105
              replace HB4 := HB4.ext e105
              replace HS5 := HS5.ext e105
              replace EL1 := EL1.trans (Ext.keep e105)
              replace HS7 := HS7.ext e105
              replace HB7 := HB7.ext e105
              refine l_v (v_eql rfl rfl) ?_
              refine l_nil ?_
              refine n_then ?_
              refine c_cond rfl rfl (fun he0 => ?_) (fun he0 => ?_)
              · skip
                cases he0
              · skip
                refine c_skip ?_
                refine n_blk ?_
                refine n_then ?_
                refine c_seq ?_
                refine wp_reg (by decide +kernel) ?_
                refine l_v (v_move (t := .int _ _) rfl) ?_
                refine l_v (v_move (t := .int _ _) rfl) ?_
                refine l_v (v_move (t := .pointer _) rfl) ?_
                refine l_to (to_f1 (by kernel_rfl) (show _ = (Value.pointer _) from rfl) (CallsR.mono (Len_c HB4 HS5 hmay) ?_))
                rintro _ w106 ⟨rfl, e106⟩
                have zs_e106 := e106.size
                replace E := E.trans (Ext.keep e106)
                replace HS1 := HS1.ext e106
                replace HB4 := HB4.ext e106
                replace HS5 := HS5.ext e106
                replace EL1 := EL1.trans (Ext.keep e106)
                replace HS7 := HS7.ext e106
                replace HB7 := HB7.ext e106
                refine l_v (v_add rfl rfl (by first | exact wr_i64 (by omega) (by omega) | rfl)) ?_
                refine l_v (v_move (t := .pointer _) rfl) ?_
                refine l_to (to_f1 (by kernel_rfl) (show _ = (Value.pointer _) from rfl) (CallsR.mono (Lost_c HB4) ?_))
                rintro _ w107 ⟨rfl, e107⟩
                have zs_e107 := e107.size
                replace E := E.trans (Ext.keep e107)
                replace HS1 := HS1.ext e107
                replace HB4 := HB4.ext e107
                replace HS5 := HS5.ext e107
                replace EL1 := EL1.trans (Ext.keep e107)
                replace HS7 := HS7.ext e107
                replace HB7 := HB7.ext e107
                refine l_v (v_add rfl rfl (by first | exact wr_i64 (by omega) (by omega) | rfl)) ?_
                refine l_v (v_neq rfl rfl) ?_
                refine l_v (v_move (t := .bool _) rfl) ?_
                refine l_g1 rfl rfl (fun hG => v_move (t := .pointer _) rfl) ?_
                refine l_g1f rfl rfl (fun hG => to_f1 (by kernel_rfl) (gd hG rfl) (Len_c HB4 HS5 hmay)) ?_
                rintro w108 e108
                have zs_e108 := e108.size
                replace E := E.trans (Ext.keep e108)
                replace HS1 := HS1.ext e108
                replace HB4 := HB4.ext e108
                replace HS5 := HS5.ext e108
                replace EL1 := EL1.trans (Ext.keep e108)
                replace HS7 := HS7.ext e108
                replace HB7 := HB7.ext e108
                refine l_g1 rfl rfl (fun hG => v_gtr (gd hG rfl) rfl) ?_
                refine l_v (v_or rfl rfl) ?_
                refine l_nil ?_
                refine n_then ?_
                refine c_cond rfl rfl (fun hx => ?_) (fun hx => ?_)
                · skip
                  simp only [Bool.or_eq_true, Bool.not_eq_true', decide_eq_true_eq, decide_eq_false_iff_not] at hx; omega
                · skip
                  refine c_skip ?_
                  refine n_blk ?_
                  refine n_then ?_
                  refine wp_reg (by decide +kernel) ?_
                  refine l_v (v_move (t := .int _ _) rfl) ?_
                  refine l_v (v_add rfl rfl (by first | exact wr_i64 (by omega) (by omega) | rfl)) ?_
                  refine l_v (v_assign (t := .int _ _) rfl) ?_
                  refine l_nil ?_
                  refine n_then ?_
                  refine ⟨(i + 1, inn, out, lost, a, c, ms), _, rfl, by (repeat (first | exact Off.of_over _ _ _ | refine Off.upd ?_ (by decide) _ | refine Off.overs ?_ (by decide) _)), ⟨by first | rfl | exact congrArg (Value.int _) (by omega) | (simp; done), by first | rfl | exact congrArg (Value.int _) (by omega) | (simp; done), by first | rfl | exact congrArg (Value.int _) (by omega) | (simp; done), trivial⟩, ⟨E, EL1, ?_⟩, ?_⟩
                  · skip
                    exact ⟨by omega, HB4, HS5.mono fun i hi h => by omega, hmay, hlen, hsum, by omega⟩
                  · (dsimp only; omega)
            · skip
              refine c_seq ?_
              have hls := any_may' hany
              have hsl := sendL_len ms r.2.2
              have hsn : sendN ms r.2.2 = ms.length + r.2.2.length - 256 := rfl
              refine wp_reg (by decide +kernel) ?_
              refine l_v (v_move (t := .pointer _) rfl) ?_
              refine l_v (v_fieldAddr (off := 2) (ft := 41) (by kernel_rfl) rfl) ?_
              refine l_v (v_load (by kernel_rfl) rfl (by first | exact HB7.pv 2 _ rfl | exact HB4.pv 2 _ rfl | assumption)) ?_
              refine l_to (to_f2 (by kernel_rfl) (show _ = (Value.pointer _) from rfl) (show _ = (Value.slice _ _ _) from rfl) (CallsR.mono (Send_c HB4 HS5 HS7 (fun i h => by omega) hlen (by omega) hls (by omega)) ?_))
              rintro _ w8 ⟨rfl, ⟨a8, c8, HB4, HS8⟩, k8⟩
              have zs_k8 := k8.size
              replace HS8 := HS8.mono (F' := fun i => b4 < i ∧ i < w8.heap.size) (fun i hi h => Or.elim h (fun h => by omega) (fun h => by omega))
              replace E := E.step k8 (by intro i hi he; (try dsimp only [NoK] at hi he ⊢); first | exact he.elim | omega | exact he)
              replace HS1 := HS1.keep k8 (by intro i _ hi he; (try dsimp only [NoK, AllB] at hi he); first | exact hi.elim | exact he.elim | omega | (rcases hi with hi | hi <;> omega) | (rcases he with he | he <;> omega))
              replace HS5 := HS5.keep k8 (by intro i _ hi he; (try dsimp only [NoK, AllB] at hi he); first | exact hi.elim | exact he.elim | omega | (rcases hi with hi | hi <;> omega) | (rcases he with he | he <;> omega))
              replace EL1 := EL1.step k8 (by intro i hi he; (try dsimp only [NoK] at hi he ⊢); first | exact he.elim | omega | exact he)
              replace HS7 := HS7.keep k8 (by intro i _ hi he; (try dsimp only [NoK, AllB] at hi he); first | exact hi.elim | exact he.elim | omega | (rcases hi with hi | hi <;> omega) | (rcases he with he | he <;> omega))
              replace HB7 := HB7.keep k8 (by intro h; (try dsimp only at h); first | omega)
              refine l_v (v_move (t := .tuple _) rfl) ?_
              refine l_v (v_extract (t := .int _ _) rfl rfl) ?_
              refine l_v (v_extract (t := .int _ _) rfl rfl) ?_
              refine l_v (v_assign (t := .int _ _) rfl) ?_
              refine l_v (v_assign (t := .int _ _) rfl) ?_
              refine l_nil ?_
              refine n_then ?_
              refine c_seq ?_
              refine wp_reg (by decide +kernel) ?_
              refine l_v (v_move (t := .int _ _) rfl) ?_
              refine l_to (to_f1 (by kernel_rfl) (show _ = (Value.int _ _) from rfl) (CallsR.mono (num_c) ?_))
              rintro _ w109 ⟨rfl, e109⟩
              have zs_e109 := e109.size
              replace E := E.trans (Ext.keep e109)
              replace HS1 := HS1.ext e109
              replace EL1 := EL1.trans (Ext.keep e109)
              replace HS7 := HS7.ext e109
              replace HB7 := HB7.ext e109
              replace HB4 := HB4.ext e109
              replace HS8 := HS8.ext e109
              refine l_v (v_eql rfl rfl) ?_
              refine l_nil ?_
              refine n_then ?_
              refine c_cond rfl rfl (fun he0 => ?_) (fun he0 => ?_)
              · skip
                refine wp_reg (by decide +kernel) ?_
                refine l_v (v_move (t := .int _ _) rfl) ?_
                refine l_v (v_fieldAddr (off := 2) (ft := 41) (by kernel_rfl) rfl) ?_
                refine l_v (v_load (by kernel_rfl) rfl (by first | exact HB4.pv 2 _ rfl | exact HB7.pv 2 _ rfl | assumption)) ?_
                refine l_v (v_len (et := 26) (by kernel_rfl) rfl) ?_
                refine l_v (v_add rfl rfl (by first | exact wr_i64 (by omega) (by omega) | rfl)) ?_
                refine l_v (v_assign (t := .int _ _) rfl) ?_
                refine l_nil ?_
                refine n_blk ?_
                refine n_then ?_
                refine c_seq ?_
                refine wp_reg (by decide +kernel) ?_
                refine l_v (v_move (t := .int _ _) rfl) ?_
                refine l_v (v_move (t := .int _ _) rfl) ?_
                refine l_v (v_move (t := .pointer _) rfl) ?_
                refine l_to (to_f1 (by kernel_rfl) (show _ = (Value.pointer _) from rfl) (CallsR.mono (Len_c HB4 HS8 (sendL_may hmay hls)) ?_))
                rintro _ w110 ⟨rfl, e110⟩
                have zs_e110 := e110.size
                replace E := E.trans (Ext.keep e110)
                replace HS1 := HS1.ext e110
                replace EL1 := EL1.trans (Ext.keep e110)
                replace HS7 := HS7.ext e110
                replace HB7 := HB7.ext e110
                replace HB4 := HB4.ext e110
                replace HS8 := HS8.ext e110
                refine l_v (v_add rfl rfl (by first | exact wr_i64 (by omega) (by omega) | rfl)) ?_
                refine l_v (v_move (t := .pointer _) rfl) ?_
                refine l_to (to_f1 (by kernel_rfl) (show _ = (Value.pointer _) from rfl) (CallsR.mono (Lost_c HB4) ?_))
                rintro _ w111 ⟨rfl, e111⟩
                have zs_e111 := e111.size
                replace E := E.trans (Ext.keep e111)
                replace HS1 := HS1.ext e111
                replace EL1 := EL1.trans (Ext.keep e111)
                replace HS7 := HS7.ext e111
                replace HB7 := HB7.ext e111
                replace HB4 := HB4.ext e111
                replace HS8 := HS8.ext e111
                refine l_v (v_add rfl rfl (by first | exact wr_i64 (by omega) (by omega) | rfl)) ?_
                refine l_v (v_neq rfl rfl) ?_
                refine l_v (v_move (t := .bool _) rfl) ?_
                refine l_g1 rfl rfl (fun hG => v_move (t := .pointer _) rfl) ?_
                refine l_g1f rfl rfl (fun hG => to_f1 (by kernel_rfl) (gd hG rfl) (Len_c HB4 HS8 (sendL_may hmay hls))) ?_
                rintro w112 e112
                have zs_e112 := e112.size
                replace E := E.trans (Ext.keep e112)
                replace HS1 := HS1.ext e112
                replace EL1 := EL1.trans (Ext.keep e112)
                replace HS7 := HS7.ext e112
                replace HB7 := HB7.ext e112
                replace HB4 := HB4.ext e112
                replace HS8 := HS8.ext e112
                refine l_g1 rfl rfl (fun hG => v_gtr (gd hG rfl) rfl) ?_
                refine l_v (v_or rfl rfl) ?_
                refine l_nil ?_
                refine n_then ?_
                refine c_cond rfl rfl (fun hx => ?_) (fun hx => ?_)
                · skip
                  simp only [Bool.or_eq_true, Bool.not_eq_true', decide_eq_true_eq, decide_eq_false_iff_not] at hx; omega
                · skip
                  refine c_skip ?_
                  refine n_blk ?_
                  refine n_then ?_
                  refine wp_reg (by decide +kernel) ?_
                  refine l_v (v_move (t := .int _ _) rfl) ?_
                  refine l_v (v_add rfl rfl (by first | exact wr_i64 (by omega) (by omega) | rfl)) ?_
                  refine l_v (v_assign (t := .int _ _) rfl) ?_
                  refine l_nil ?_
                  refine n_then ?_
                  refine ⟨(i + 1, inn + r.2.2.length, out, lost + sendN ms r.2.2, a8, c8, sendL ms r.2.2), _, rfl, by (repeat (first | exact Off.of_over _ _ _ | refine Off.upd ?_ (by decide) _ | refine Off.overs ?_ (by decide) _)), ⟨by first | rfl | exact congrArg (Value.int _) (by omega) | (simp; done), by first | rfl | exact congrArg (Value.int _) (by omega) | (simp; done), by first | rfl | exact congrArg (Value.int _) (by omega) | (simp; done), trivial⟩, ⟨E, EL1, ?_⟩, ?_⟩
                  · skip
                    exact ⟨by omega, HB4, HS8.mono fun i hi h => by omega, sendL_may hmay hls, by omega, by omega, by omega⟩
                  · (dsimp only; omega)
              · skip
                cases he0
          · skip
            refine c_seq ?_
            refine wp_reg (by decide +kernel) ?_
            refine l_v (v_eql rfl rfl) ?_
            refine l_v (v_assign (t := .bool _) rfl) ?_
            refine l_nil ?_
            refine n_then ?_
            refine c_cond rfl rfl (fun hk2 => ?_) (fun hk2 => ?_)
            · skip
              by_cases hv : 0 ≤ r.2.1 ∧ r.2.1 < (ms.length : Int)
              · skip
                refine c_seq ?_
                obtain ⟨m, hxm, _⟩ := getE (l := ms) (i := r.2.1.toNat) (by omega)
                have hmm := hmay m (List.mem_of_getElem? hxm)
                have her := List.length_eraseIdx_of_lt (l := ms) (i := r.2.1.toNat) (by omega)
                refine wp_reg (by decide +kernel) ?_
                refine l_v (v_move (t := .pointer _) rfl) ?_
                refine l_v (v_fieldAddr (off := 1) (ft := 3) (by kernel_rfl) rfl) ?_
                refine l_v (v_load (by kernel_rfl) rfl (by first | exact HB7.pv 1 _ rfl | exact HB4.pv 1 _ rfl | assumption)) ?_
                refine l_to (to_f2 (by kernel_rfl) (show _ = (Value.pointer _) from rfl) (show _ = (Value.int _ _) from rfl) (CallsR.mono (Take_c HB4 HS5 (fun i h => by omega) hlen hv.1 hxm hmm) ?_))
                rintro _ w8 ⟨⟨v8, rfl, HG8⟩, ⟨a8, c8, HB4, HS8⟩, k8⟩
                have zs_k8 := k8.size
                replace HS8 := HS8.mono (F' := fun i => b4 < i ∧ i < w8.heap.size) (fun i hi h => Or.elim h (fun h => by omega) (fun h => by omega))
                obtain ⟨a18, c18, a19, c19, rfl, _, _, _⟩ := HG8.ms
                replace E := E.step k8 (by intro i hi he; (try dsimp only [NoK] at hi he ⊢); first | exact he.elim | omega | exact he)
                replace HS1 := HS1.keep k8 (by intro i _ hi he; (try dsimp only [NoK, AllB] at hi he); first | exact hi.elim | exact he.elim | omega | (rcases hi with hi | hi <;> omega) | (rcases he with he | he <;> omega))
                replace HS5 := HS5.keep k8 (by intro i _ hi he; (try dsimp only [NoK, AllB] at hi he); first | exact hi.elim | exact he.elim | omega | (rcases hi with hi | hi <;> omega) | (rcases he with he | he <;> omega))
                replace EL1 := EL1.step k8 (by intro i hi he; (try dsimp only [NoK] at hi he ⊢); first | exact he.elim | omega | exact he)
                replace HS7 := HS7.keep k8 (by intro i _ hi he; (try dsimp only [NoK, AllB] at hi he); first | exact hi.elim | exact he.elim | omega | (rcases hi with hi | hi <;> omega) | (rcases he with he | he <;> omega))
                replace HB7 := HB7.keep k8 (by intro h; (try dsimp only at h); first | omega)
                refine l_v (v_move (t := .tuple _) rfl) ?_
                refine l_v (v_extract (t := .agg _) rfl rfl) ?_
                refine l_v (v_extract (t := .int _ _) rfl rfl) ?_
                refine l_to (to_alloc (z := (.agg #[.int .i64 0, .int .i64 0, .int .i64 0, .int .i64 0, .int .i64 0, .int .i64 0, .int .i64 0, .int .i64 0, .slice none 0 0, .bool false, .slice none 0 0])) (by unfold kZero; kernel_rfl) ?_)
                rintro b10 w10 zb10 HB10 e10 z10
                have zs_e10 := e10.size
                replace E := E.trans (Ext.keep e10)
                replace HS1 := HS1.ext e10
                replace EL1 := EL1.trans (Ext.keep e10)
                replace HS7 := HS7.ext e10
                replace HB7 := HB7.ext e10
                replace HB4 := HB4.ext e10
                replace HS8 := HS8.ext e10
                try simp only [Value.cells] at HB10
                refine l_to (to_storeA (n := 11) rfl rfl (show _ = (Value.agg _) from rfl) (by kernel_rfl) rfl (by first | (simp [slice_one]; done) | (simp only [List.forall_mem_cons, List.cons_append, List.nil_append]; repeat' (first | exact rfl | apply And.intro | (intro u hu; cases hu; done)))) HB10 (by first | exact of_decide_eq_true rfl | (simp; done) | decide) ?_)
                rintro w113 HX113 k113 z113
                have zs_k113 := k113.size
                replace E := E.step k113 (by intro i hi he; (try dsimp only [NoK] at hi he ⊢); first | exact he.elim | omega | exact he)
                replace HS1 := HS1.keep k113 (by intro i _ hi he; (try dsimp only [NoK, AllB] at hi he); first | exact hi.elim | exact he.elim | omega | (rcases hi with hi | hi <;> omega) | (rcases he with he | he <;> omega))
                replace EL1 := EL1.step k113 (by intro i hi he; (try dsimp only [NoK] at hi he ⊢); first | exact he.elim | omega | exact he)
                replace HS7 := HS7.keep k113 (by intro i _ hi he; (try dsimp only [NoK, AllB] at hi he); first | exact hi.elim | exact he.elim | omega | (rcases hi with hi | hi <;> omega) | (rcases he with he | he <;> omega))
                replace HB7 := HB7.keep k113 (by intro h; (try dsimp only at h); first | omega)
                replace HB4 := HB4.keep k113 (by intro h; (try dsimp only at h); first | omega)
                replace HS8 := HS8.keep k113 (by intro i _ hi he; (try dsimp only [NoK, AllB] at hi he); first | exact hi.elim | exact he.elim | omega | (rcases hi with hi | hi <;> omega) | (rcases he with he | he <;> omega))
                replace HB10 := HX113
                clear HX113
                try simp only [List.set_cons_zero, List.set_cons_succ, setAt, List.take_zero, List.take_succ_cons, List.drop_zero, List.drop_succ_cons, List.nil_append, List.cons_append, List.append_nil, List.length_cons, List.length_nil, Nat.zero_add, Nat.reduceAdd, List.drop_nil] at HB10
                refine l_v (v_assign (t := .int _ _) rfl) ?_
                refine l_nil ?_
                refine n_then ?_
                refine c_seq ?_
                refine wp_reg (by decide +kernel) ?_
                refine l_v (v_move (t := .int _ _) rfl) ?_
                refine l_to (to_f1 (by kernel_rfl) (show _ = (Value.int _ _) from rfl) (CallsR.mono (num_c) ?_))
                rintro _ w114 ⟨rfl, e114⟩
                have zs_e114 := e114.size
                replace E := E.trans (Ext.keep e114)
                replace HS1 := HS1.ext e114
                replace EL1 := EL1.trans (Ext.keep e114)
                replace HS7 := HS7.ext e114
                replace HB7 := HB7.ext e114
                replace HB4 := HB4.ext e114
                replace HS8 := HS8.ext e114
                replace HB10 := HB10.ext e114
                refine l_v (v_eql rfl rfl) ?_
                refine l_nil ?_
                refine n_then ?_
                refine c_cond rfl rfl (fun he0 => ?_) (fun he0 => ?_)
                · skip
                  refine wp_reg (by decide +kernel) ?_
                  refine l_v (v_move (t := .int _ _) rfl) ?_
                  refine l_v (v_add rfl rfl (by first | exact wr_i64 (by omega) (by omega) | rfl)) ?_
                  refine l_v (v_assign (t := .int _ _) rfl) ?_
                  refine l_nil ?_
                  refine n_blk ?_
                  refine n_then ?_
                  refine c_seq ?_
                  refine wp_reg (by decide +kernel) ?_
                  refine l_v (v_move (t := .int _ _) rfl) ?_
                  refine l_v (v_move (t := .int _ _) rfl) ?_
                  refine l_v (v_move (t := .pointer _) rfl) ?_
                  refine l_to (to_f1 (by kernel_rfl) (show _ = (Value.pointer _) from rfl) (CallsR.mono (Len_c HB4 HS8 (erase_may hmay)) ?_))
                  rintro _ w115 ⟨rfl, e115⟩
                  have zs_e115 := e115.size
                  replace E := E.trans (Ext.keep e115)
                  replace HS1 := HS1.ext e115
                  replace EL1 := EL1.trans (Ext.keep e115)
                  replace HS7 := HS7.ext e115
                  replace HB7 := HB7.ext e115
                  replace HB4 := HB4.ext e115
                  replace HS8 := HS8.ext e115
                  replace HB10 := HB10.ext e115
                  refine l_v (v_add rfl rfl (by first | exact wr_i64 (by omega) (by omega) | rfl)) ?_
                  refine l_v (v_move (t := .pointer _) rfl) ?_
                  refine l_to (to_f1 (by kernel_rfl) (show _ = (Value.pointer _) from rfl) (CallsR.mono (Lost_c HB4) ?_))
                  rintro _ w116 ⟨rfl, e116⟩
                  have zs_e116 := e116.size
                  replace E := E.trans (Ext.keep e116)
                  replace HS1 := HS1.ext e116
                  replace EL1 := EL1.trans (Ext.keep e116)
                  replace HS7 := HS7.ext e116
                  replace HB7 := HB7.ext e116
                  replace HB4 := HB4.ext e116
                  replace HS8 := HS8.ext e116
                  replace HB10 := HB10.ext e116
                  refine l_v (v_add rfl rfl (by first | exact wr_i64 (by omega) (by omega) | rfl)) ?_
                  refine l_v (v_neq rfl rfl) ?_
                  refine l_v (v_move (t := .bool _) rfl) ?_
                  refine l_g1 rfl rfl (fun hG => v_move (t := .pointer _) rfl) ?_
                  refine l_g1f rfl rfl (fun hG => to_f1 (by kernel_rfl) (gd hG rfl) (Len_c HB4 HS8 (erase_may hmay))) ?_
                  rintro w117 e117
                  have zs_e117 := e117.size
                  replace E := E.trans (Ext.keep e117)
                  replace HS1 := HS1.ext e117
                  replace EL1 := EL1.trans (Ext.keep e117)
                  replace HS7 := HS7.ext e117
                  replace HB7 := HB7.ext e117
                  replace HB4 := HB4.ext e117
                  replace HS8 := HS8.ext e117
                  replace HB10 := HB10.ext e117
                  refine l_g1 rfl rfl (fun hG => v_gtr (gd hG rfl) rfl) ?_
                  refine l_v (v_or rfl rfl) ?_
                  refine l_nil ?_
                  refine n_then ?_
                  refine c_cond rfl rfl (fun hx => ?_) (fun hx => ?_)
                  · skip
                    simp only [Bool.or_eq_true, Bool.not_eq_true', decide_eq_true_eq, decide_eq_false_iff_not] at hx; omega
                  · skip
                    refine c_skip ?_
                    refine n_blk ?_
                    refine n_then ?_
                    refine wp_reg (by decide +kernel) ?_
                    refine l_v (v_move (t := .int _ _) rfl) ?_
                    refine l_v (v_add rfl rfl (by first | exact wr_i64 (by omega) (by omega) | rfl)) ?_
                    refine l_v (v_assign (t := .int _ _) rfl) ?_
                    refine l_nil ?_
                    refine n_then ?_
                    refine ⟨(i + 1, inn, out + 1, lost, a8, c8, ms.eraseIdx r.2.1.toNat), _, rfl, by (repeat (first | exact Off.of_over _ _ _ | refine Off.upd ?_ (by decide) _ | refine Off.overs ?_ (by decide) _)), ⟨by first | rfl | exact congrArg (Value.int _) (by omega) | (simp; done), by first | rfl | exact congrArg (Value.int _) (by omega) | (simp; done), by first | rfl | exact congrArg (Value.int _) (by omega) | (simp; done), trivial⟩, ⟨E, EL1, ?_⟩, ?_⟩
                    · skip
                      exact ⟨by omega, HB4, HS8.mono fun i hi h => by omega, erase_may hmay, by omega, by omega, by omega⟩
                    · (dsimp only; omega)
                · skip
                  cases he0
              · skip
                refine c_seq ?_
                refine wp_reg (by decide +kernel) ?_
                refine l_v (v_move (t := .pointer _) rfl) ?_
                refine l_v (v_fieldAddr (off := 1) (ft := 3) (by kernel_rfl) rfl) ?_
                refine l_v (v_load (by kernel_rfl) rfl (by first | exact HB7.pv 1 _ rfl | exact HB4.pv 1 _ rfl | assumption)) ?_
                refine l_to (to_f2 (by kernel_rfl) (show _ = (Value.pointer _) from rfl) (show _ = (Value.int _ _) from rfl) (CallsR.mono (Take_no HB4 (by omega)) ?_))
                rintro _ w8 ⟨rfl, e8⟩
                have zs_e8 := e8.size
                replace E := E.trans (Ext.keep e8)
                replace HS1 := HS1.ext e8
                replace HB4 := HB4.ext e8
                replace HS5 := HS5.ext e8
                replace EL1 := EL1.trans (Ext.keep e8)
                replace HS7 := HS7.ext e8
                replace HB7 := HB7.ext e8
                refine l_v (v_move (t := .tuple _) rfl) ?_
                refine l_v (v_extract (t := .agg _) rfl rfl) ?_
                refine l_v (v_extract (t := .int _ _) rfl rfl) ?_
                refine l_to (to_alloc (z := (.agg #[.int .i64 0, .int .i64 0, .int .i64 0, .int .i64 0, .int .i64 0, .int .i64 0, .int .i64 0, .int .i64 0, .slice none 0 0, .bool false, .slice none 0 0])) (by unfold kZero; kernel_rfl) ?_)
                rintro b10 w10 zb10 HB10 e10 z10
                have zs_e10 := e10.size
                replace E := E.trans (Ext.keep e10)
                replace HS1 := HS1.ext e10
                replace HB4 := HB4.ext e10
                replace HS5 := HS5.ext e10
                replace EL1 := EL1.trans (Ext.keep e10)
                replace HS7 := HS7.ext e10
                replace HB7 := HB7.ext e10
                try simp only [Value.cells] at HB10
                refine l_to (to_storeA (n := 11) rfl rfl (show _ = (Value.agg _) from rfl) (by kernel_rfl) rfl (by first | (simp [slice_one]; done) | (simp only [List.forall_mem_cons, List.cons_append, List.nil_append]; repeat' (first | exact rfl | apply And.intro | (intro u hu; cases hu; done)))) HB10 (by first | exact of_decide_eq_true rfl | (simp; done) | decide) ?_)
                rintro w118 HX118 k118 z118
                have zs_k118 := k118.size
                replace E := E.step k118 (by intro i hi he; (try dsimp only [NoK] at hi he ⊢); first | exact he.elim | omega | exact he)
                replace HS1 := HS1.keep k118 (by intro i _ hi he; (try dsimp only [NoK, AllB] at hi he); first | exact hi.elim | exact he.elim | omega | (rcases hi with hi | hi <;> omega) | (rcases he with he | he <;> omega))
                replace HB4 := HB4.keep k118 (by intro h; (try dsimp only at h); first | omega)
                replace HS5 := HS5.keep k118 (by intro i _ hi he; (try dsimp only [NoK, AllB] at hi he); first | exact hi.elim | exact he.elim | omega | (rcases hi with hi | hi <;> omega) | (rcases he with he | he <;> omega))
                replace EL1 := EL1.step k118 (by intro i hi he; (try dsimp only [NoK] at hi he ⊢); first | exact he.elim | omega | exact he)
                replace HS7 := HS7.keep k118 (by intro i _ hi he; (try dsimp only [NoK, AllB] at hi he); first | exact hi.elim | exact he.elim | omega | (rcases hi with hi | hi <;> omega) | (rcases he with he | he <;> omega))
                replace HB7 := HB7.keep k118 (by intro h; (try dsimp only at h); first | omega)
                replace HB10 := HX118
                clear HX118
                try simp only [List.set_cons_zero, List.set_cons_succ, setAt, List.take_zero, List.take_succ_cons, List.drop_zero, List.drop_succ_cons, List.nil_append, List.cons_append, List.append_nil, List.length_cons, List.length_nil, Nat.zero_add, Nat.reduceAdd, List.drop_nil] at HB10
                refine l_v (v_assign (t := .int _ _) rfl) ?_
                refine l_nil ?_
                refine n_then ?_
                refine c_seq ?_
                refine wp_reg (by decide +kernel) ?_
                refine l_v (v_move (t := .int _ _) rfl) ?_
                refine l_to (to_f1 (by kernel_rfl) (show _ = (Value.int _ _) from rfl) (CallsR.mono (num_c) ?_))
                rintro _ w119 ⟨rfl, e119⟩
                have zs_e119 := e119.size
                replace E := E.trans (Ext.keep e119)
                replace HS1 := HS1.ext e119
                replace HB4 := HB4.ext e119
                replace HS5 := HS5.ext e119
                replace EL1 := EL1.trans (Ext.keep e119)
                replace HS7 := HS7.ext e119
                replace HB7 := HB7.ext e119
                replace HB10 := HB10.ext e119
                refine l_v (v_eql rfl rfl) ?_
                refine l_nil ?_
                refine n_then ?_
                refine c_cond rfl rfl (fun he0 => ?_) (fun he0 => ?_)
                · skip
                  cases he0
                · skip
                  refine c_skip ?_
                  refine n_blk ?_
                  refine n_then ?_
                  refine c_seq ?_
                  refine wp_reg (by decide +kernel) ?_
                  refine l_v (v_move (t := .int _ _) rfl) ?_
                  refine l_v (v_move (t := .int _ _) rfl) ?_
                  refine l_v (v_move (t := .pointer _) rfl) ?_
                  refine l_to (to_f1 (by kernel_rfl) (show _ = (Value.pointer _) from rfl) (CallsR.mono (Len_c HB4 HS5 hmay) ?_))
                  rintro _ w120 ⟨rfl, e120⟩
                  have zs_e120 := e120.size
                  replace E := E.trans (Ext.keep e120)
                  replace HS1 := HS1.ext e120
                  replace HB4 := HB4.ext e120
                  replace HS5 := HS5.ext e120
                  replace EL1 := EL1.trans (Ext.keep e120)
                  replace HS7 := HS7.ext e120
                  replace HB7 := HB7.ext e120
                  replace HB10 := HB10.ext e120
                  refine l_v (v_add rfl rfl (by first | exact wr_i64 (by omega) (by omega) | rfl)) ?_
                  refine l_v (v_move (t := .pointer _) rfl) ?_
                  refine l_to (to_f1 (by kernel_rfl) (show _ = (Value.pointer _) from rfl) (CallsR.mono (Lost_c HB4) ?_))
                  rintro _ w121 ⟨rfl, e121⟩
                  have zs_e121 := e121.size
                  replace E := E.trans (Ext.keep e121)
                  replace HS1 := HS1.ext e121
                  replace HB4 := HB4.ext e121
                  replace HS5 := HS5.ext e121
                  replace EL1 := EL1.trans (Ext.keep e121)
                  replace HS7 := HS7.ext e121
                  replace HB7 := HB7.ext e121
                  replace HB10 := HB10.ext e121
                  refine l_v (v_add rfl rfl (by first | exact wr_i64 (by omega) (by omega) | rfl)) ?_
                  refine l_v (v_neq rfl rfl) ?_
                  refine l_v (v_move (t := .bool _) rfl) ?_
                  refine l_g1 rfl rfl (fun hG => v_move (t := .pointer _) rfl) ?_
                  refine l_g1f rfl rfl (fun hG => to_f1 (by kernel_rfl) (gd hG rfl) (Len_c HB4 HS5 hmay)) ?_
                  rintro w122 e122
                  have zs_e122 := e122.size
                  replace E := E.trans (Ext.keep e122)
                  replace HS1 := HS1.ext e122
                  replace HB4 := HB4.ext e122
                  replace HS5 := HS5.ext e122
                  replace EL1 := EL1.trans (Ext.keep e122)
                  replace HS7 := HS7.ext e122
                  replace HB7 := HB7.ext e122
                  replace HB10 := HB10.ext e122
                  refine l_g1 rfl rfl (fun hG => v_gtr (gd hG rfl) rfl) ?_
                  refine l_v (v_or rfl rfl) ?_
                  refine l_nil ?_
                  refine n_then ?_
                  refine c_cond rfl rfl (fun hx => ?_) (fun hx => ?_)
                  · skip
                    simp only [Bool.or_eq_true, Bool.not_eq_true', decide_eq_true_eq, decide_eq_false_iff_not] at hx; omega
                  · skip
                    refine c_skip ?_
                    refine n_blk ?_
                    refine n_then ?_
                    refine wp_reg (by decide +kernel) ?_
                    refine l_v (v_move (t := .int _ _) rfl) ?_
                    refine l_v (v_add rfl rfl (by first | exact wr_i64 (by omega) (by omega) | rfl)) ?_
                    refine l_v (v_assign (t := .int _ _) rfl) ?_
                    refine l_nil ?_
                    refine n_then ?_
                    refine ⟨(i + 1, inn, out, lost, a, c, ms), _, rfl, by (repeat (first | exact Off.of_over _ _ _ | refine Off.upd ?_ (by decide) _ | refine Off.overs ?_ (by decide) _)), ⟨by first | rfl | exact congrArg (Value.int _) (by omega) | (simp; done), by first | rfl | exact congrArg (Value.int _) (by omega) | (simp; done), by first | rfl | exact congrArg (Value.int _) (by omega) | (simp; done), trivial⟩, ⟨E, EL1, ?_⟩, ?_⟩
                    · skip
                      exact ⟨by omega, HB4, HS5.mono fun i hi h => by omega, hmay, hlen, hsum, by omega⟩
                    · (dsimp only; omega)
            · skip
              refine c_seq ?_
              refine wp_reg (by decide +kernel) ?_
              refine l_v (v_eql rfl rfl) ?_
              refine l_v (v_assign (t := .bool _) rfl) ?_
              refine l_nil ?_
              refine n_then ?_
              refine c_cond rfl rfl (fun hk3 => ?_) (fun hk3 => ?_)
              · skip
                by_cases hv : 0 ≤ r.2.1 ∧ r.2.1 < (ms.length : Int)
                · skip
                  obtain ⟨m, hxm, _⟩ := getE (l := ms) (i := r.2.1.toNat) (by omega)
                  have hmm := hmay m (List.mem_of_getElem? hxm)
                  have her := List.length_eraseIdx_of_lt (l := ms) (i := r.2.1.toNat) (by omega)
                  refine wp_reg (by decide +kernel) ?_
                  refine l_v (v_move (t := .pointer _) rfl) ?_
                  refine l_v (v_fieldAddr (off := 1) (ft := 3) (by kernel_rfl) rfl) ?_
                  refine l_v (v_load (by kernel_rfl) rfl (by first | exact HB7.pv 1 _ rfl | exact HB4.pv 1 _ rfl | assumption)) ?_
                  refine l_to (to_f2 (by kernel_rfl) (show _ = (Value.pointer _) from rfl) (show _ = (Value.int _ _) from rfl) (CallsR.mono (Drop_c HB4 HS5 (fun i h => by omega) hlen hv.1 hxm hmm (by omega)) ?_))
                  rintro _ w8 ⟨rfl, ⟨a8, c8, HB4, HS8⟩, k8⟩
                  have zs_k8 := k8.size
                  replace HS8 := HS8.mono (F' := fun i => b4 < i ∧ i < w8.heap.size) (fun i hi h => Or.elim h (fun h => by omega) (fun h => by omega))
                  replace E := E.step k8 (by intro i hi he; (try dsimp only [NoK] at hi he ⊢); first | exact he.elim | omega | exact he)
                  replace HS1 := HS1.keep k8 (by intro i _ hi he; (try dsimp only [NoK, AllB] at hi he); first | exact hi.elim | exact he.elim | omega | (rcases hi with hi | hi <;> omega) | (rcases he with he | he <;> omega))
                  replace HS5 := HS5.keep k8 (by intro i _ hi he; (try dsimp only [NoK, AllB] at hi he); first | exact hi.elim | exact he.elim | omega | (rcases hi with hi | hi <;> omega) | (rcases he with he | he <;> omega))
                  replace EL1 := EL1.step k8 (by intro i hi he; (try dsimp only [NoK] at hi he ⊢); first | exact he.elim | omega | exact he)
                  replace HS7 := HS7.keep k8 (by intro i _ hi he; (try dsimp only [NoK, AllB] at hi he); first | exact hi.elim | exact he.elim | omega | (rcases hi with hi | hi <;> omega) | (rcases he with he | he <;> omega))
                  replace HB7 := HB7.keep k8 (by intro h; (try dsimp only at h); first | omega)
                  refine l_nil ?_
                  refine n_blk ?_
                  refine n_then ?_
                  refine c_seq ?_
                  refine wp_reg (by decide +kernel) ?_
                  refine l_v (v_move (t := .int _ _) rfl) ?_
                  refine l_v (v_move (t := .int _ _) rfl) ?_
                  refine l_v (v_move (t := .pointer _) rfl) ?_
                  refine l_to (to_f1 (by kernel_rfl) (show _ = (Value.pointer _) from rfl) (CallsR.mono (Len_c HB4 HS8 (erase_may hmay)) ?_))
                  rintro _ w123 ⟨rfl, e123⟩
                  have zs_e123 := e123.size
                  replace E := E.trans (Ext.keep e123)
                  replace HS1 := HS1.ext e123
                  replace EL1 := EL1.trans (Ext.keep e123)
                  replace HS7 := HS7.ext e123
                  replace HB7 := HB7.ext e123
                  replace HB4 := HB4.ext e123
                  replace HS8 := HS8.ext e123
                  refine l_v (v_add rfl rfl (by first | exact wr_i64 (by omega) (by omega) | rfl)) ?_
                  refine l_v (v_move (t := .pointer _) rfl) ?_
                  refine l_to (to_f1 (by kernel_rfl) (show _ = (Value.pointer _) from rfl) (CallsR.mono (Lost_c HB4) ?_))
                  rintro _ w124 ⟨rfl, e124⟩
                  have zs_e124 := e124.size
                  replace E := E.trans (Ext.keep e124)
                  replace HS1 := HS1.ext e124
                  replace EL1 := EL1.trans (Ext.keep e124)
                  replace HS7 := HS7.ext e124
                  replace HB7 := HB7.ext e124
                  replace HB4 := HB4.ext e124
                  replace HS8 := HS8.ext e124
                  refine l_v (v_add rfl rfl (by first | exact wr_i64 (by omega) (by omega) | rfl)) ?_
                  refine l_v (v_neq rfl rfl) ?_
                  refine l_v (v_move (t := .bool _) rfl) ?_
                  refine l_g1 rfl rfl (fun hG => v_move (t := .pointer _) rfl) ?_
                  refine l_g1f rfl rfl (fun hG => to_f1 (by kernel_rfl) (gd hG rfl) (Len_c HB4 HS8 (erase_may hmay))) ?_
                  rintro w125 e125
                  have zs_e125 := e125.size
                  replace E := E.trans (Ext.keep e125)
                  replace HS1 := HS1.ext e125
                  replace EL1 := EL1.trans (Ext.keep e125)
                  replace HS7 := HS7.ext e125
                  replace HB7 := HB7.ext e125
                  replace HB4 := HB4.ext e125
                  replace HS8 := HS8.ext e125
                  refine l_g1 rfl rfl (fun hG => v_gtr (gd hG rfl) rfl) ?_
                  refine l_v (v_or rfl rfl) ?_
                  refine l_nil ?_
                  refine n_then ?_
                  refine c_cond rfl rfl (fun hx => ?_) (fun hx => ?_)
                  · skip
                    simp only [Bool.or_eq_true, Bool.not_eq_true', decide_eq_true_eq, decide_eq_false_iff_not] at hx; omega
                  · skip
                    refine c_skip ?_
                    refine n_blk ?_
                    refine n_then ?_
                    refine wp_reg (by decide +kernel) ?_
                    refine l_v (v_move (t := .int _ _) rfl) ?_
                    refine l_v (v_add rfl rfl (by first | exact wr_i64 (by omega) (by omega) | rfl)) ?_
                    refine l_v (v_assign (t := .int _ _) rfl) ?_
                    refine l_nil ?_
                    refine n_then ?_
                    refine ⟨(i + 1, inn, out, lost + 1, a8, c8, ms.eraseIdx r.2.1.toNat), _, rfl, by (repeat (first | exact Off.of_over _ _ _ | refine Off.upd ?_ (by decide) _ | refine Off.overs ?_ (by decide) _)), ⟨by first | rfl | exact congrArg (Value.int _) (by omega) | (simp; done), by first | rfl | exact congrArg (Value.int _) (by omega) | (simp; done), by first | rfl | exact congrArg (Value.int _) (by omega) | (simp; done), trivial⟩, ⟨E, EL1, ?_⟩, ?_⟩
                    · skip
                      exact ⟨by omega, HB4, HS8.mono fun i hi h => by omega, erase_may hmay, by omega, by omega, by omega⟩
                    · (dsimp only; omega)
                · skip
                  refine wp_reg (by decide +kernel) ?_
                  refine l_v (v_move (t := .pointer _) rfl) ?_
                  refine l_v (v_fieldAddr (off := 1) (ft := 3) (by kernel_rfl) rfl) ?_
                  refine l_v (v_load (by kernel_rfl) rfl (by first | exact HB7.pv 1 _ rfl | exact HB4.pv 1 _ rfl | assumption)) ?_
                  refine l_to (to_f2 (by kernel_rfl) (show _ = (Value.pointer _) from rfl) (show _ = (Value.int _ _) from rfl) (CallsR.mono (Drop_no HB4 (by omega)) ?_))
                  rintro _ w126 ⟨rfl, e126⟩
                  have zs_e126 := e126.size
                  replace E := E.trans (Ext.keep e126)
                  replace HS1 := HS1.ext e126
                  replace HB4 := HB4.ext e126
                  replace HS5 := HS5.ext e126
                  replace EL1 := EL1.trans (Ext.keep e126)
                  replace HS7 := HS7.ext e126
                  replace HB7 := HB7.ext e126
                  refine l_nil ?_
                  refine n_blk ?_
                  refine n_then ?_
                  refine c_seq ?_
                  refine wp_reg (by decide +kernel) ?_
                  refine l_v (v_move (t := .int _ _) rfl) ?_
                  refine l_v (v_move (t := .int _ _) rfl) ?_
                  refine l_v (v_move (t := .pointer _) rfl) ?_
                  refine l_to (to_f1 (by kernel_rfl) (show _ = (Value.pointer _) from rfl) (CallsR.mono (Len_c HB4 HS5 hmay) ?_))
                  rintro _ w127 ⟨rfl, e127⟩
                  have zs_e127 := e127.size
                  replace E := E.trans (Ext.keep e127)
                  replace HS1 := HS1.ext e127
                  replace HB4 := HB4.ext e127
                  replace HS5 := HS5.ext e127
                  replace EL1 := EL1.trans (Ext.keep e127)
                  replace HS7 := HS7.ext e127
                  replace HB7 := HB7.ext e127
                  refine l_v (v_add rfl rfl (by first | exact wr_i64 (by omega) (by omega) | rfl)) ?_
                  refine l_v (v_move (t := .pointer _) rfl) ?_
                  refine l_to (to_f1 (by kernel_rfl) (show _ = (Value.pointer _) from rfl) (CallsR.mono (Lost_c HB4) ?_))
                  rintro _ w128 ⟨rfl, e128⟩
                  have zs_e128 := e128.size
                  replace E := E.trans (Ext.keep e128)
                  replace HS1 := HS1.ext e128
                  replace HB4 := HB4.ext e128
                  replace HS5 := HS5.ext e128
                  replace EL1 := EL1.trans (Ext.keep e128)
                  replace HS7 := HS7.ext e128
                  replace HB7 := HB7.ext e128
                  refine l_v (v_add rfl rfl (by first | exact wr_i64 (by omega) (by omega) | rfl)) ?_
                  refine l_v (v_neq rfl rfl) ?_
                  refine l_v (v_move (t := .bool _) rfl) ?_
                  refine l_g1 rfl rfl (fun hG => v_move (t := .pointer _) rfl) ?_
                  refine l_g1f rfl rfl (fun hG => to_f1 (by kernel_rfl) (gd hG rfl) (Len_c HB4 HS5 hmay)) ?_
                  rintro w129 e129
                  have zs_e129 := e129.size
                  replace E := E.trans (Ext.keep e129)
                  replace HS1 := HS1.ext e129
                  replace HB4 := HB4.ext e129
                  replace HS5 := HS5.ext e129
                  replace EL1 := EL1.trans (Ext.keep e129)
                  replace HS7 := HS7.ext e129
                  replace HB7 := HB7.ext e129
                  refine l_g1 rfl rfl (fun hG => v_gtr (gd hG rfl) rfl) ?_
                  refine l_v (v_or rfl rfl) ?_
                  refine l_nil ?_
                  refine n_then ?_
                  refine c_cond rfl rfl (fun hx => ?_) (fun hx => ?_)
                  · skip
                    simp only [Bool.or_eq_true, Bool.not_eq_true', decide_eq_true_eq, decide_eq_false_iff_not] at hx; omega
                  · skip
                    refine c_skip ?_
                    refine n_blk ?_
                    refine n_then ?_
                    refine wp_reg (by decide +kernel) ?_
                    refine l_v (v_move (t := .int _ _) rfl) ?_
                    refine l_v (v_add rfl rfl (by first | exact wr_i64 (by omega) (by omega) | rfl)) ?_
                    refine l_v (v_assign (t := .int _ _) rfl) ?_
                    refine l_nil ?_
                    refine n_then ?_
                    refine ⟨(i + 1, inn, out, lost, a, c, ms), _, rfl, by (repeat (first | exact Off.of_over _ _ _ | refine Off.upd ?_ (by decide) _ | refine Off.overs ?_ (by decide) _)), ⟨by first | rfl | exact congrArg (Value.int _) (by omega) | (simp; done), by first | rfl | exact congrArg (Value.int _) (by omega) | (simp; done), by first | rfl | exact congrArg (Value.int _) (by omega) | (simp; done), trivial⟩, ⟨E, EL1, ?_⟩, ?_⟩
                    · skip
                      exact ⟨by omega, HB4, HS5.mono fun i hi h => by omega, hmay, hlen, hsum, by omega⟩
                    · (dsimp only; omega)
              · skip
                refine c_seq ?_
                refine wp_reg (by decide +kernel) ?_
                refine l_v (v_eql rfl rfl) ?_
                refine l_v (v_assign (t := .bool _) rfl) ?_
                refine l_nil ?_
                refine n_then ?_
                refine c_cond rfl rfl (fun hk4 => ?_) (fun hk4 => ?_)
                · skip
                  by_cases hv : 0 ≤ r.2.1 ∧ r.2.1 < (ms.length : Int)
                  · skip
                    refine c_seq ?_
                    obtain ⟨m, hxm, _⟩ := getE (l := ms) (i := r.2.1.toNat) (by omega)
                    have hmm := hmay m (List.mem_of_getElem? hxm)
                    have hls : ∀ x ∈ [m], mayN x = true := fun x hx => by rw [List.mem_singleton.1 hx]; exact hmm
                    have hsl := sendL_len ms [m]
                    have hsn : sendN ms [m] = ms.length + [m].length - 256 := rfl
                    have hs1' : [m].length = 1 := rfl
                    refine wp_reg (by decide +kernel) ?_
                    refine l_v (v_move (t := .pointer _) rfl) ?_
                    refine l_v (v_fieldAddr (off := 1) (ft := 3) (by kernel_rfl) rfl) ?_
                    refine l_v (v_load (by kernel_rfl) rfl (by first | exact HB7.pv 1 _ rfl | exact HB4.pv 1 _ rfl | assumption)) ?_
                    refine l_to (to_f2 (by kernel_rfl) (show _ = (Value.pointer _) from rfl) (show _ = (Value.int _ _) from rfl) (CallsR.mono (Double_c HB4 HS5 (fun i h => by omega) hlen hv.1 hxm hmm (by omega)) ?_))
                    rintro _ w8 ⟨rfl, ⟨a8, c8, HB4, HS8⟩, k8⟩
                    have zs_k8 := k8.size
                    replace HS8 := HS8.mono (F' := fun i => b4 < i ∧ i < w8.heap.size) (fun i hi h => Or.elim h (fun h => by omega) (fun h => by omega))
                    replace E := E.step k8 (by intro i hi he; (try dsimp only [NoK] at hi he ⊢); first | exact he.elim | omega | exact he)
                    replace HS1 := HS1.keep k8 (by intro i _ hi he; (try dsimp only [NoK, AllB] at hi he); first | exact hi.elim | exact he.elim | omega | (rcases hi with hi | hi <;> omega) | (rcases he with he | he <;> omega))
                    replace HS5 := HS5.keep k8 (by intro i _ hi he; (try dsimp only [NoK, AllB] at hi he); first | exact hi.elim | exact he.elim | omega | (rcases hi with hi | hi <;> omega) | (rcases he with he | he <;> omega))
                    replace EL1 := EL1.step k8 (by intro i hi he; (try dsimp only [NoK] at hi he ⊢); first | exact he.elim | omega | exact he)
                    replace HS7 := HS7.keep k8 (by intro i _ hi he; (try dsimp only [NoK, AllB] at hi he); first | exact hi.elim | exact he.elim | omega | (rcases hi with hi | hi <;> omega) | (rcases he with he | he <;> omega))
                    replace HB7 := HB7.keep k8 (by intro h; (try dsimp only at h); first | omega)
                    refine l_to (to_f1 (by kernel_rfl) (show _ = (Value.int _ _) from rfl) (CallsR.mono (num_c) ?_))
                    rintro _ w130 ⟨rfl, e130⟩
                    have zs_e130 := e130.size
                    replace E := E.trans (Ext.keep e130)
                    replace HS1 := HS1.ext e130
                    replace EL1 := EL1.trans (Ext.keep e130)
                    replace HS7 := HS7.ext e130
                    replace HB7 := HB7.ext e130
                    replace HB4 := HB4.ext e130
                    replace HS8 := HS8.ext e130
                    refine l_v (v_eql rfl rfl) ?_
                    refine l_nil ?_
                    refine n_then ?_
                    refine c_cond rfl rfl (fun he0 => ?_) (fun he0 => ?_)
                    · skip
                      refine wp_reg (by decide +kernel) ?_
                      refine l_v (v_move (t := .int _ _) rfl) ?_
                      refine l_v (v_add rfl rfl (by first | exact wr_i64 (by omega) (by omega) | rfl)) ?_
                      refine l_v (v_assign (t := .int _ _) rfl) ?_
                      refine l_nil ?_
                      refine n_blk ?_
                      refine n_then ?_
                      refine c_seq ?_
                      refine wp_reg (by decide +kernel) ?_
                      refine l_v (v_move (t := .int _ _) rfl) ?_
                      refine l_v (v_move (t := .int _ _) rfl) ?_
                      refine l_v (v_move (t := .pointer _) rfl) ?_
                      refine l_to (to_f1 (by kernel_rfl) (show _ = (Value.pointer _) from rfl) (CallsR.mono (Len_c HB4 HS8 (sendL_may hmay hls)) ?_))
                      rintro _ w131 ⟨rfl, e131⟩
                      have zs_e131 := e131.size
                      replace E := E.trans (Ext.keep e131)
                      replace HS1 := HS1.ext e131
                      replace EL1 := EL1.trans (Ext.keep e131)
                      replace HS7 := HS7.ext e131
                      replace HB7 := HB7.ext e131
                      replace HB4 := HB4.ext e131
                      replace HS8 := HS8.ext e131
                      refine l_v (v_add rfl rfl (by first | exact wr_i64 (by omega) (by omega) | rfl)) ?_
                      refine l_v (v_move (t := .pointer _) rfl) ?_
                      refine l_to (to_f1 (by kernel_rfl) (show _ = (Value.pointer _) from rfl) (CallsR.mono (Lost_c HB4) ?_))
                      rintro _ w132 ⟨rfl, e132⟩
                      have zs_e132 := e132.size
                      replace E := E.trans (Ext.keep e132)
                      replace HS1 := HS1.ext e132
                      replace EL1 := EL1.trans (Ext.keep e132)
                      replace HS7 := HS7.ext e132
                      replace HB7 := HB7.ext e132
                      replace HB4 := HB4.ext e132
                      replace HS8 := HS8.ext e132
                      refine l_v (v_add rfl rfl (by first | exact wr_i64 (by omega) (by omega) | rfl)) ?_
                      refine l_v (v_neq rfl rfl) ?_
                      refine l_v (v_move (t := .bool _) rfl) ?_
                      refine l_g1 rfl rfl (fun hG => v_move (t := .pointer _) rfl) ?_
                      refine l_g1f rfl rfl (fun hG => to_f1 (by kernel_rfl) (gd hG rfl) (Len_c HB4 HS8 (sendL_may hmay hls))) ?_
                      rintro w133 e133
                      have zs_e133 := e133.size
                      replace E := E.trans (Ext.keep e133)
                      replace HS1 := HS1.ext e133
                      replace EL1 := EL1.trans (Ext.keep e133)
                      replace HS7 := HS7.ext e133
                      replace HB7 := HB7.ext e133
                      replace HB4 := HB4.ext e133
                      replace HS8 := HS8.ext e133
                      refine l_g1 rfl rfl (fun hG => v_gtr (gd hG rfl) rfl) ?_
                      refine l_v (v_or rfl rfl) ?_
                      refine l_nil ?_
                      refine n_then ?_
                      refine c_cond rfl rfl (fun hx => ?_) (fun hx => ?_)
                      · skip
                        simp only [Bool.or_eq_true, Bool.not_eq_true', decide_eq_true_eq, decide_eq_false_iff_not] at hx; omega
                      · skip
                        refine c_skip ?_
                        refine n_blk ?_
                        refine n_then ?_
                        refine wp_reg (by decide +kernel) ?_
                        refine l_v (v_move (t := .int _ _) rfl) ?_
                        refine l_v (v_add rfl rfl (by first | exact wr_i64 (by omega) (by omega) | rfl)) ?_
                        refine l_v (v_assign (t := .int _ _) rfl) ?_
                        refine l_nil ?_
                        refine n_then ?_
                        refine ⟨(i + 1, inn + 1, out, lost + sendN ms [m], a8, c8, sendL ms [m]), _, rfl, by (repeat (first | exact Off.of_over _ _ _ | refine Off.upd ?_ (by decide) _ | refine Off.overs ?_ (by decide) _)), ⟨by first | rfl | exact congrArg (Value.int _) (by omega) | (simp; done), by first | rfl | exact congrArg (Value.int _) (by omega) | (simp; done), by first | rfl | exact congrArg (Value.int _) (by omega) | (simp; done), trivial⟩, ⟨E, EL1, ?_⟩, ?_⟩
                        · skip
                          exact ⟨by omega, HB4, HS8.mono fun i hi h => by omega, sendL_may hmay hls, by omega, by omega, by omega⟩
                        · (dsimp only; omega)
                    · skip
                      cases he0
                  · skip
                    refine c_seq ?_
                    refine wp_reg (by decide +kernel) ?_
                    refine l_v (v_move (t := .pointer _) rfl) ?_
                    refine l_v (v_fieldAddr (off := 1) (ft := 3) (by kernel_rfl) rfl) ?_
                    refine l_v (v_load (by kernel_rfl) rfl (by first | exact HB7.pv 1 _ rfl | exact HB4.pv 1 _ rfl | assumption)) ?_
                    refine l_to (to_f2 (by kernel_rfl) (show _ = (Value.pointer _) from rfl) (show _ = (Value.int _ _) from rfl) (CallsR.mono (Double_no HB4 (by omega)) ?_))
                    rintro _ w134 ⟨rfl, e134⟩
                    have zs_e134 := e134.size
                    replace E := E.trans (Ext.keep e134)
                    replace HS1 := HS1.ext e134
                    replace HB4 := HB4.ext e134
                    replace HS5 := HS5.ext e134
                    replace EL1 := EL1.trans (Ext.keep e134)
                    replace HS7 := HS7.ext e134
                    replace HB7 := HB7.ext e134
                    refine l_to (to_f1 (by kernel_rfl) (show _ = (Value.int _ _) from rfl) (CallsR.mono (num_c) ?_))
                    rintro _ w135 ⟨rfl, e135⟩
                    have zs_e135 := e135.size
                    replace E := E.trans (Ext.keep e135)
                    replace HS1 := HS1.ext e135
                    replace HB4 := HB4.ext e135
                    replace HS5 := HS5.ext e135
                    replace EL1 := EL1.trans (Ext.keep e135)
                    replace HS7 := HS7.ext e135
                    replace HB7 := HB7.ext e135
                    refine l_v (v_eql rfl rfl) ?_
                    refine l_nil ?_
                    refine n_then ?_
                    refine c_cond rfl rfl (fun he0 => ?_) (fun he0 => ?_)
                    · skip
                      cases he0
                    · skip
                      refine c_skip ?_
                      refine n_blk ?_
                      refine n_then ?_
                      refine c_seq ?_
                      refine wp_reg (by decide +kernel) ?_
                      refine l_v (v_move (t := .int _ _) rfl) ?_
                      refine l_v (v_move (t := .int _ _) rfl) ?_
                      refine l_v (v_move (t := .pointer _) rfl) ?_
                      refine l_to (to_f1 (by kernel_rfl) (show _ = (Value.pointer _) from rfl) (CallsR.mono (Len_c HB4 HS5 hmay) ?_))
                      rintro _ w136 ⟨rfl, e136⟩
                      have zs_e136 := e136.size
                      replace E := E.trans (Ext.keep e136)
                      replace HS1 := HS1.ext e136
                      replace HB4 := HB4.ext e136
                      replace HS5 := HS5.ext e136
                      replace EL1 := EL1.trans (Ext.keep e136)
                      replace HS7 := HS7.ext e136
                      replace HB7 := HB7.ext e136
                      refine l_v (v_add rfl rfl (by first | exact wr_i64 (by omega) (by omega) | rfl)) ?_
                      refine l_v (v_move (t := .pointer _) rfl) ?_
                      refine l_to (to_f1 (by kernel_rfl) (show _ = (Value.pointer _) from rfl) (CallsR.mono (Lost_c HB4) ?_))
                      rintro _ w137 ⟨rfl, e137⟩
                      have zs_e137 := e137.size
                      replace E := E.trans (Ext.keep e137)
                      replace HS1 := HS1.ext e137
                      replace HB4 := HB4.ext e137
                      replace HS5 := HS5.ext e137
                      replace EL1 := EL1.trans (Ext.keep e137)
                      replace HS7 := HS7.ext e137
                      replace HB7 := HB7.ext e137
                      refine l_v (v_add rfl rfl (by first | exact wr_i64 (by omega) (by omega) | rfl)) ?_
                      refine l_v (v_neq rfl rfl) ?_
                      refine l_v (v_move (t := .bool _) rfl) ?_
                      refine l_g1 rfl rfl (fun hG => v_move (t := .pointer _) rfl) ?_
                      refine l_g1f rfl rfl (fun hG => to_f1 (by kernel_rfl) (gd hG rfl) (Len_c HB4 HS5 hmay)) ?_
                      rintro w138 e138
                      have zs_e138 := e138.size
                      replace E := E.trans (Ext.keep e138)
                      replace HS1 := HS1.ext e138
                      replace HB4 := HB4.ext e138
                      replace HS5 := HS5.ext e138
                      replace EL1 := EL1.trans (Ext.keep e138)
                      replace HS7 := HS7.ext e138
                      replace HB7 := HB7.ext e138
                      refine l_g1 rfl rfl (fun hG => v_gtr (gd hG rfl) rfl) ?_
                      refine l_v (v_or rfl rfl) ?_
                      refine l_nil ?_
                      refine n_then ?_
                      refine c_cond rfl rfl (fun hx => ?_) (fun hx => ?_)
                      · skip
                        simp only [Bool.or_eq_true, Bool.not_eq_true', decide_eq_true_eq, decide_eq_false_iff_not] at hx; omega
                      · skip
                        refine c_skip ?_
                        refine n_blk ?_
                        refine n_then ?_
                        refine wp_reg (by decide +kernel) ?_
                        refine l_v (v_move (t := .int _ _) rfl) ?_
                        refine l_v (v_add rfl rfl (by first | exact wr_i64 (by omega) (by omega) | rfl)) ?_
                        refine l_v (v_assign (t := .int _ _) rfl) ?_
                        refine l_nil ?_
                        refine n_then ?_
                        refine ⟨(i + 1, inn, out, lost, a, c, ms), _, rfl, by (repeat (first | exact Off.of_over _ _ _ | refine Off.upd ?_ (by decide) _ | refine Off.overs ?_ (by decide) _)), ⟨by first | rfl | exact congrArg (Value.int _) (by omega) | (simp; done), by first | rfl | exact congrArg (Value.int _) (by omega) | (simp; done), by first | rfl | exact congrArg (Value.int _) (by omega) | (simp; done), trivial⟩, ⟨E, EL1, ?_⟩, ?_⟩
                        · skip
                          exact ⟨by omega, HB4, HS5.mono fun i hi h => by omega, hmay, hlen, hsum, by omega⟩
                        · (dsimp only; omega)
                · skip
                  refine c_skip ?_
                  refine n_blk ?_
                  refine n_then ?_
                  refine c_seq ?_
                  refine wp_reg (by decide +kernel) ?_
                  refine l_v (v_move (t := .int _ _) rfl) ?_
                  refine l_v (v_move (t := .int _ _) rfl) ?_
                  refine l_v (v_move (t := .pointer _) rfl) ?_
                  refine l_to (to_f1 (by kernel_rfl) (show _ = (Value.pointer _) from rfl) (CallsR.mono (Len_c HB4 HS5 hmay) ?_))
                  rintro _ w139 ⟨rfl, e139⟩
                  have zs_e139 := e139.size
                  replace E := E.trans (Ext.keep e139)
                  replace HS1 := HS1.ext e139
                  replace HB4 := HB4.ext e139
                  replace HS5 := HS5.ext e139
                  replace EL1 := EL1.trans (Ext.keep e139)
                  replace HS7 := HS7.ext e139
                  replace HB7 := HB7.ext e139
                  refine l_v (v_add rfl rfl (by first | exact wr_i64 (by omega) (by omega) | rfl)) ?_
                  refine l_v (v_move (t := .pointer _) rfl) ?_
                  refine l_to (to_f1 (by kernel_rfl) (show _ = (Value.pointer _) from rfl) (CallsR.mono (Lost_c HB4) ?_))
                  rintro _ w140 ⟨rfl, e140⟩
                  have zs_e140 := e140.size
                  replace E := E.trans (Ext.keep e140)
                  replace HS1 := HS1.ext e140
                  replace HB4 := HB4.ext e140
                  replace HS5 := HS5.ext e140
                  replace EL1 := EL1.trans (Ext.keep e140)
                  replace HS7 := HS7.ext e140
                  replace HB7 := HB7.ext e140
                  refine l_v (v_add rfl rfl (by first | exact wr_i64 (by omega) (by omega) | rfl)) ?_
                  refine l_v (v_neq rfl rfl) ?_
                  refine l_v (v_move (t := .bool _) rfl) ?_
                  refine l_g1 rfl rfl (fun hG => v_move (t := .pointer _) rfl) ?_
                  refine l_g1f rfl rfl (fun hG => to_f1 (by kernel_rfl) (gd hG rfl) (Len_c HB4 HS5 hmay)) ?_
                  rintro w141 e141
                  have zs_e141 := e141.size
                  replace E := E.trans (Ext.keep e141)
                  replace HS1 := HS1.ext e141
                  replace HB4 := HB4.ext e141
                  replace HS5 := HS5.ext e141
                  replace EL1 := EL1.trans (Ext.keep e141)
                  replace HS7 := HS7.ext e141
                  replace HB7 := HB7.ext e141
                  refine l_g1 rfl rfl (fun hG => v_gtr (gd hG rfl) rfl) ?_
                  refine l_v (v_or rfl rfl) ?_
                  refine l_nil ?_
                  refine n_then ?_
                  refine c_cond rfl rfl (fun hx => ?_) (fun hx => ?_)
                  · skip
                    simp only [Bool.or_eq_true, Bool.not_eq_true', decide_eq_true_eq, decide_eq_false_iff_not] at hx; omega
                  · skip
                    refine c_skip ?_
                    refine n_blk ?_
                    refine n_then ?_
                    refine wp_reg (by decide +kernel) ?_
                    refine l_v (v_move (t := .int _ _) rfl) ?_
                    refine l_v (v_add rfl rfl (by first | exact wr_i64 (by omega) (by omega) | rfl)) ?_
                    refine l_v (v_assign (t := .int _ _) rfl) ?_
                    refine l_nil ?_
                    refine n_then ?_
                    refine ⟨(i + 1, inn, out, lost, a, c, ms), _, rfl, by (repeat (first | exact Off.of_over _ _ _ | refine Off.upd ?_ (by decide) _ | refine Off.overs ?_ (by decide) _)), ⟨by first | rfl | exact congrArg (Value.int _) (by omega) | (simp; done), by first | rfl | exact congrArg (Value.int _) (by omega) | (simp; done), by first | rfl | exact congrArg (Value.int _) (by omega) | (simp; done), trivial⟩, ⟨E, EL1, ?_⟩, ?_⟩
                    · skip
                      exact ⟨by omega, HB4, HS5.mono fun i hi h => by omega, hmay, hlen, hsum, by omega⟩
                    · (dsimp only; omega)
        · skip
          refine c_exit ?_
          refine x_then ?_
          refine x_then ?_
          refine x_hit ?_
          refine n_then ?_
          refine c_seq ?_
          refine wp_reg (by decide +kernel) ?_
          refine l_v (v_assign rfl) ?_
          refine l_nil ?_
          refine n_then ?_
          refine c_ret ?_
          refine ret1v rfl (by decide) (show _ = (Value.bool _) from rfl) ?_
          exact ⟨rfl, E⟩
end Go.Proofs.Ytaidpdjlchnonaa
