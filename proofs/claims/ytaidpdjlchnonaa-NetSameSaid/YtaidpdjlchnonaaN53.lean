/- A part of the proof: steps and lemmas for the walks through the given program. -/
import Derived.Test.YtaidpdjlchnonaaN48
import Derived.Test.YtaidpdjlchnonaaN49
import Derived.Test.YtaidpdjlchnonaaN50
import Derived.Test.YtaidpdjlchnonaaN51
import Derived.Test.YtaidpdjlchnonaaN52
namespace Go.Proofs.Ytaidpdjlchnonaa
open Go.Vc
set_option linter.unusedVariables false
set_option linter.unusedSimpArgs false
set_option maxRecDepth 100000

theorem do_c {w : World} {n0 bw br lost : Nat} {ms : List Ms} {r : StpV} {a7 : Option Addr} {c7 : Nat} (hW : WR w n0 bw br ms lost) (HS7 : SlV tMs w (fun i => i < n0) (.slice a7 r.2.2.length c7) r.2.2) (hst : stOk r) (hlo : lost ≤ 100000) : CallsR Try.prog 29 #[.pointer (some ⟨bw, 0, none⟩), .pointer (some ⟨br, 0, none⟩), .agg #[.int .i64 r.1, .int .i64 r.2.1, .slice a7 r.2.2.length c7]] w (DoP n0 bw br lost w) := by
  by_cases h1 : r.1 = 1
  · exact do1_c hW HS7 hst hlo h1
  by_cases h2 : r.1 = 2
  · exact do2_c hW HS7 hlo h2
  by_cases h3 : r.1 = 3
  · exact do3_c hW HS7 hlo h3
  by_cases h4 : r.1 = 4
  · exact do4_c hW HS7 hlo h4
  by_cases h5 : r.1 = 5
  · exact do5_c hW HS7 hlo h5
  by_cases h6 : r.1 = 6
  · exact do6_c hW HS7 hlo h6
  exact do0_c hW HS7 hlo ⟨h1, h2, h3, h4, h5, h6⟩
def ToV (node : Int) (ms : List Ms) (v : Value) (W : World) : Prop := ∃ a2 c2, v = .slice a2 (toL node ms 0).length c2 ∧ SlV (tInt .i64) W AllB v (toL node ms 0)
theorem ToV.ext {node : Int} {ms : List Ms} {v : Value} {w w' : World} (h : ToV node ms v w) (k : Ext w w') : ToV node ms v w' := by
  obtain ⟨a, c, h1, h2⟩ := h; exact ⟨a, c, h1, h2.ext k⟩
theorem places_v {w : World} {G : Nat → Prop} {b c : Nat} {a : Option Addr} {ms : List Ms} {y v : Value} {node : Int} (hv : ToV node ms v w) (HB2 : Blk w b [.slice a ms.length c, y] 52) (HS2 : SlV tMs w G (.slice a ms.length c) ms) : CallsR Try.prog 30 #[v, .pointer (some ⟨b, 0, none⟩), .int .i64 node] w (fun o w' => o = .bool true ∧ Ext w w') := by
  obtain ⟨a2, c2, rfl, h⟩ := hv
  exact places_c h HB2 HS2
set_option maxHeartbeats 8000000 in
theorem NetSteps_c {w : World} {F : Nat → Prop} {v : Value} {l : List StpV} {node leave : Int} (HS1 : SlV tStp w F v l) : CallsR Try.prog 6 #[v, .int .i64 node, .int .i64 leave] w (fun o w' => o = .bool true ∧ Ext w w') := by
  obtain ⟨a1, c1, rfl⟩ := HS1.shape
  have hmx := HS1.len_max
  obtain ⟨n0, hn0⟩ : ∃ n, n = w.heap.size := ⟨_, rfl⟩
  refine enter 79 Try.func6 rfl rfl (by simp) ?_
  refine c_seq ?_
  have E := Keep.refl (K := NoK) w
  replace HS1 := HS1.all
  refine wp_reg (by decide +kernel) ?_
  refine l_v (v_assign rfl) ?_
  refine l_nil ?_
  refine n_then ?_
  refine c_seq ?_
  refine c_seq ?_
  refine wp_reg (by decide +kernel) ?_
  refine l_v (v_move (t := .slice _ _ _) rfl) ?_
  refine l_to (to_f1 (by kernel_rfl) (show _ = (Value.slice _ _ _) from rfl) (CallsR.mono (much_c HS1) ?_))
  rintro _ w3 ⟨⟨bm, rfl, hmuch⟩, e3⟩
  have zs_e3 := e3.size
  replace E := E.trans (Ext.keep e3)
  replace HS1 := HS1.ext e3
  refine l_nil ?_
  refine n_then ?_
  refine c_cond rfl rfl (fun hmu => ?_) (fun hmu => ?_)
  · skip
    refine c_seq ?_
    refine wp_reg (by decide +kernel) ?_
    refine l_to (to_f0 (by kernel_rfl) (CallsR.mono (known_c) ?_))
    rintro _ w101 ⟨rfl, e101⟩
    have zs_e101 := e101.size
    replace E := E.trans (Ext.keep e101)
    replace HS1 := HS1.ext e101
    refine l_v (v_assign (t := .bool _) rfl) ?_
    refine l_nil ?_
    refine n_then ?_
    refine c_ret ?_
    refine r_then ?_
    refine ret1v rfl (by decide) (show _ = (Value.bool _) from rfl) ?_
    exact ⟨rfl, E⟩
  · skip
    obtain ⟨hl60, hst⟩ := hmuch hmu
    refine c_skip ?_
    refine n_then ?_
    refine c_seq ?_
    refine wp_reg (by decide +kernel) ?_
    refine l_to (to_f0 (by kernel_rfl) (CallsR.mono (New_c) ?_))
    rintro _ w4 ⟨b4, hb4, rfl, HB4, z4, e4⟩
    have zs_e4 := e4.size
    replace E := E.trans (Ext.keep e4)
    replace HS1 := HS1.ext e4
    refine l_v (v_build (pl := [(0, 1), (1, 1)]) (z := .agg #[.slice none 0 0, .int .i64 0]) (zl := [.slice none 0 0, .int .i64 0]) (by kernel_rfl) (by unfold kZero; kernel_rfl) rfl rfl (cells := [_, _]) rfl) ?_
    refine l_to (to_box (show _ = (Value.agg _) from rfl) ?_)
    rintro b5 w5 zb5 HB5 e5 z5
    have zs_e5 := e5.size
    simp only [Value.cells] at HB5
    replace E := E.trans (Ext.keep e5)
    replace HS1 := HS1.ext e5
    replace HB4 := HB4.ext e5
    try simp only [Value.cells] at HB5
    refine l_v (v_assign (t := .pointer _) rfl) ?_
    refine l_v (v_assign (t := .pointer _) rfl) ?_
    refine l_nil ?_
    refine n_then ?_
    refine c_seq ?_
    refine c_seq ?_
    refine wp_reg (by decide +kernel) ?_
    refine l_v (v_move (t := .pointer _) rfl) ?_
    refine l_v (v_peql (et := 68) (by kernel_rfl) rfl rfl) ?_
    refine l_nil ?_
    refine n_then ?_
    refine c_cond rfl rfl (fun hn => ?_) (fun hn => ?_)
    · skip
      cases hn
    · skip
      refine c_skip ?_
      refine n_then ?_
      refine c_seq ?_
      refine c_seq ?_
      refine wp_reg (by decide +kernel) ?_
      refine l_v (v_assign rfl) ?_
      refine l_nil ?_
      refine n_then ?_
      refine c_block ?_
      refine c_loop (τ := Nat × Nat × List Ms × Nat) [6, 7, 8, 9, 10, 19, 20, 21, 22, 23, 24, 25, 26, 27, 28, 29, 30, 31, 32, 33, 34, 35, 36, 37, 38, 39, 40, 41, 42, 43, 44, 45, 46, 47, 48, 49, 50, 51, 52, 53, 54, 55, 56, 57, 58, 59, 60, 61, 62, 63, 64, 65, 66, 67, 68, 69, 70, 71, 72] (fun (i, bw, ms, lost) => [(9, .int .i64 i), (7, .pointer (some ⟨bw, 0, none⟩)), (8, .pointer (some ⟨b5, 0, none⟩))]) (fun (i, bw, ms, lost) W => Ext w W ∧ Keep (fun b => n0 ≤ b) w5 W ∧ i ≤ l.length ∧ WR W n0 bw b5 ms lost ∧ lost ≤ 1000 * i) (fun (i, bw, ms, lost) => l.length - i) (0, b4, [], 0) (by exact ⟨rfl, rfl, rfl, trivial⟩) (by exact ⟨E, Keep.refl _, Nat.zero_le _, ⟨by omega, by omega, by omega, ⟨none, 0, HB4, SlV.nil _ _ _⟩, ⟨none, 0, HB5, SlV.nil _ _ _⟩, (fun m hm => by simp at hm), by simp⟩, by omega⟩) ?_
      rintro ⟨i, bw, ms, lost⟩ w102 j ⟨E, EL1, h1, hW, hlo⟩
      have zs_EL1 := EL1.size
      replace HS1 := HS1.keep EL1 (by intro i _ hi he; (try dsimp only [NoK, AllB] at hi he); first | exact hi.elim | exact he.elim | omega | (rcases hi with hi | hi <;> omega) | (rcases he with he | he <;> omega))
      refine c_seq ?_
      refine c_seq ?_
      refine wp_reg (by decide +kernel) ?_
      refine l_v (v_move (t := .int _ _) rfl) ?_
      refine l_v (v_move (t := .slice _ _ _) rfl) ?_
      refine l_v (v_len (et := 43) (by kernel_rfl) rfl) ?_
      refine l_v (v_lss rfl rfl) ?_
      refine l_nil ?_
      refine n_then ?_
      refine c_cond rfl rfl (fun hlt => ?_) (fun hlt => ?_)
      · skip
        have hlt := dtrue hlt
        obtain ⟨r, hx0, hdr⟩ := getE (l := l) (i := i) (by omega)
        have hst1 := hst r (List.mem_of_getElem? hx0)
        obtain ⟨q, cs, hq, hF, _, HPq, hr⟩ := HS1.el hx0
        subst hq
        obtain ⟨a7, c7, rfl, HS7, hle, hi1, hi2⟩ := tStp_cells hr
        have hdw := hW.2.1
        have hdv := hW.2.2.1
        refine c_skip ?_
        refine n_then ?_
        refine c_seq ?_
        refine c_block ?_
        refine c_seq ?_
        refine wp_reg (by decide +kernel) ?_
        refine l_v (v_assign rfl) ?_
        refine l_nil ?_
        refine n_then ?_
        refine c_seq ?_
        refine wp_reg (by decide +kernel) ?_
        refine l_v (v_move (t := .pointer _) rfl) ?_
        refine l_v (v_move (t := .pointer _) rfl) ?_
        refine l_v (v_move (t := .slice _ _ _) rfl) ?_
        refine l_v (v_move (t := .int _ _) rfl) ?_
        refine l_v (v_indexAddr (et := 43) (sz := 3) (k := i) (by kernel_rfl) (by kernel_rfl) rfl rfl (by first | rfl | omega) (by omega)) ?_
        replace HS7 := HS7.mono (F' := fun i => i < n0) fun b hb h => by have h := h; (try dsimp only at h); omega
        refine l_v (v_loadA (by kernel_rfl) rfl (by first | exact HPq | assumption) rfl) ?_
        refine l_to (to_f3 (by kernel_rfl) (show _ = (Value.pointer _) from rfl) (show _ = (Value.pointer _) from rfl) (show _ = (Value.agg _) from rfl) (CallsR.mono (do_c hW HS7 hst1 (by omega)) ?_))
        rintro o8 w8 ⟨⟨bw2, ms2, lost2, rfl, hW8, hl8⟩, k8⟩
        have zs_k8 := k8.size
        obtain ⟨hne, hb0, hr0, ⟨a1, c1, HB1, HS2⟩, ⟨a2, c2, HB2, HS3⟩, hmay, hlen⟩ := hW8
        replace E := E.step k8 (by intro i hi he; (try dsimp only [NoK] at hi he ⊢); first | exact he.elim | omega | exact he)
        replace HS1 := HS1.keep k8 (by intro i _ hi he; (try dsimp only [NoK, AllB] at hi he); first | exact hi.elim | exact he.elim | omega | (rcases hi with hi | hi <;> omega) | (rcases he with he | he <;> omega))
        replace EL1 := EL1.step k8 (by intro i hi he; (try dsimp only [NoK] at hi he ⊢); first | exact he.elim | omega | exact he)
        replace HPq := HPq.keep k8 (by intro h; (try dsimp only at h); (try simp only [add_block] at h); first | omega)
        refine l_v (v_move (t := .tuple _) rfl) ?_
        refine l_v (v_extract (t := .pointer _) rfl rfl) ?_
        refine l_v (v_extract (t := .pointer _) rfl rfl) ?_
        refine l_v (v_extract (t := .bool _) rfl rfl) ?_
        refine l_v (v_assign (t := .pointer _) rfl) ?_
        refine l_v (v_assign (t := .pointer _) rfl) ?_
        refine l_v (v_assign (t := .bool _) rfl) ?_
        refine l_nil ?_
        refine n_then ?_
        refine c_seq ?_
        refine wp_regd (NoK) (by kernel_rfl) (by decide +kernel) (by decide +kernel) ?_
        refine rt_v (fun vals w hR hd => v_move (t := .bool _) rfl) ?_
        refine rt_v (fun vals w hR hd => v_not (hd 0 rfl)) ?_
        refine rt_v (fun vals w hR hd => v_move (t := .bool _) (hd 1 rfl)) ?_
        refine rt_hv rfl (fun vals w hd => hd 2 rfl) (fun vals w hR hd => v_move (t := .pointer _) rfl) ?_
        refine rt_hvf rfl (fun vals w hd => hd 2 rfl) (fun vals w hR hd => to_f1 (by kernel_rfl) (hd 3 rfl) (Len_c (HB1.ext hR) (HS2.ext hR) hmay)) ?_
        refine rt_hv rfl (fun vals w hd => hd 2 rfl) (fun vals w hR hd => v_move (t := .pointer _) rfl) ?_
        refine rt_hv rfl (fun vals w hd => hd 2 rfl) (fun vals w hR hd => v_nilCheck (hd 5 rfl)) ?_
        refine rt_hv rfl (fun vals w hd => hd 2 rfl) (fun vals w hR hd => v_fieldAddr (off := 0) (ft := 41) (by kernel_rfl) (hd 6 rfl)) ?_
        refine rt_hv rfl (fun vals w hd => hd 2 rfl) (fun vals w hR hd => v_load (by kernel_rfl) (hd 7 rfl) (by first | exact (HB2.ext hR).pv 0 _ rfl | exact (HB1.ext hR).pv 0 _ rfl | assumption)) ?_
        refine rt_hv rfl (fun vals w hd => hd 2 rfl) (fun vals w hR hd => v_len (et := 26) (by kernel_rfl) (hd 8 rfl)) ?_
        refine rt_hv rfl (fun vals w hd => hd 2 rfl) (fun vals w hR hd => OpVat.as (b := false) (v_neq (hd 4 rfl) (hd 9 rfl)) (by simp)) ?_
        refine rt_v (fun vals w hR hd => v_orT (hd 2 rfl) (hd 10 rfl)) ?_
        refine rt_v (fun vals w hR hd => v_move (t := .bool _) (hd 11 rfl)) ?_
        refine rt_hv rfl (fun vals w hd => hd 12 rfl) (fun vals w hR hd => v_move (t := .pointer _) rfl) ?_
        refine rt_hvf rfl (fun vals w hd => hd 12 rfl) (fun vals w hR hd => to_f1 (by kernel_rfl) (hd 13 rfl) (Lost_c (HB1.ext hR))) ?_
        refine rt_hv rfl (fun vals w hd => hd 12 rfl) (fun vals w hR hd => v_move (t := .pointer _) rfl) ?_
        refine rt_hv rfl (fun vals w hd => hd 12 rfl) (fun vals w hR hd => v_nilCheck (hd 15 rfl)) ?_
        refine rt_hv rfl (fun vals w hd => hd 12 rfl) (fun vals w hR hd => v_fieldAddr (off := 1) (ft := 3) (by kernel_rfl) (hd 16 rfl)) ?_
        refine rt_hv rfl (fun vals w hd => hd 12 rfl) (fun vals w hR hd => v_load (by kernel_rfl) (hd 17 rfl) (by first | exact (HB2.ext hR).pv 1 _ rfl | exact (HB1.ext hR).pv 1 _ rfl | assumption)) ?_
        refine rt_hv rfl (fun vals w hd => hd 12 rfl) (fun vals w hR hd => OpVat.as (b := false) (v_neq (hd 14 rfl) (hd 18 rfl)) (by simp)) ?_
        refine rt_v (fun vals w hR hd => v_orT (hd 12 rfl) (hd 19 rfl)) ?_
        refine rt_v (fun vals w hR hd => v_move (t := .bool _) (hd 20 rfl)) ?_
        refine rt_hv rfl (fun vals w hd => hd 21 rfl) (fun vals w hR hd => v_move (t := .pointer _) rfl) ?_
        refine rt_hv rfl (fun vals w hd => hd 21 rfl) (fun vals w hR hd => v_move (t := .int _ _) rfl) ?_
        refine rt_hto (fun v W => ToV node ms2 v W) (fun v w w' h k => h.ext k) rfl (fun vals w hd => hd 21 rfl) (fun vals w hR hd => to_f2 (by kernel_rfl) (hd 22 rfl) (hd 23 rfl) (CallsR.mono (To_c (HB1.ext hR) (HS2.ext hR) hmay (by omega)) fun v w1 h => ⟨h.2, by obtain ⟨⟨a, c, h1, h2⟩, _⟩ := h; exact ⟨a, c, h1, h2.allB⟩⟩)) ?_
        refine rt_hv rfl (fun vals w hd => hd 21 rfl) (fun vals w hR hd => v_move (t := .pointer _) rfl) ?_
        refine rt_hv rfl (fun vals w hd => hd 21 rfl) (fun vals w hR hd => v_move (t := .int _ _) rfl) ?_
        refine rt_hto (fun v w => v = (.bool true)) (fun v w w' h k => h) rfl (fun vals w hd => hd 21 rfl) (fun vals w hR hd => to_f3 (by kernel_rfl) (show _ = vals 24 from rfl) (hd 25 rfl) (hd 26 rfl) (CallsR.mono (places_v (show ToV node ms2 _ _ from hd 24 rfl) (HB2.ext hR) (HS3.ext hR)) fun v w1 h => ⟨h.2, h.1⟩)) ?_
        refine rt_hv rfl (fun vals w hd => hd 21 rfl) (fun vals w hR hd => v_not (hd 27 rfl)) ?_
        refine rt_v (fun vals w hR hd => v_orT (hd 21 rfl) (hd 28 rfl)) ?_
        refine rt_v (fun vals w hR hd => v_move (t := .bool _) (hd 29 rfl)) ?_
        refine rt_hv rfl (fun vals w hd => hd 30 rfl) (fun vals w hR hd => v_move (t := .pointer _) rfl) ?_
        refine rt_hv rfl (fun vals w hd => hd 30 rfl) (fun vals w hR hd => v_move (t := .pointer _) rfl) ?_
        refine rt_hv rfl (fun vals w hd => hd 30 rfl) (fun vals w hR hd => v_move (t := .int _ _) rfl) ?_
        refine rt_hvf rfl (fun vals w hd => hd 30 rfl) (fun vals w hR hd => to_f3 (by kernel_rfl) (hd 31 rfl) (hd 32 rfl) (hd 33 rfl) (once_g (WaySeq.made (HB1.ext hR) (HS2.ext hR) hmay) (by omega) (HB2.ext hR) (HS3.ext hR))) ?_
        refine rt_hv rfl (fun vals w hd => hd 30 rfl) (fun vals w hR hd => v_not (hd 34 rfl)) ?_
        refine rt_v (fun vals w hR hd => v_orT (hd 30 rfl) (hd 35 rfl)) ?_
        refine rt_nil (fun w103 e103 => ?_)
        rintro _ rfl _ rfl _ rfl _ rfl _ rfl _ rfl _ rfl _ rfl _ rfl _ rfl _ rfl _ rfl _ rfl _ rfl _ rfl _ rfl _ rfl _ rfl _ rfl _ rfl _ rfl _ rfl _ rfl _ rfl v24 hs24 _ rfl _ rfl _ rfl _ rfl _ rfl _ rfl _ rfl _ rfl _ rfl _ rfl _ rfl _ rfl
        have zs_e103 := e103.size
        replace E := E.trans (Ext.keep e103)
        replace HS1 := HS1.ext e103
        replace EL1 := EL1.trans (Ext.keep e103)
        replace HB1 := HB1.ext e103
        replace HS2 := HS2.ext e103
        replace HB2 := HB2.ext e103
        replace HS3 := HS3.ext e103
        refine fin_nil ?_
        refine n_then ?_
        refine c_cond rfl rfl (fun hx => ?_) (fun hx => ?_)
        · skip
          cases hx
        · skip
          refine c_skip ?_
          refine n_blk ?_
          refine n_then ?_
          refine wp_reg (by decide +kernel) ?_
          refine l_v (v_move (t := .int _ _) rfl) ?_
          refine l_v (v_add rfl rfl (by first | exact wr_i64 (by omega) (by omega) | rfl)) ?_
          refine l_v (v_assign (t := .int _ _) rfl) ?_
          refine l_nil ?_
          refine n_then ?_
          refine ⟨(i + 1, bw2, ms2, lost2), _, rfl, by (repeat (first | exact Off.of_over _ _ _ | refine Off.upd ?_ (by decide) _ | refine Off.overs ?_ (by decide) _)), ⟨by first | rfl | exact congrArg (Value.int _) (by omega) | (simp; done), by first | rfl | exact congrArg (Value.int _) (by omega) | (simp; done), by first | rfl | exact congrArg (Value.int _) (by omega) | (simp; done), trivial⟩, ⟨E, EL1, ?_⟩, ?_⟩
          · skip
            exact ⟨by omega, ⟨hne, hb0, hr0, ⟨a1, c1, HB1, HS2⟩, ⟨a2, c2, HB2, HS3⟩, hmay, hlen⟩, by omega⟩
          · (dsimp only; omega)
      · skip
        obtain ⟨hne, hb0, hr0, ⟨a3, c3, HB1, HS2⟩, ⟨a2, c2, HB2, HS3⟩, hmay, hlen⟩ := hW
        replace HS2 := HS2.all
        replace HS3 := HS3.all
        refine c_exit ?_
        refine x_then ?_
        refine x_then ?_
        refine x_hit ?_
        refine n_then ?_
        refine c_seq ?_
        refine wp_reg (by decide +kernel) ?_
        refine l_v (v_move (t := .pointer _) rfl) ?_
        refine l_v (v_move (t := .pointer _) rfl) ?_
        refine l_to (to_f3 (by kernel_rfl) (show _ = (Value.pointer _) from rfl) (show _ = (Value.pointer _) from rfl) (show _ = (Value.int _ _) from rfl) (CallsR.mono (once_g (WaySeq.made HB1 HS2 hmay) (by omega) HB2 HS3) ?_))
        rintro _ w104 ⟨rfl, e104⟩
        have zs_e104 := e104.size
        replace E := E.trans (Ext.keep e104)
        replace HS1 := HS1.ext e104
        replace HB1 := HB1.ext e104
        replace HS2 := HS2.ext e104
        replace HB2 := HB2.ext e104
        replace HS3 := HS3.ext e104
        refine l_v (v_move (t := .bool _) rfl) ?_
        refine l_gt rfl rfl (to_f0 (by kernel_rfl) (CallsR.mono (known_c) ?_))
        rintro _ w105 ⟨rfl, e105⟩
        have zs_e105 := e105.size
        replace E := E.trans (Ext.keep e105)
        replace HS1 := HS1.ext e105
        replace HB1 := HB1.ext e105
        replace HS2 := HS2.ext e105
        replace HB2 := HB2.ext e105
        replace HS3 := HS3.ext e105
        refine l_v (v_andT rfl rfl) ?_
        refine l_v (v_assign (t := .bool _) rfl) ?_
        refine l_nil ?_
        refine n_then ?_
        refine c_ret ?_
        refine ret1v rfl (by decide) (show _ = (Value.bool _) from rfl) ?_
        exact ⟨rfl, E⟩
end Go.Proofs.Ytaidpdjlchnonaa
