/- A part of the proof: steps and lemmas for the walks through the given program. -/
import Derived.Test.YtaidpdjlchnonaaN35
namespace Go.Proofs.Ytaidpdjlchnonaa
open Go.Vc
set_option linter.unusedVariables false
set_option linter.unusedSimpArgs false
set_option maxRecDepth 100000

theorem refSend_no {w : World} {F : Nat → Prop} {b : Nat} {v : Value} {ls : List Ms} (HS2 : SlV tMs w F v ls) (hls : ls.any (fun m => !mayN m) = true) : CallsR Try.prog 71 #[.pointer (some ⟨b, 0, none⟩), v] w (fun o w' => o = .tuple #[.int .i64 0, .int .i64 2] ∧ Ext w w') := by
  obtain ⟨a3, c3, rfl⟩ := HS2.shape
  have hmx := HS2.len_max
  refine enter 48 Try.func71 rfl rfl (by simp) ?_
  refine c_seq ?_
  have E := Keep.refl (K := NoK) w
  replace HS2 := HS2.all
  refine wp_reg (by decide +kernel) ?_
  refine l_v (v_assign rfl) ?_
  refine l_v (v_assign rfl) ?_
  refine l_nil ?_
  refine n_then ?_
  refine c_seq ?_
  refine c_seq ?_
  refine wp_reg (by decide +kernel) ?_
  refine l_v (v_assign rfl) ?_
  refine l_nil ?_
  refine n_then ?_
  refine c_block ?_
  refine c_loop (τ := Nat) [4, 5, 6, 9, 10, 11, 12, 13, 14, 15, 16, 17, 18, 19, 20] (fun i => [(6, .int .i64 i)]) (fun i W => Ext w W ∧ Keep (NoK) w W ∧ i ≤ ls.length ∧ (ls.take i).any (fun m => !mayN m) = false) (fun i => ls.length - i) 0 (by exact ⟨rfl, trivial⟩) (by exact ⟨E, Keep.refl _, Nat.zero_le _, rfl⟩) ?_
  rintro i w101 j ⟨E, EL1, h1, h2⟩
  have zs_EL1 := EL1.size
  replace HS2 := HS2.ext EL1
  refine c_seq ?_
  refine c_seq ?_
  refine wp_reg (by decide +kernel) ?_
  refine l_v (v_move (t := .int _ _) rfl) ?_
  refine l_v (v_move (t := .slice _ _ _) rfl) ?_
  refine l_v (v_len (et := 26) (by kernel_rfl) rfl) ?_
  refine l_v (v_lss rfl rfl) ?_
  refine l_nil ?_
  refine n_then ?_
  refine c_cond rfl rfl (fun hlt => ?_) (fun hlt => ?_)
  · skip
    have hlt := dtrue hlt
    obtain ⟨r, hx, hdr⟩ := getE (l := ls) (i := i) (by omega)
    obtain ⟨q1, cs1, hq1, hF1, _, HP1, hr1⟩ := HS2.el hx
    subst hq1
    have HG5 : AgV tMs _ _ _ r := ⟨cs1, rfl, hr1⟩
    obtain ⟨b1, d1, b2, d2, rfl, _, _, _⟩ := tMs_cells hr1
    refine c_skip ?_
    refine n_then ?_
    refine c_seq ?_
    refine c_block ?_
    refine c_seq ?_
    refine wp_reg (by decide +kernel) ?_
    refine l_v (v_move (t := .slice _ _ _) rfl) ?_
    refine l_v (v_move (t := .int _ _) rfl) ?_
    refine l_v (v_indexAddr (et := 26) (sz := 11) (k := i) (by kernel_rfl) (by kernel_rfl) rfl rfl (by first | rfl | omega) (by omega)) ?_
    refine l_v (v_loadA (by kernel_rfl) rfl (by first | exact HP1 | assumption) rfl) ?_
    refine l_to (to_f1 (by kernel_rfl) (show _ = (Value.agg _) from rfl) (CallsR.mono (refMay_c HG5) ?_))
    rintro _ w102 ⟨rfl, e102⟩
    have zs_e102 := e102.size
    replace E := E.trans (Ext.keep e102)
    replace HS2 := HS2.ext e102
    replace EL1 := EL1.trans (Ext.keep e102)
    replace HP1 := HP1.ext e102
    replace HG5 := HG5.ext e102
    refine l_v (v_not rfl) ?_
    refine l_nil ?_
    refine n_then ?_
    refine c_cond rfl rfl (fun hm => ?_) (fun hm => ?_)
    · skip
      refine c_seq ?_
      refine wp_reg (by decide +kernel) ?_
      refine l_v (v_assign rfl) ?_
      refine l_v (v_assign rfl) ?_
      refine l_nil ?_
      refine n_then ?_
      refine c_ret ?_
      refine r_blk ?_
      refine r_then ?_
      refine r_then ?_
      refine r_blk ?_
      refine r_then ?_
      refine ret2v rfl (by decide) (by decide) (show _ = (Value.int _ _) from rfl) (show _ = (Value.int _ _) from rfl) ?_
      exact ⟨rfl, E⟩
    · skip
      refine c_skip ?_
      refine n_blk ?_
      refine n_then ?_
      refine wp_reg (by decide +kernel) ?_
      refine l_v (v_move (t := .int _ _) rfl) ?_
      refine l_v (v_add rfl rfl (by first | exact wr_i64 (by omega) (by omega) | rfl)) ?_
      refine l_v (v_assign (t := .int _ _) rfl) ?_
      refine l_nil ?_
      refine n_then ?_
      refine ⟨i + 1, _, rfl, by (repeat (first | exact Off.of_over _ _ _ | refine Off.upd ?_ (by decide) _ | refine Off.overs ?_ (by decide) _)), ⟨by first | rfl | exact congrArg (Value.int _) (by omega) | (simp; done), trivial⟩, ⟨E, EL1, ?_⟩, ?_⟩
      · skip
        refine ⟨by omega, ?_⟩
        rw [List.take_add_one, hx, List.any_append, h2]
        simpa using hm
      · (dsimp only; omega)
  · skip
    have hlt := dfalse hlt; rw [List.take_of_length_le (by omega), hls] at h2; cases h2
set_option maxHeartbeats 4000000 in
theorem refSend_c {w : World} {F G : Nat → Prop} {b c : Nat} {a : Option Addr} {ms ls : List Ms} {lost : Int} {v : Value} (HB1 : Blk w b [.slice a ms.length c, .int .i64 lost] 52) (HS1 : SlV tMs w G (.slice a ms.length c) ms) (HS2 : SlV tMs w F v ls)
    (hG : ∀ i, G i → i ≠ b) (hF : ∀ i, F i → i ≠ b) (hml : ms.length ≤ 256) (hll : ls.length ≤ 1000000) (hls : ∀ m ∈ ls, mayN m = true) (hlo : 0 ≤ lost ∧ lost ≤ 4611686018427387904) : CallsR Try.prog 71 #[.pointer (some ⟨b, 0, none⟩), v] w (fun o w' => o = .tuple #[.int .i64 (sendN ms ls : Nat), .int .i64 0] ∧
      (∃ a2 c2, Blk w' b [.slice a2 (sendL ms ls).length c2, .int .i64 (lost + (sendN ms ls : Nat))] 52 ∧ SlV tMs w' (fun i => G i ∨ F i ∨ w.heap.size ≤ i) (.slice a2 (sendL ms ls).length c2) (sendL ms ls)) ∧ Keep (fun i => i = b) w w') := by
  obtain ⟨a3, c3, rfl⟩ := HS2.shape
  have hcap := HS1.cap
  have zl1 := HB1.lt
  have hll2 := sendL_len ms ls
  obtain ⟨n0, hn0⟩ : ∃ n, n = w.heap.size := ⟨_, rfl⟩
  replace HS1 := HS1.mono (F' := fun i => G i ∧ i < n0) fun b hb h => ⟨h, by omega⟩
  replace HS2 := HS2.mono (F' := fun i => F i ∧ i < n0) fun b hb h => ⟨h, by omega⟩
  refine enter 48 Try.func71 rfl rfl (by simp) ?_
  refine c_seq ?_
  have E := Keep.refl (K := fun i => i = b) w
  refine wp_reg (by decide +kernel) ?_
  refine l_v (v_assign rfl) ?_
  refine l_v (v_assign rfl) ?_
  refine l_nil ?_
  refine n_then ?_
  refine c_seq ?_
  refine c_seq ?_
  refine wp_reg (by decide +kernel) ?_
  refine l_v (v_assign rfl) ?_
  refine l_nil ?_
  refine n_then ?_
  refine c_block ?_
  refine c_loop (τ := Nat) [4, 5, 6, 9, 10, 11, 12, 13, 14, 15, 16, 17, 18, 19, 20] (fun i => [(6, .int .i64 i)]) (fun i W => Keep (fun i => i = b) w W ∧ Keep (NoK) w W ∧ i ≤ ls.length) (fun i => ls.length - i) 0 (by exact ⟨rfl, trivial⟩) (by exact ⟨E, Keep.refl _, Nat.zero_le _⟩) ?_
  rintro i w101 j ⟨E, EL1, h1⟩
  have zs_EL1 := EL1.size
  replace HB1 := HB1.ext EL1
  replace HS1 := HS1.ext EL1
  replace HS2 := HS2.ext EL1
  refine c_seq ?_
  refine c_seq ?_
  refine wp_reg (by decide +kernel) ?_
  refine l_v (v_move (t := .int _ _) rfl) ?_
  refine l_v (v_move (t := .slice _ _ _) rfl) ?_
  refine l_v (v_len (et := 26) (by kernel_rfl) rfl) ?_
  refine l_v (v_lss rfl rfl) ?_
  refine l_nil ?_
  refine n_then ?_
  refine c_cond rfl rfl (fun hlt => ?_) (fun hlt => ?_)
  · skip
    have hlt := dtrue hlt
    obtain ⟨r, hx, hdr⟩ := getE (l := ls) (i := i) (by omega)
    have hmr := hls r (List.mem_of_getElem? hx)
    obtain ⟨q1, cs1, hq1, hF1, _, HP1, hr1⟩ := HS2.el hx
    subst hq1
    have HG5 : AgV tMs _ _ _ r := ⟨cs1, rfl, hr1⟩
    obtain ⟨b1, d1, b2, d2, rfl, _, _, _⟩ := tMs_cells hr1
    refine c_skip ?_
    refine n_then ?_
    refine c_seq ?_
    refine c_block ?_
    refine c_seq ?_
    refine wp_reg (by decide +kernel) ?_
    refine l_v (v_move (t := .slice _ _ _) rfl) ?_
    refine l_v (v_move (t := .int _ _) rfl) ?_
    refine l_v (v_indexAddr (et := 26) (sz := 11) (k := i) (by kernel_rfl) (by kernel_rfl) rfl rfl (by first | rfl | omega) (by omega)) ?_
    refine l_v (v_loadA (by kernel_rfl) rfl (by first | exact HP1 | exact HB1.pv | assumption) rfl) ?_
    refine l_to (to_f1 (by kernel_rfl) (show _ = (Value.agg _) from rfl) (CallsR.mono (refMay_c HG5) ?_))
    rintro _ w102 ⟨rfl, e102⟩
    have zs_e102 := e102.size
    replace E := E.trans (Ext.keep e102)
    replace HB1 := HB1.ext e102
    replace HS1 := HS1.ext e102
    replace HS2 := HS2.ext e102
    replace EL1 := EL1.trans (Ext.keep e102)
    replace HP1 := HP1.ext e102
    replace HG5 := HG5.ext e102
    refine l_v (v_not rfl) ?_
    refine l_nil ?_
    refine n_then ?_
    refine c_cond rfl rfl (fun hm => ?_) (fun hm => ?_)
    · skip
      simp [hmr] at hm
    · skip
      refine c_skip ?_
      refine n_blk ?_
      refine n_then ?_
      refine wp_reg (by decide +kernel) ?_
      refine l_v (v_move (t := .int _ _) rfl) ?_
      refine l_v (v_add rfl rfl (by first | exact wr_i64 (by omega) (by omega) | rfl)) ?_
      refine l_v (v_assign (t := .int _ _) rfl) ?_
      refine l_nil ?_
      refine n_then ?_
      refine ⟨i + 1, _, rfl, by (repeat (first | exact Off.of_over _ _ _ | refine Off.upd ?_ (by decide) _ | refine Off.overs ?_ (by decide) _)), ⟨by first | rfl | exact congrArg (Value.int _) (by omega) | (simp; done), trivial⟩, ⟨E, EL1, ?_⟩, ?_⟩
      · skip
        omega
      · (dsimp only; omega)
  · skip
    refine c_exit ?_
    refine x_then ?_
    refine x_then ?_
    refine x_hit ?_
    refine n_then ?_
    refine c_seq ?_
    refine wp_reg (by decide +kernel) ?_
    refine l_v (v_move (t := .pointer _) rfl) ?_
    refine l_v (v_nilCheck rfl) ?_
    refine l_v (v_fieldAddr (off := 0) (ft := 41) (by kernel_rfl) rfl) ?_
    refine l_v (v_load (by kernel_rfl) rfl (by first | exact HB1.pv 0 _ rfl | assumption)) ?_
    refine l_to (to_appNil (et := 26) (bytes := 120) (F := fun i => G i ∧ i < n0) (by kernel_rfl) rfl (show _ = (Value.slice _ _ _) from rfl) HS1 (fun cs z h => h) (by omega) ?_)
    rintro v5 w5 HO5 e5
    have zs_e5 := e5.size
    obtain ⟨a5, c5, rfl⟩ := HO5.shape
    replace E := E.trans (Ext.keep e5)
    replace HB1 := HB1.ext e5
    replace HS1 := HS1.ext e5
    replace HS2 := HS2.ext e5
    have zo_HO5 := fun (b : Nat) h => HO5.own_lt (b := b) h
    have HO6 := HO5.mono (F' := fun i => (G i ∨ F i) ∧ i < n0) fun b _ h => ⟨.inl h.1, h.2⟩
    have zo_HO6 := fun (b : Nat) h => HO6.own_lt (b := b) h
    have zo_HO6 := zo_HO5
    refine l_v (v_move (t := .slice _ _ _) rfl) ?_
    refine l_to (to_append (et := 26) (bytes := 120) (by kernel_rfl) (show _ = (Value.slice _ _ _) from rfl) HO6 (show _ = (Value.slice _ _ _) from rfl) HS2 (deepF fun b hb hb2 => ⟨⟨.inr hb2.1, hb2.2⟩, fun ho => by have := zo_HO6 _ ho; have := hb2.2; omega⟩) (by first | omega | (simp; done) | (simp; omega)) (by simp only [maxLen]; first | omega | (simp; done) | (simp; omega)) (by omega) ?_)
    rintro a20 n20 c20 w20 HO20 hn20 k20 h20 i20
    have zs_k20 := k20.size
    replace E := E.step k20 (by intro i hi he; have he0 := he; (try dsimp only [NoK] at hi he ⊢); (try simp only [Value.ownBlock, Option.some.injEq] at he); first | exact he.elim | omega | exact he | (have := (HO6).own_lt he0; omega) | (have := zo_HO6 _ he0; omega) | (have := (HO6).own_lt he0; rcases hi with hi | hi <;> omega) | (first | (have := hi.2; omega) | (have := hG _ hi.1; omega) | (have := hF _ hi.1; omega) | (rcases hi.1 with hi | hi; (have := hG _ hi; omega); (have := hF _ hi; omega)) | (rcases hi with hi | hi; omega; (rcases hi.1 with hi | hi; (have := hG _ hi; omega); (have := hF _ hi; omega)))))
    replace HB1 := HB1.keep k20 (by intro h; have he0 := h; (try dsimp only at h); (try simp only [Value.ownBlock, Option.some.injEq] at h); first | omega | (have := (HO6).own_lt he0; omega) | (have := zo_HO6 _ he0; omega) | (have he := he0; first | (have := hi.2; omega) | (have := hG _ hi.1; omega) | (have := hF _ hi.1; omega) | (rcases hi.1 with hi | hi; (have := hG _ hi; omega); (have := hF _ hi; omega)) | (rcases hi with hi | hi; omega; (rcases hi.1 with hi | hi; (have := hG _ hi; omega); (have := hF _ hi; omega)))))
    replace HS2 := HS2.keep k20 (by intro i _ hi he; have he0 := he; (try dsimp only [NoK, AllB] at hi he); (try simp only [Value.ownBlock, Option.some.injEq] at he); first | exact hi.elim | exact he.elim | omega | (rcases hi with hi | hi <;> omega) | (rcases he with he | he <;> omega) | (have := (HO6).own_lt he0; omega) | (have := zo_HO6 _ he0; omega) | (have := (HO6).own_lt he0; rcases hi with hi | hi <;> omega) | (first | (have := hi.2; omega) | (have := hG _ hi.1; omega) | (have := hF _ hi.1; omega) | (rcases hi.1 with hi | hi; (have := hG _ hi; omega); (have := hF _ hi; omega)) | (rcases hi with hi | hi; omega; (rcases hi.1 with hi | hi; (have := hG _ hi; omega); (have := hF _ hi; omega)))))
    have zo_HO20 := fun (b : Nat) h => HO20.own_lt (b := b) h
    have hn : n20 = ms.length + ls.length := by rw [hn20, List.length_append]
    have hmx : (if ((n20 : Int) - 256) > 0 then (n20 : Int) - 256 else 0) = ((sendN ms ls : Nat) : Int) := by unfold sendN; split <;> omega
    have hsl : sendN ms ls ≤ n20 := by unfold sendN; omega
    have HS9 : SlV tMs w20 (fun i => n0 ≤ i ∨ ((G i ∨ F i) ∧ i < n0)) (.slice a20 n20 c20) (ms ++ ls) := HO20.view.mono fun b hb h => Or.elim h (fun h => .inl (by omega)) .inr
    have hcap9 := HS9.cap
    refine l_v (v_assign (t := .slice _ _ _) rfl) ?_
    refine l_nil ?_
    refine n_then ?_
    refine c_seq ?_
    refine wp_reg (by decide +kernel) ?_
    refine l_v (v_move (t := .slice _ _ _) rfl) ?_
    refine l_v (v_len (et := 26) (by kernel_rfl) rfl) ?_
    refine l_v (v_sub rfl rfl (by first | exact wr_i64 (by omega) (by omega) | rfl)) ?_
    refine l_v (vmax rfl rfl) ?_
    refine l_v (v_assign (t := .int _ _) rfl) ?_
    refine l_nil ?_
    refine n_then ?_
    refine c_seq ?_
    refine wp_reg (by decide +kernel) ?_
    refine l_v (v_move (t := .pointer _) rfl) ?_
    refine l_v (v_move (t := .slice _ _ _) rfl) ?_
    refine l_v (v_move (t := .int _ _) rfl) ?_
    refine l_v (v_slice (et := 26) (sz := 11) (l := sendN ms ls) (h := n20) (by kernel_rfl) (by kernel_rfl) rfl ⟨.i64, ((show _ = Value.int _ _ from rfl)).trans (congrArg (Value.int _) (by omega))⟩ rfl (by omega) (by omega)) ?_
    refine l_v (v_nilCheck rfl) ?_
    refine l_v (v_fieldAddr (off := 0) (ft := 41) (by kernel_rfl) rfl) ?_
    refine l_to (to_store rfl rfl (show _ = (Value.slice _ _ _) from rfl) rfl (by kernel_rfl) HB1 (by simp) ?_)
    rintro w31 HB1 k31 z31
    have zs_k31 := k31.size
    try simp only [List.set_cons_zero, List.set_cons_succ] at HB1
    replace E := E.step k31 (by intro i hi he; have he0 := he; (try dsimp only [NoK] at hi he ⊢); (try simp only [Value.ownBlock, Option.some.injEq] at he); first | exact he.elim | omega | exact he | (first | (have := hi.2; omega) | (have := hG _ hi.1; omega) | (have := hF _ hi.1; omega) | (rcases hi.1 with hi | hi; (have := hG _ hi; omega); (have := hF _ hi; omega)) | (rcases hi with hi | hi; omega; (rcases hi.1 with hi | hi; (have := hG _ hi; omega); (have := hF _ hi; omega)))))
    replace HS9 := HS9.keep k31 (by intro i _ hi he; have he0 := he; (try dsimp only [NoK, AllB] at hi he); (try simp only [Value.ownBlock, Option.some.injEq] at he); first | exact hi.elim | exact he.elim | omega | (rcases hi with hi | hi <;> omega) | (rcases he with he | he <;> omega) | (first | (have := hi.2; omega) | (have := hG _ hi.1; omega) | (have := hF _ hi.1; omega) | (rcases hi.1 with hi | hi; (have := hG _ hi; omega); (have := hF _ hi; omega)) | (rcases hi with hi | hi; omega; (rcases hi.1 with hi | hi; (have := hG _ hi; omega); (have := hF _ hi; omega)))))
    refine l_nil ?_
    refine n_then ?_
    refine c_seq ?_
    refine wp_reg (by decide +kernel) ?_
    refine l_v (v_move (t := .pointer _) rfl) ?_
    refine l_v (v_move (t := .pointer _) rfl) ?_
    refine l_v (v_nilCheck rfl) ?_
    refine l_v (v_fieldAddr (off := 1) (ft := 3) (by kernel_rfl) rfl) ?_
    refine l_v (v_load (by kernel_rfl) rfl (by first | exact HB1.pv 1 _ rfl | assumption)) ?_
    refine l_v (v_move (t := .int _ _) rfl) ?_
    refine l_v (v_add rfl rfl (by first | exact wr_i64 (by omega) (by omega) | rfl)) ?_
    refine l_v (v_nilCheck rfl) ?_
    refine l_v (v_fieldAddr (off := 1) (ft := 3) (by kernel_rfl) rfl) ?_
    refine l_to (to_store rfl rfl (show _ = (Value.int _ _) from rfl) rfl (by kernel_rfl) HB1 (by simp) ?_)
    rintro w32 HB1 k32 z32
    have zs_k32 := k32.size
    try simp only [List.set_cons_zero, List.set_cons_succ] at HB1
    replace E := E.step k32 (by intro i hi he; have he0 := he; (try dsimp only [NoK] at hi he ⊢); (try simp only [Value.ownBlock, Option.some.injEq] at he); first | exact he.elim | omega | exact he | (first | (have := hi.2; omega) | (have := hG _ hi.1; omega) | (have := hF _ hi.1; omega) | (rcases hi.1 with hi | hi; (have := hG _ hi; omega); (have := hF _ hi; omega)) | (rcases hi with hi | hi; omega; (rcases hi.1 with hi | hi; (have := hG _ hi; omega); (have := hF _ hi; omega)))))
    replace HS9 := HS9.keep k32 (by intro i _ hi he; have he0 := he; (try dsimp only [NoK, AllB] at hi he); (try simp only [Value.ownBlock, Option.some.injEq] at he); first | exact hi.elim | exact he.elim | omega | (rcases hi with hi | hi <;> omega) | (rcases he with he | he <;> omega) | (first | (have := hi.2; omega) | (have := hG _ hi.1; omega) | (have := hF _ hi.1; omega) | (rcases hi.1 with hi | hi; (have := hG _ hi; omega); (have := hF _ hi; omega)) | (rcases hi with hi | hi; omega; (rcases hi.1 with hi | hi; (have := hG _ hi; omega); (have := hF _ hi; omega)))))
    refine l_nil ?_
    refine n_then ?_
    refine c_seq ?_
    refine wp_reg (by decide +kernel) ?_
    refine l_v (v_move (t := .int _ _) rfl) ?_
    refine l_v (v_assign (t := .int _ _) rfl) ?_
    refine l_v (v_assign rfl) ?_
    refine l_nil ?_
    refine n_then ?_
    refine c_ret ?_
    refine ret2v rfl (by decide) (by decide) (show _ = (Value.int _ _) from rfl) (show _ = (Value.int _ _) from rfl) ?_
    rw [hmx] at HB1 ⊢
    have hs := HS9.sub (l := sendN ms ls) (h := n20) hsl (by rw [List.length_append]; omega)
    rw [List.take_of_length_le (by rw [List.length_append]; omega)] at hs
    have hh : n20 - sendN ms ls = (sendL ms ls).length := by omega
    rw [hh] at HB1 hs
    exact ⟨rfl, ⟨_, _, HB1, hs.mono fun i _ h => Or.elim h (fun h => .inr (.inr (by omega))) (fun h => Or.elim h.1 .inl (fun h => .inr (.inl h)))⟩, E⟩
end Go.Proofs.Ytaidpdjlchnonaa
