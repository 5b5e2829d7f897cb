/- A part of the proof: steps and lemmas for the walks through the given program. -/
import Derived.Test.YtaidpdjlchnonaaN41
namespace Go.Proofs.Ytaidpdjlchnonaa
open Go.Vc
set_option linter.unusedVariables false
set_option linter.unusedSimpArgs false
set_option maxRecDepth 100000

theorem qE_step {lr fr l1 : List UInt8} {er : Int} (hx : (er = 0 ∧ rdBytes 1048576 (rest lr) = .ok (fr, l1)) ∨ (er ≠ 0 ∧ rdBytes 1048576 (rest lr) = .error er)) :
    ((qOk 2147483647 lr && decide (er = 0)) = true → rdE lr = .ok ((qV lr, fr), l1)) ∧ ((qOk 2147483647 lr && decide (er = 0)) = false → rdE lr = .error 4) := by
  rcases hd : rdNum lr with _ | ⟨n, r⟩
  · have h1 : qOk 2147483647 lr = false := by simp [qOk, hd]
    have h2 : rdE lr = .error 4 := by rw [rdE, hd]
    simp [h1, h2]
  · have h1 : qOk 2147483647 lr = decide (n ≤ 2147483647) := by simp [qOk, hd]
    have h2 : rest lr = r := by rw [rest, hd]
    rw [h1]; rw [h2] at hx
    rw [rdE, hd]; simp only []
    rcases hx with ⟨rfl, hq⟩ | ⟨he, hq⟩
    · rw [hq]; simp only []
      by_cases h3 : n ≤ 2147483647
      · rw [if_pos h3]
        have h4 : qV lr = (n : Int) := by rw [qV, qN, hd]; exact wr_i64 (x := (n : Int)) (by omega) (by omega)
        simp [h3, h4]
      · rw [if_neg h3]; simp [h3]
    · rw [hq]; simp [he]
theorem qOk_num {l : List UInt8} {most : Nat} (h : qOk most l = true) (hm : most ≤ 9223372036854775807) : ∃ m, m ≤ most ∧ qV l = (m : Nat) ∧ rdNum l = some (m, rest l) := by
  rcases hd : rdNum l with _ | ⟨n, r⟩
  · rw [qOk, hd] at h; cases h
  · rw [qOk, hd] at h
    have h2 : rest l = r := by rw [rest, hd]
    have h3 : n ≤ most := by simpa using h
    exact ⟨n, h3, by rw [qV, qN, hd]; exact wr_i64 (x := (n : Int)) (by omega) (by omega), by rw [h2]⟩
theorem rest_len (l : List UInt8) : (rest l).length ≤ l.length := by
  rw [rest]; rcases hd : rdNum l with _ | ⟨n, r⟩
  · exact Nat.le_refl _
  · have := congrArg List.length (rdNum_form hd)
    rw [List.length_append] at this
    simp only []; omega
/-- what the document's reading of entries tells -/
def EntsOk (ok ok' : Bool) (l l' : List UInt8) (es : List EnV) : Prop := (ok' = true → ok = true ∧ tryRd (rdList rdE) 64 l = .ok (es, l')) ∧ (ok' = false → ok = false ∨ ∃ e, tryRd (rdList rdE) 64 l = .error e)
set_option maxHeartbeats 4000000 in
theorem refents_c {w : World} {F : Nat → Prop} {bx rb : Nat} {l : List UInt8} {ok : Bool} (HB1 : Blk w bx [.pointer (some ⟨rb, 0, none⟩), .bool ok] 128) (HR : Rf w rb F l) (hF : ∀ k, F k → k < rb) (hx : rb < bx) (hl : l.length ≤ 10000000000) : CallsR Try.prog 88 #[.pointer (some ⟨bx, 0, none⟩)] w (fun o w' => ∃ es l' ok', (SlV tEn w' (fun b => w.heap.size ≤ b) o es ∧ (Blk w' bx [.pointer (some ⟨rb, 0, none⟩), .bool ok'] 128 ∧ Rf w' rb F l') ∧ EntsOk ok ok' l l' es) ∧ Keep (fun k => k = bx ∨ k = rb) w w') := by
  have hnF : ¬ F rb := fun h => absurd (hF rb h) (Nat.lt_irrefl rb)
  have zb1 := HB1.lt
  obtain ⟨n0, hn0⟩ : ∃ n, n = w.heap.size := ⟨_, rfl⟩
  refine enter 50 Try.func88 rfl rfl (by simp) ?_
  refine c_seq ?_
  have E := Keep.refl (K := fun k => k = bx ∨ k = rb) w
  refine wp_reg (by decide +kernel) ?_
  refine l_v (v_assign rfl) ?_
  refine l_nil ?_
  refine n_then ?_
  refine c_seq ?_
  refine wp_reg (by decide +kernel) ?_
  refine l_v (v_move (t := .pointer _) rfl) ?_
  refine l_to (to_f2 (by kernel_rfl) (show _ = (Value.pointer _) from rfl) (show _ = (Value.int _ _) from rfl) (CallsR.mono (refnum_c (most := 64) HB1 HR hF hx (by decide)) ?_))
  rintro _ w3 ⟨rfl, ⟨HB1, HR3⟩, k3⟩
  have zs_k3 := k3.size
  replace HR3 : Rf w3 rb F (rest l) := HR3
  replace HB1 : Blk w3 bx [.pointer (some ⟨rb, 0, none⟩), .bool (ok && qOk 64 l)] 128 := HB1
  have hr1 := rest_len l
  replace E := E.step k3 (by intro i hi he; have he0 := he; (try dsimp only [NoK] at hi he ⊢); (try simp only [Value.ownBlock, Option.some.injEq] at he); first | exact he.elim | omega | exact he | (have := hF _ hi0; have := zo_HOy _ he; omega))
  refine l_v (v_assign (t := .int _ _) rfl) ?_
  refine l_nil ?_
  refine n_then ?_
  refine c_seq ?_
  refine wp_reg (by decide +kernel) ?_
  refine l_v (v_assign rfl) ?_
  refine l_nil ?_
  refine n_then ?_
  refine c_seq ?_
  refine c_seq ?_
  refine wp_reg (by decide +kernel) ?_
  refine l_v (v_assign rfl) ?_
  refine l_nil ?_
  refine n_then ?_
  refine c_block ?_
  refine c_loop (τ := Nat × Value × List EnV × List UInt8 × Bool) [4, 5, 6, 7, 8, 11, 12, 13, 14, 15, 16, 17, 18, 19, 20, 21, 22, 23, 24, 25, 26, 27, 28, 29, 30, 31, 32, 33, 34, 35, 36, 37, 38, 39, 40, 41, 42, 43, 44, 45, 46, 47, 48] (fun (i, x, xs, lr, k) => [(5, .int .i64 i), (4, x)]) (fun (i, x, xs, lr, k) W => Keep (fun k => k = bx ∨ k = rb) w W ∧ Keep (fun b => b = bx ∨ b = rb ∨ n0 ≤ b) w3 W ∧ xs.length = i ∧ Blk W bx [.pointer (some ⟨rb, 0, none⟩), .bool k] 128 ∧ OwV tEn 73 W n0 (fun b => n0 ≤ b ∧ b < W.heap.size) x xs ∧ Rf W rb F lr ∧ lr.length ≤ l.length ∧ (k = true → ok = true ∧ ∃ m, m ≤ 64 ∧ i ≤ m ∧ qV l = (m : Nat) ∧ rdNum l = some (m, rest l) ∧ rdList rdE m (rest l) = bindL xs (rdList rdE (m - i) lr)) ∧ (k = false → ok = false ∨ ∃ e, tryRd (rdList rdE) 64 l = .error e)) (fun (i, x, xs, lr, k) => 64 - i) (0, .slice none 0 0, [], rest l, ok && qOk 64 l) (by exact ⟨rfl, rfl, trivial⟩) (by exact ⟨E, Keep.refl _, rfl, HB1, OwV.nil _ _ _ _ _, HR3, hr1, fun h => (by simp only [Bool.and_eq_true] at h; obtain ⟨m, h1, h2, h3⟩ := qOk_num h.2 (by decide); exact ⟨h.1, m, h1, Nat.zero_le _, h2, h3, (bindL_nil _).symm⟩), fun h => (by cases hok : ok; exact .inl rfl; right; rw [hok] at h; simp only [Bool.true_and] at h; rcases hd : rdNum l with _ | ⟨n, r⟩; exact ⟨4, by rw [tryRd, hd]⟩; exact ⟨3, by rw [qOk, hd] at h; rw [tryRd, hd]; simp only []; rw [if_neg (by simpa using h)]⟩)⟩) ?_
  rintro ⟨i, x, xs, lr, k⟩ w101 j ⟨E, EL1, hxl, HB1, HOx, HR6, hlr, hk1, hk2⟩
  have zs_EL1 := EL1.size
  have zo_HOx := fun (b : Nat) h => HOx.own_lt (b := b) h
  refine c_seq ?_
  refine c_seq ?_
  obtain ⟨ax, cx, rfl⟩ := HOx.shape
  refine wp_reg (by decide +kernel) ?_
  refine l_v (v_move (t := .int _ _) rfl) ?_
  refine l_v (v_move (t := .int _ _) rfl) ?_
  refine l_v (v_lss rfl rfl) ?_
  refine l_v (v_move (t := .bool _) rfl) ?_
  refine l_g1 rfl rfl (fun hG => v_move (t := .pointer _) rfl) ?_
  refine l_g1 rfl rfl (fun hG => v_nilCheck (gd hG rfl)) ?_
  refine l_g1 rfl rfl (fun hG => v_fieldAddr (off := 1) (ft := 4) (by kernel_rfl) (gd hG rfl)) ?_
  refine l_g1 rfl rfl (fun hG => v_load (by kernel_rfl) (gd hG rfl) (by first | exact HB1.pv 1 _ rfl | assumption)) ?_
  refine l_v (v_and rfl rfl) ?_
  refine l_nil ?_
  refine n_then ?_
  refine c_cond rfl rfl (fun hlt => ?_) (fun hlt => ?_)
  · skip
    simp only [Bool.and_eq_true, decide_eq_true_eq] at hlt
    obtain ⟨hlt, rfl⟩ := hlt
    obtain ⟨hok, m, hm1, hm2, hm3, hm4, hm5⟩ := hk1 rfl
    obtain ⟨Bh, hBh⟩ : ∃ Bh, Bh = w101.heap.size := ⟨_, rfl⟩
    refine c_skip ?_
    refine n_then ?_
    refine c_seq ?_
    refine c_block ?_
    refine c_seq ?_
    refine wp_reg (by decide +kernel) ?_
    refine l_v (v_move (t := .pointer _) rfl) ?_
    refine l_to (to_f2 (by kernel_rfl) (show _ = (Value.pointer _) from rfl) (show _ = (Value.int _ _) from rfl) (CallsR.mono (refnum_c (most := 2147483647) HB1 HR6 hF hx (by decide)) ?_))
    rintro _ w7 ⟨rfl, ⟨HB1, HR7⟩, k7⟩
    have zs_k7 := k7.size
    replace HR7 : Rf w7 rb F (rest lr) := HR7
    replace HB1 : Blk w7 bx [.pointer (some ⟨rb, 0, none⟩), .bool (qOk 2147483647 lr)] 128 := HB1
    have hr2 := rest_len lr
    replace E := E.step k7 (by intro i hi he; have he0 := he; (try dsimp only [NoK] at hi he ⊢); (try simp only [Value.ownBlock, Option.some.injEq] at he); first | exact he.elim | omega | exact he | (have := hF _ hi0; have := zo_HOy _ he; omega))
    replace HOx := HOx.keep k7 (by intro i ho he; have he0 := he; have ho0 := ho; (try dsimp only [NoK] at he); (try simp only [Value.ownBlock, Option.some.injEq, reduceCtorEq] at ho); (try simp only [Value.ownBlock, Option.some.injEq, reduceCtorEq] at he); first | exact he.elim | exact ho.elim | omega | (have := zo_HOx _ ho0; omega)) (by intro i _ hi _ he; have he0 := he; have hi := hi; have he := he; (try dsimp only [NoK, AllB] at hi he); (try simp only [Value.ownBlock, Option.some.injEq, reduceCtorEq] at he); all_goals first | exact hi.elim | exact hi.1.elim | exact he.elim | omega | (rcases hi with hi | hi <;> omega) | (rcases he with he | he <;> omega) | (have := hF _ hi0; have := zo_HOy _ he; omega))
    replace EL1 := EL1.step k7 (by intro i hi he; have he0 := he; (try dsimp only [NoK] at hi he ⊢); (try simp only [Value.ownBlock, Option.some.injEq] at he); first | exact he.elim | omega | exact he | (have := hF _ hi0; have := zo_HOy _ he; omega))
    refine l_v (v_assign (t := .int _ _) rfl) ?_
    refine l_nil ?_
    refine n_then ?_
    refine c_seq ?_
    refine wp_reg (by decide +kernel) ?_
    refine l_v (v_move (t := .pointer _) rfl) ?_
    refine l_v (v_nilCheck rfl) ?_
    refine l_v (v_fieldAddr (off := 0) (ft := 124) (by kernel_rfl) rfl) ?_
    refine l_v (v_load (by kernel_rfl) rfl (by first | exact HB1.pv 0 _ rfl | assumption)) ?_
    refine l_to (to_f2 (by kernel_rfl) (show _ = (Value.pointer _) from rfl) (show _ = (Value.int _ _) from rfl) (CallsR.mono (refRBytes_c (most := 1048576) HR7 (fun k h => by have := hF k h; omega) hnF (by decide) (by decide) (by omega)) ?_))
    rintro r w11 ⟨hr11, k11⟩
    have zs_k11 := k11.size
    obtain ⟨a11, c11, er11, fr, l1, rfl, HS11, HR11, hx11⟩ := TryF_any hr11
    replace E := E.step k11 (by intro i hi he; have he0 := he; (try dsimp only [NoK] at hi he ⊢); (try simp only [Value.ownBlock, Option.some.injEq] at he); first | exact he.elim | omega | exact he | (have := hF _ hi0; have := zo_HOy _ he; omega))
    replace HOx := HOx.keep k11 (by intro i ho he; have he0 := he; have ho0 := ho; (try dsimp only [NoK] at he); (try simp only [Value.ownBlock, Option.some.injEq, reduceCtorEq] at ho); (try simp only [Value.ownBlock, Option.some.injEq, reduceCtorEq] at he); first | exact he.elim | exact ho.elim | omega | (have := zo_HOx _ ho0; omega)) (by intro i _ hi _ he; have he0 := he; have hi := hi; have he := he; (try dsimp only [NoK, AllB] at hi he); (try simp only [Value.ownBlock, Option.some.injEq, reduceCtorEq] at he); all_goals first | exact hi.elim | exact hi.1.elim | exact he.elim | omega | (rcases hi with hi | hi <;> omega) | (rcases he with he | he <;> omega) | (have := hF _ hi0; have := zo_HOy _ he; omega))
    replace EL1 := EL1.step k11 (by intro i hi he; have he0 := he; (try dsimp only [NoK] at hi he ⊢); (try simp only [Value.ownBlock, Option.some.injEq] at he); first | exact he.elim | omega | exact he | (have := hF _ hi0; have := zo_HOy _ he; omega))
    replace HB1 := HB1.keep k11 (by intro h; have he0 := h; (try dsimp only at h); (try simp only [Value.ownBlock, Option.some.injEq] at h); first | omega | (have he := he0; have := hF _ hi0; have := zo_HOy _ he; omega))
    refine l_v (v_move (t := .tuple _) rfl) ?_
    refine l_v (v_extract (t := .slice _ _ _) rfl rfl) ?_
    refine l_v (v_extract (t := .int _ _) rfl rfl) ?_
    refine l_v (v_assign (t := .slice _ _ _) rfl) ?_
    refine l_v (v_assign (t := .int _ _) rfl) ?_
    refine l_nil ?_
    refine n_then ?_
    refine c_seq ?_
    refine wp_reg (by decide +kernel) ?_
    refine l_v (v_move (t := .pointer _) rfl) ?_
    refine l_v (v_move (t := .pointer _) rfl) ?_
    refine l_v (v_nilCheck rfl) ?_
    refine l_v (v_fieldAddr (off := 1) (ft := 4) (by kernel_rfl) rfl) ?_
    refine l_v (v_load (by kernel_rfl) rfl (by first | exact HB1.pv 1 _ rfl | assumption)) ?_
    refine l_v (v_move (t := .bool _) rfl) ?_
    refine l_g1 rfl rfl (fun hG => v_move (t := .int _ _) rfl) ?_
    refine l_g1 rfl rfl (fun hG => v_eql (gd hG rfl) rfl) ?_
    refine l_v (v_and rfl rfl) ?_
    refine l_v (v_nilCheck rfl) ?_
    refine l_v (v_fieldAddr (off := 1) (ft := 4) (by kernel_rfl) rfl) ?_
    refine l_to (to_store rfl rfl (show _ = (Value.bool _) from rfl) rfl (by kernel_rfl) HB1 (by simp) ?_)
    rintro w31 HB1 k31 z31
    have zs_k31 := k31.size
    try simp only [List.set_cons_zero, List.set_cons_succ] at HB1
    replace E := E.step k31 (by intro i hi he; have he0 := he; (try dsimp only [NoK] at hi he ⊢); (try simp only [Value.ownBlock, Option.some.injEq] at he); first | exact he.elim | omega | exact he | (have := hF _ hi0; have := zo_HOy _ he; omega))
    replace HOx := HOx.keep k31 (by intro i ho he; have he0 := he; have ho0 := ho; (try dsimp only [NoK] at he); (try simp only [Value.ownBlock, Option.some.injEq, reduceCtorEq] at ho); (try simp only [Value.ownBlock, Option.some.injEq, reduceCtorEq] at he); first | exact he.elim | exact ho.elim | omega | (have := zo_HOx _ ho0; omega)) (by intro i _ hi _ he; have he0 := he; have hi := hi; have he := he; (try dsimp only [NoK, AllB] at hi he); (try simp only [Value.ownBlock, Option.some.injEq, reduceCtorEq] at he); all_goals first | exact hi.elim | exact hi.1.elim | exact he.elim | omega | (rcases hi with hi | hi <;> omega) | (rcases he with he | he <;> omega) | (have := hF _ hi0; have := zo_HOy _ he; omega))
    replace EL1 := EL1.step k31 (by intro i hi he; have he0 := he; (try dsimp only [NoK] at hi he ⊢); (try simp only [Value.ownBlock, Option.some.injEq] at he); first | exact he.elim | omega | exact he | (have := hF _ hi0; have := zo_HOy _ he; omega))
    replace HS11 := HS11.keep k31 (by intro i _ hi he; have he0 := he; (try dsimp only [NoK, AllB] at hi he); (try simp only [Value.ownBlock, Option.some.injEq] at he); first | exact hi.elim | exact he.elim | omega | (rcases hi with hi | hi <;> omega) | (rcases he with he | he <;> omega) | (have := hF _ hi0; have := zo_HOy _ he; omega))
    replace HR11 := HR11.keep k31 (by intro h; have h := h; (try dsimp only [NoK] at h); first | exact h | omega | (rcases h with h | h <;> omega) | (have := hF _ hi0; have := zo_HOy _ he; omega)) (by intro i hi he; have hi0 := hi; have hi := hi; have he := he; (try dsimp only [NoK] at hi he); first | exact he.elim | omega | (have := hF i hi0; omega) | (have := hF _ hi0; have := zo_HOy _ he; omega))
    refine l_nil ?_
    refine n_then ?_
    have hst := qE_step (lr := lr) (fr := fr) (l1 := l1) (er := er11) (hx11.elim (fun h => .inl h) (fun h => .inr ⟨h.1, h.2.2.2⟩))
    have hwf := qV_wf lr
    have hmi : m - i = (m - (i + 1)) + 1 := by omega
    have hfl : fr.length ≤ 1048576 ∧ l1.length ≤ lr.length := by
      rcases hx11 with ⟨_, hq⟩ | ⟨_, h1, h2, _⟩
      · have := rdBytes_le (show rdBytes 1048576 (rest lr) = _ from hq); exact ⟨this.2.1, by omega⟩
      · rw [h1, h2]; exact ⟨by simp, hr2⟩
    have HOy := HOx.mono (F' := fun b => n0 ≤ b) fun b _ h => h.1
    have zo_HOy := zo_HOx
    have zo_HOy := fun (b : Nat) h => HOy.own_lt (b := b) h
    refine wp_reg (by decide +kernel) ?_
    refine l_v (v_move (t := .slice _ _ _) rfl) ?_
    refine l_v (v_move (t := .int _ _) rfl) ?_
    refine l_v (v_move (t := .slice _ _ _) rfl) ?_
    refine l_v (v_build (pl := [(0, 1), (1, 1)]) (z := .agg #[.int .i64 0, .slice none 0 0]) (zl := [.int .i64 0, .slice none 0 0]) (by kernel_rfl) (by unfold kZero; kernel_rfl) rfl rfl (cells := [_, _]) rfl) ?_
    refine l_to (to_slice1 (t := tEn) (et := 73) (bytes := 32) (by kernel_rfl) (by decide) (show _ = (Value.agg _) from rfl) ((show tEn.rep _ (fun b => w7.heap.size ≤ b) [.int .i64 (qV lr), .slice a11 fr.length c11] (qV lr, fr) from ⟨[_], [_], rfl, ⟨rfl, wf_of_i64 hwf⟩, _, rfl, HS11⟩)) ?_)
    rintro b50 w50 zb50 HO50 e50 z50
    have zs_e50 := e50.size
    replace E := E.trans (Ext.keep e50)
    replace EL1 := EL1.trans (Ext.keep e50)
    replace HS11 := HS11.ext e50
    replace HR11 := HR11.ext e50
    replace HB1 := HB1.ext e50
    replace HOy := HOy.ext e50
    have zo_HO50 := fun (b : Nat) h => HO50.own_lt (b := b) h
    refine l_to (to_append (et := 73) (bytes := 32) (by kernel_rfl) (show _ = (Value.slice _ _ _) from rfl) HOy (show _ = (Value.slice _ _ _) from rfl) (HO50.view.mono (F' := fun b => Bh ≤ b) (fun i _ hi => hi.elim (fun h => by omega) (fun h => by have := h.1; (try dsimp only at this); omega))) (deepF fun b hb hb2 => ⟨by omega, fun ho => by have := zo_HOx _ ho; omega⟩) (by first | omega | (simp; done) | (simp; omega)) (by simp only [maxLen]; first | omega | (simp; done) | (simp; omega)) (by omega) ?_)
    rintro a51 n51 c51 w51 HO51 hn51 k51 h51 i51
    have zs_k51 := k51.size
    replace E := E.step k51 (by intro i hi he; have he0 := he; (try dsimp only [NoK] at hi he ⊢); (try simp only [Value.ownBlock, Option.some.injEq] at he); first | exact he.elim | omega | exact he | (have := (HOy).own_lt he0; omega) | (have := zo_HOy _ he0; omega) | (have := (HOy).own_lt he0; rcases hi with hi | hi <;> omega) | (have := hF _ hi0; have := zo_HOy _ he; omega))
    replace EL1 := EL1.step k51 (by intro i hi he; have he0 := he; (try dsimp only [NoK] at hi he ⊢); (try simp only [Value.ownBlock, Option.some.injEq] at he); first | exact he.elim | omega | exact he | (have := (HOy).own_lt he0; omega) | (have := zo_HOy _ he0; omega) | (have := (HOy).own_lt he0; rcases hi with hi | hi <;> omega) | (have := hF _ hi0; have := zo_HOy _ he; omega))
    replace HR11 := HR11.keep k51 (by intro h; have h := h; (try dsimp only [NoK] at h); first | exact h | omega | (rcases h with h | h <;> omega) | (have := (HOy).own_lt h; omega) | (have := zo_HOy _ h; omega) | (have := (HOy).own_lt h; rcases hi with hi | hi <;> omega) | (have := hF _ hi0; have := zo_HOy _ he; omega)) (by intro i hi he; have hi0 := hi; have hi := hi; have he := he; (try dsimp only [NoK] at hi he); first | exact he.elim | omega | (have := hF i hi0; omega) | (have := (HOy).own_lt he; omega) | (have := zo_HOy _ he; omega) | (have := (HOy).own_lt he; rcases hi with hi | hi <;> omega) | (have := hF _ hi0; have := zo_HOy _ he; omega))
    replace HB1 := HB1.keep k51 (by intro h; have he0 := h; (try dsimp only at h); (try simp only [Value.ownBlock, Option.some.injEq] at h); first | omega | (have := (HOy).own_lt he0; omega) | (have := zo_HOy _ he0; omega) | (have he := he0; have := hF _ hi0; have := zo_HOy _ he; omega))
    have zo_HO51 := fun (b : Nat) h => HO51.own_lt (b := b) h
    refine l_v (v_assign (t := .slice _ _ _) rfl) ?_
    refine l_nil ?_
    refine n_blk ?_
    refine n_then ?_
    refine wp_reg (by decide +kernel) ?_
    refine l_v (v_move (t := .int _ _) rfl) ?_
    refine l_v (v_add rfl rfl (by first | exact wr_i64 (by omega) (by omega) | rfl)) ?_
    refine l_v (v_assign (t := .int _ _) rfl) ?_
    refine l_nil ?_
    refine n_then ?_
    refine ⟨(i + 1, .slice a51 n51 c51, xs ++ [(qV lr, fr)], l1, qOk 2147483647 lr && decide (er11 = 0)), _, rfl, by (repeat (first | exact Off.of_over _ _ _ | refine Off.upd ?_ (by decide) _ | refine Off.overs ?_ (by decide) _)), ⟨by first | rfl | exact congrArg (Value.int _) (by omega) | (simp; done), by first | rfl | exact congrArg (Value.int _) (by omega) | (simp; done), trivial⟩, ⟨E, EL1, ?_⟩, ?_⟩
    · skip
      refine ⟨by simp; omega, HB1, HO51.mono fun b hb h => ⟨h, hb⟩, HR11, by omega, fun h => ⟨hok, m, hm1, by omega, hm3, hm4, ?_⟩, fun h => .inr ⟨4, ?_⟩⟩
      · rw [hm5, hmi]; exact rdList_ok (hst.1 h)
      · rw [tryRd, hm4]; simp only []; rw [if_pos hm1, hm5, hmi]; exact rdList_err (hst.2 h)
    · (dsimp only; omega)
  · skip
    refine c_exit ?_
    refine x_then ?_
    refine x_then ?_
    refine x_hit ?_
    refine n_then ?_
    refine c_seq ?_
    refine wp_reg (by decide +kernel) ?_
    refine l_v (v_move (t := .slice _ _ _) rfl) ?_
    refine l_v (v_assign (t := .slice _ _ _) rfl) ?_
    refine l_nil ?_
    refine n_then ?_
    refine c_ret ?_
    refine ret1v rfl (by decide) (show _ = (Value.slice _ _ _) from rfl) ?_
    refine ⟨xs, lr, k, ⟨HOx.view.mono fun b _ h => (h.elim (fun h => by omega) (fun h => by omega)), ⟨HB1, HR6⟩, fun h => ?_, hk2⟩, E⟩
    subst h
    obtain ⟨hok, m, hm1, hm2, hm3, hm4, hm5⟩ := hk1 rfl
    simp only [Bool.and_true, decide_eq_false_iff_not] at hlt
    have hmi : m - i = 0 := by omega
    refine ⟨hok, ?_⟩
    rw [tryRd, hm4]; simp only []; rw [if_pos hm1, hm5, hmi]; simp [rdList, bindL]
end Go.Proofs.Ytaidpdjlchnonaa
