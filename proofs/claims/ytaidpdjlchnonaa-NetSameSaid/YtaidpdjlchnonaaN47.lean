/- A part of the proof: steps and lemmas for the walks through the given program. -/
import Derived.Test.YtaidpdjlchnonaaN46
import Derived.Test.YtaidpdjlchnonaaGd
namespace Go.Proofs.Ytaidpdjlchnonaa
open Go.Vc
set_option linter.unusedVariables false
set_option linter.unusedSimpArgs false
set_option maxRecDepth 100000

theorem pv_at0 {w : World} {b k s : Nat} {cs : List Value} (h : Pv w ⟨b, k * s, none⟩ cs) : Pv w ((⟨b, 0, none⟩ : Addr).add (k * s)) cs := by simpa [add_lit] using h
set_option maxHeartbeats 8000000 in
theorem do1_c {w : World} {n0 bw br lost : Nat} {ms : List Ms} {r : StpV} {a7 : Option Addr} {c7 : Nat} (hW : WR w n0 bw br ms lost) (HS7 : SlV tMs w (fun i => i < n0) (.slice a7 r.2.2.length c7) r.2.2) (hst : stOk r) (hlo : lost ≤ 100000) (hk : r.1 = 1) : CallsR Try.prog 29 #[.pointer (some ⟨bw, 0, none⟩), .pointer (some ⟨br, 0, none⟩), .agg #[.int .i64 r.1, .int .i64 r.2.1, .slice a7 r.2.2.length c7]] w (DoP n0 bw br lost w) := by
  obtain ⟨hne, hb0, hr0, ⟨a1, c1, HB1, HS1⟩, ⟨a2, c2, HB2, HS2⟩, hmay, hlen⟩ := hW
  obtain ⟨n1, hn1⟩ : ∃ n, n = w.heap.size := ⟨_, rfl⟩
  have zl1 := HB1.lt
  have zl2 := HB2.lt
  replace HS1 := HS1.mono (F' := fun i => i ≠ bw ∧ i ≠ br ∧ i < n1) fun b hb h => ⟨h.1, h.2, by omega⟩
  replace HS2 := HS2.mono (F' := fun i => i ≠ bw ∧ i ≠ br ∧ i < n1) fun b hb h => ⟨h.1, h.2, by omega⟩
  obtain ⟨hs1, hs2⟩ := hst
  have hm2 := HS2.len_max
  refine enter 281 Try.func29 rfl rfl (by simp) ?_
  refine c_seq ?_
  have E := Keep.refl (K := fun i => i = bw ∨ i = br) w
  refine wp_reg (by decide +kernel) ?_
  refine l_to (to_box (show _ = (Value.agg _) from rfl) ?_)
  rintro b5 w5 zb5 HB5 e5 z5
  have zs_e5 := e5.size
  replace E := E.trans (Ext.keep e5)
  replace HB1 := HB1.ext e5
  replace HB2 := HB2.ext e5
  replace HS1 := HS1.ext e5
  replace HS2 := HS2.ext e5
  replace HS7 := HS7.ext e5
  try simp only [Value.cells] at HB5
  refine l_v (v_assign rfl) ?_
  refine l_v (v_assign rfl) ?_
  refine l_v (v_assign rfl) ?_
  refine l_nil ?_
  refine n_then ?_
  refine c_seq ?_
  refine wp_regd (NoK) (by kernel_rfl) (by decide +kernel) (by decide +kernel) ?_
  refine rt_v (fun vals w hR hd => v_fieldAddr (off := 1) (ft := 3) (by kernel_rfl) rfl) ?_
  refine rt_v (fun vals w hR hd => v_load (by kernel_rfl) (hd 0 rfl) (by first | exact (HB5.ext hR).pv 1 _ rfl | exact (HB2.ext hR).pv 1 _ rfl | exact (HB1.ext hR).pv 1 _ rfl | assumption)) ?_
  refine rt_v (fun vals w hR hd => v_geq (hd 1 rfl) rfl) ?_
  refine rt_v (fun vals w hR hd => v_move (t := .bool _) (hd 2 rfl)) ?_
  refine rt_g1 rfl (fun vals w hd => hd 3 rfl) (fun vals w hR hd hG => v_fieldAddr (off := 1) (ft := 3) (by kernel_rfl) rfl) ?_
  refine rt_g1 rfl (fun vals w hd => hd 3 rfl) (fun vals w hR hd hG => v_load (by kernel_rfl) (gd hG (hd 4 rfl)) (by first | exact (HB5.ext hR).pv 1 _ rfl | exact (HB2.ext hR).pv 1 _ rfl | exact (HB1.ext hR).pv 1 _ rfl | assumption)) ?_
  refine rt_g1 rfl (fun vals w hd => hd 3 rfl) (fun vals w hR hd hG => v_move (t := .pointer _) rfl) ?_
  refine rt_g1 rfl (fun vals w hd => hd 3 rfl) (fun vals w hR hd hG => v_nilCheck (gd hG (hd 6 rfl))) ?_
  refine rt_g1 rfl (fun vals w hd => hd 3 rfl) (fun vals w hR hd hG => v_fieldAddr (off := 0) (ft := 41) (by kernel_rfl) (gd hG (hd 7 rfl))) ?_
  refine rt_g1 rfl (fun vals w hd => hd 3 rfl) (fun vals w hR hd hG => v_load (by kernel_rfl) (gd hG (hd 8 rfl)) (by first | exact (HB5.ext hR).pv 0 _ rfl | exact (HB2.ext hR).pv 0 _ rfl | exact (HB1.ext hR).pv 0 _ rfl | assumption)) ?_
  refine rt_g1 rfl (fun vals w hd => hd 3 rfl) (fun vals w hR hd hG => v_len (et := 26) (by kernel_rfl) (gd hG (hd 9 rfl))) ?_
  refine rt_g1 rfl (fun vals w hd => hd 3 rfl) (fun vals w hR hd hG => v_lss (gd hG (hd 5 rfl)) (gd hG (hd 10 rfl))) ?_
  refine rt_v (fun vals w hR hd => v_and (hd 3 rfl) (hd 11 rfl)) ?_
  refine rt_v (fun vals w hR hd => v_assign (t := .bool _) (hd 12 rfl)) ?_
  refine rt_nil (fun w101 e101 => ?_)
  rintro _ rfl _ rfl _ rfl _ rfl _ rfl _ rfl _ rfl _ rfl _ rfl _ rfl _ rfl _ rfl _ rfl _ rfl
  have zs_e101 := e101.size
  replace E := E.trans (Ext.keep e101)
  replace HB1 := HB1.ext e101
  replace HB2 := HB2.ext e101
  replace HS1 := HS1.ext e101
  replace HS2 := HS2.ext e101
  replace HS7 := HS7.ext e101
  replace HB5 := HB5.ext e101
  refine fin_nil ?_
  refine n_then ?_
  refine c_seq ?_
  refine c_seq ?_
  refine wp_reg (by decide +kernel) ?_
  refine l_v (v_fieldAddr (off := 0) (ft := 3) (by kernel_rfl) rfl) ?_
  refine l_v (v_load (by kernel_rfl) rfl (by first | exact HB5.pv 0 _ rfl | exact HB2.pv 0 _ rfl | exact HB1.pv 0 _ rfl | assumption)) ?_
  refine l_nil ?_
  refine n_then ?_
  refine c_block ?_
  refine c_seq ?_
  refine wp_reg (by decide +kernel) ?_
  refine l_v (v_eql rfl rfl) ?_
  refine l_v (v_assign (t := .bool _) rfl) ?_
  refine l_nil ?_
  refine n_then ?_
  refine c_cond rfl rfl (fun hk1 => ?_) (fun hk1 => ?_)
  · skip
    obtain ⟨n2, hn2⟩ : ∃ n, n = w101.heap.size := ⟨_, rfl⟩
    refine c_seq ?_
    refine wp_reg (by decide +kernel) ?_
    refine l_v (v_assign rfl) ?_
    refine l_nil ?_
    refine n_then ?_
    refine c_seq ?_
    refine c_seq ?_
    refine wp_reg (by decide +kernel) ?_
    refine l_v (v_assign rfl) ?_
    refine l_nil ?_
    refine n_then ?_
    refine c_block ?_
    refine c_loop (τ := Nat × Value) [10, 11, 48, 49, 50, 51, 52, 53, 54, 55, 56, 57, 58, 59, 60, 61, 62, 63] (fun (i, x) => [(10, x), (11, .int .i64 i)]) (fun (i, x) W => Keep (fun i => i = bw ∨ i = br) w W ∧ Keep (fun b => n2 ≤ b) w101 W ∧ i ≤ r.2.2.length ∧ OwV (tMsG tEn) 26 W n2 (fun b => n2 ≤ b ∧ b < W.heap.size) x (r.2.2.take i)) (fun (i, x) => r.2.2.length - i) (0, .slice none 0 0) (by exact ⟨rfl, rfl, trivial⟩) (by exact ⟨E, Keep.refl _, Nat.zero_le _, OwV.nil _ _ _ _ _⟩) ?_
    rintro ⟨i, x⟩ w102 j ⟨E, EL1, h1, HOx⟩
    have zs_EL1 := EL1.size
    replace HB1 := HB1.keep EL1 (by intro h; (try dsimp only at h); first | omega)
    replace HB2 := HB2.keep EL1 (by intro h; (try dsimp only at h); first | omega)
    replace HS1 := HS1.keep EL1 (by intro i _ hi he; (try dsimp only [NoK, AllB] at hi he); first | exact hi.elim | exact he.elim | omega | (rcases hi with hi | hi <;> omega) | (rcases he with he | he <;> omega))
    replace HS2 := HS2.keep EL1 (by intro i _ hi he; (try dsimp only [NoK, AllB] at hi he); first | exact hi.elim | exact he.elim | omega | (rcases hi with hi | hi <;> omega) | (rcases he with he | he <;> omega))
    replace HS7 := HS7.keep EL1 (by intro i _ hi he; (try dsimp only [NoK, AllB] at hi he); first | exact hi.elim | exact he.elim | omega | (rcases hi with hi | hi <;> omega) | (rcases he with he | he <;> omega))
    replace HB5 := HB5.keep EL1 (by intro h; (try dsimp only at h); first | omega)
    have zo_HOx := fun (b : Nat) h => HOx.own_lt (b := b) h
    refine c_seq ?_
    refine c_seq ?_
    obtain ⟨ax, cx, rfl⟩ := HOx.shape
    refine wp_reg (by decide +kernel) ?_
    refine l_v (v_move (t := .int _ _) rfl) ?_
    refine l_v (v_fieldAddr (off := 2) (ft := 41) (by kernel_rfl) rfl) ?_
    refine l_v (v_load (by kernel_rfl) rfl (by first | exact HB5.pv 2 _ rfl | exact HB2.pv 2 _ rfl | exact HB1.pv 2 _ rfl | assumption)) ?_
    refine l_v (v_len (et := 26) (by kernel_rfl) rfl) ?_
    refine l_v (v_lss rfl rfl) ?_
    refine l_nil ?_
    refine n_then ?_
    refine c_cond rfl rfl (fun hlt => ?_) (fun hlt => ?_)
    · skip
      have hlt := dtrue hlt
      have htl : (r.2.2.take i).length = i := by rw [List.length_take]; omega
      obtain ⟨Bh, hBh⟩ : ∃ Bh, Bh = w102.heap.size := ⟨_, rfl⟩
      obtain ⟨m, hx, _⟩ := getE (l := r.2.2) (i := i) (by omega)
      obtain ⟨y1, y2, y3⟩ := sizeN_le2 (hs2 m (List.mem_of_getElem? hx))
      obtain ⟨q1, cs1, hq1, hF1, _, HP1, hr1⟩ := HS7.el hx
      subst hq1
      have HG1 : AgV tMs _ _ _ m := ⟨cs1, rfl, hr1⟩
      obtain ⟨d1, d2, d3, d4, rfl, _⟩ := tMs_cells hr1
      refine c_skip ?_
      refine n_then ?_
      refine c_seq ?_
      refine c_block ?_
      refine wp_reg (by decide +kernel) ?_
      refine l_v (v_move (t := .slice _ _ _) rfl) ?_
      refine l_v (v_fieldAddr (off := 2) (ft := 41) (by kernel_rfl) rfl) ?_
      refine l_v (v_load (by kernel_rfl) rfl (by first | exact HP1 2 _ rfl | exact HB5.pv 2 _ rfl | exact HB2.pv 2 _ rfl | exact HB1.pv 2 _ rfl | assumption)) ?_
      refine l_v (v_move (t := .int _ _) rfl) ?_
      refine l_v (v_indexAddr (et := 26) (sz := 11) (k := i) (by kernel_rfl) (by kernel_rfl) rfl rfl (by first | rfl | omega) (by omega)) ?_
      refine l_v (v_loadA (by kernel_rfl) rfl (by first | exact HP1 | exact HB5.pv | exact HB2.pv | exact HB1.pv | assumption) rfl) ?_
      refine l_to (to_f1 (by kernel_rfl) (show _ = (Value.agg _) from rfl) (CallsR.mono (CopyS_c HG1 (by omega) (by omega) (fun e he => by have := y3 e he; omega)) ?_))
      rintro _ w8 ⟨HG8, e8⟩
      have zs_e8 := e8.size
      replace HG8 := HG8.mono (F' := fun i => Bh ≤ i) fun b _ h => by omega
      obtain ⟨g1, f1, g2, f2, rfl, _⟩ := HG8.msG
      replace E := E.trans (Ext.keep e8)
      replace HB1 := HB1.ext e8
      replace HB2 := HB2.ext e8
      replace HS1 := HS1.ext e8
      replace HS2 := HS2.ext e8
      replace HS7 := HS7.ext e8
      replace HB5 := HB5.ext e8
      replace HOx := HOx.ext e8
      replace EL1 := EL1.trans (Ext.keep e8)
      replace HP1 := HP1.ext e8
      replace HG1 := HG1.ext e8
      refine l_to (to_slice1 (t := (tMsG tEn)) (et := 26) (bytes := 120) (by kernel_rfl) (by decide) (show _ = (Value.agg _) from rfl) (HG8.rp) ?_)
      rintro b9 w9 zb9 HO9 e9 z9
      have zs_e9 := e9.size
      replace E := E.trans (Ext.keep e9)
      replace HB1 := HB1.ext e9
      replace HB2 := HB2.ext e9
      replace HS1 := HS1.ext e9
      replace HS2 := HS2.ext e9
      replace HS7 := HS7.ext e9
      replace HB5 := HB5.ext e9
      replace HOx := HOx.ext e9
      replace EL1 := EL1.trans (Ext.keep e9)
      replace HG8 := HG8.ext e9
      have zo_HO9 := fun (b : Nat) h => HO9.own_lt (b := b) h
      have HOy := HOx.mono (F' := fun b => n2 ≤ b) fun b _ h => h.1
      have zo_HOy := zo_HOx
      have zo_HOy := fun (b : Nat) h => HOy.own_lt (b := b) h
      refine l_to (to_append (et := 26) (bytes := 120) (by kernel_rfl) (show _ = (Value.slice _ _ _) from rfl) HOy (show _ = (Value.slice _ _ _) from rfl) (HO9.view.mono (F' := fun b => Bh ≤ b) (fun i _ hi => hi.elim (fun h => by omega) (fun h => by have := h.1; (try dsimp only at this); omega))) (deepF fun b hb hb2 => ⟨by omega, fun ho => by have := zo_HOx _ ho; omega⟩) (by first | omega | (simp; done) | (simp; omega)) (by simp only [maxLen]; first | omega | (simp; done) | (simp; omega)) (by omega) ?_)
      rintro a51 n51 c51 w51 HO51 hn51 k51 h51 i51
      have zs_k51 := k51.size
      replace E := E.step k51 (by intro i hi he; have he0 := he; (try dsimp only [NoK] at hi he ⊢); (try simp only [Value.ownBlock, Option.some.injEq] at he); first | exact he.elim | omega | exact he | (have := (HOy).own_lt he0; omega) | (have := zo_HOy _ he0; omega) | (have := (HOy).own_lt he0; rcases hi with hi | hi <;> omega))
      replace HB1 := HB1.keep k51 (by intro h; have he0 := h; (try dsimp only at h); (try simp only [Value.ownBlock, Option.some.injEq] at h); first | omega | (have := (HOy).own_lt he0; omega) | (have := zo_HOy _ he0; omega))
      replace HB2 := HB2.keep k51 (by intro h; have he0 := h; (try dsimp only at h); (try simp only [Value.ownBlock, Option.some.injEq] at h); first | omega | (have := (HOy).own_lt he0; omega) | (have := zo_HOy _ he0; omega))
      replace HS1 := HS1.keep k51 (by intro i _ hi he; have he0 := he; (try dsimp only [NoK, AllB] at hi he); (try simp only [Value.ownBlock, Option.some.injEq] at he); first | exact hi.elim | exact he.elim | omega | (rcases hi with hi | hi <;> omega) | (rcases he with he | he <;> omega) | (have := (HOy).own_lt he0; omega) | (have := zo_HOy _ he0; omega) | (have := (HOy).own_lt he0; rcases hi with hi | hi <;> omega))
      replace HS2 := HS2.keep k51 (by intro i _ hi he; have he0 := he; (try dsimp only [NoK, AllB] at hi he); (try simp only [Value.ownBlock, Option.some.injEq] at he); first | exact hi.elim | exact he.elim | omega | (rcases hi with hi | hi <;> omega) | (rcases he with he | he <;> omega) | (have := (HOy).own_lt he0; omega) | (have := zo_HOy _ he0; omega) | (have := (HOy).own_lt he0; rcases hi with hi | hi <;> omega))
      replace HS7 := HS7.keep k51 (by intro i _ hi he; have he0 := he; (try dsimp only [NoK, AllB] at hi he); (try simp only [Value.ownBlock, Option.some.injEq] at he); first | exact hi.elim | exact he.elim | omega | (rcases hi with hi | hi <;> omega) | (rcases he with he | he <;> omega) | (have := (HOy).own_lt he0; omega) | (have := zo_HOy _ he0; omega) | (have := (HOy).own_lt he0; rcases hi with hi | hi <;> omega))
      replace HB5 := HB5.keep k51 (by intro h; have he0 := h; (try dsimp only at h); (try simp only [Value.ownBlock, Option.some.injEq] at h); first | omega | (have := (HOy).own_lt he0; omega) | (have := zo_HOy _ he0; omega))
      replace EL1 := EL1.step k51 (by intro i hi he; have he0 := he; (try dsimp only [NoK] at hi he ⊢); (try simp only [Value.ownBlock, Option.some.injEq] at he); first | exact he.elim | omega | exact he | (have := (HOy).own_lt he0; omega) | (have := zo_HOy _ he0; omega) | (have := (HOy).own_lt he0; rcases hi with hi | hi <;> omega))
      have zo_HO51 := fun (b : Nat) h => HO51.own_lt (b := b) h
      refine l_v (v_assign (t := .slice _ _ _) rfl) ?_
      refine l_nil ?_
      refine n_blk ?_
      refine n_then ?_
      refine wp_reg (by decide +kernel) ?_
      refine l_v (v_move (t := .int _ _) rfl) ?_
      refine l_v (v_add rfl rfl (by first | exact wr_i64 (by omega) (by omega) | rfl)) ?_
      refine l_v (v_assign (t := .int _ _) rfl) ?_
      refine l_nil ?_
      refine n_then ?_
      refine ⟨(i + 1, .slice a51 n51 c51), _, rfl, by (repeat (first | exact Off.of_over _ _ _ | refine Off.upd ?_ (by decide) _ | refine Off.overs ?_ (by decide) _)), ⟨by first | rfl | exact congrArg (Value.int _) (by omega) | (simp; done), by first | rfl | exact congrArg (Value.int _) (by omega) | (simp; done), trivial⟩, ⟨E, EL1, ?_⟩, ?_⟩
      · skip
        refine ⟨by omega, ?_⟩
        rw [List.take_add_one, hx]; exact HO51.mono fun b hb h => ⟨h, hb⟩
      · (dsimp only; omega)
    · skip
      have hi2 := dfalse hlt
      have e1 : r.2.2.take i = r.2.2 := List.take_of_length_le (by omega)
      rw [e1] at HOx zo_HOx
      rw [e1]
      obtain ⟨n3, hn3⟩ : ∃ n, n = w102.heap.size := ⟨_, rfl⟩
      rw [← hn3] at HOx
      have hown : ∀ bo, ax = some ⟨bo, 0, none⟩ → bo < n3 := fun bo h => by subst h; have h9 : n2 ≤ bo ∧ bo < _ := HOx.own_lt rfl; omega
      refine c_exit ?_
      refine x_then ?_
      refine x_then ?_
      refine x_hit ?_
      refine n_then ?_
      refine c_seq ?_
      refine wp_reg (by decide +kernel) ?_
      refine l_v (v_move (t := .pointer _) rfl) ?_
      refine l_v (v_move (t := .slice _ _ _) rfl) ?_
      refine l_to (to_f2 (by kernel_rfl) (show _ = (Value.pointer _) from rfl) (show _ = (Value.slice _ _ _) from rfl) (CallsR.mono (SendA_c HB1 HS1 ((imp_tMsG (Imp.rfl tEn)).sl HOx.view) (fun i h => h.1) hlen (by omega) (by omega)) ?_))
      rintro _ w20 ⟨rfl, ⟨a20, c20, HB1, HS20⟩, k20⟩
      have zs_k20 := k20.size
      replace HS20 := HS20.mono (F' := fun i => (i ≠ bw ∧ i ≠ br ∧ i < n1) ∨ n3 ≤ i) fun b hb h => h.elim .inl (fun h => .inr (by omega))
      replace E := E.step k20 (by intro i hi he; (try dsimp only [NoK] at hi he ⊢); first | exact he.elim | omega | exact he)
      replace HB2 := HB2.keep k20 (by intro h; (try dsimp only at h); first | omega)
      replace HS1 := HS1.keep k20 (by intro i _ hi he; (try dsimp only [NoK, AllB] at hi he); first | exact hi.elim | exact he.elim | omega | (rcases hi with hi | hi <;> omega) | (rcases he with he | he <;> omega))
      replace HS2 := HS2.keep k20 (by intro i _ hi he; (try dsimp only [NoK, AllB] at hi he); first | exact hi.elim | exact he.elim | omega | (rcases hi with hi | hi <;> omega) | (rcases he with he | he <;> omega))
      replace HS7 := HS7.keep k20 (by intro i _ hi he; (try dsimp only [NoK, AllB] at hi he); first | exact hi.elim | exact he.elim | omega | (rcases hi with hi | hi <;> omega) | (rcases he with he | he <;> omega))
      replace HB5 := HB5.keep k20 (by intro h; (try dsimp only at h); first | omega)
      replace HOx := HOx.keep k20 (by intro i ho he; have he0 := he; have ho0 := ho; (try dsimp only [NoK] at he); (try simp only [Value.ownBlock, Option.some.injEq, reduceCtorEq] at ho); (try simp only [Value.ownBlock, Option.some.injEq, reduceCtorEq] at he); first | exact he.elim | exact ho.elim | omega | (have := zo_HOx _ ho0; omega)) (by intro i _ hi _ he; have he0 := he; have hi := hi; have he := he; (try dsimp only [NoK, AllB] at hi he); (try simp only [Value.ownBlock, Option.some.injEq, reduceCtorEq] at he); all_goals first | exact hi.elim | exact hi.1.elim | exact he.elim | omega | (rcases hi with hi | hi <;> omega) | (rcases he with he | he <;> omega))
      refine l_v (v_move (t := .tuple _) rfl) ?_
      refine l_v (v_extract (t := .int _ _) rfl rfl) ?_
      refine l_v (v_extract (t := .int _ _) rfl rfl) ?_
      refine l_v (v_assign (t := .int _ _) rfl) ?_
      refine l_v (v_assign (t := .int _ _) rfl) ?_
      refine l_nil ?_
      refine n_then ?_
      refine c_seq ?_
      refine wp_reg (by decide +kernel) ?_
      refine l_v (v_move (t := .pointer _) rfl) ?_
      refine l_v (v_fieldAddr (off := 2) (ft := 41) (by kernel_rfl) rfl) ?_
      refine l_v (v_load (by kernel_rfl) rfl (by first | exact HB1.pv 2 _ rfl | exact HB5.pv 2 _ rfl | exact HB2.pv 2 _ rfl | assumption)) ?_
      refine l_to (to_f2 (by kernel_rfl) (show _ = (Value.pointer _) from rfl) (show _ = (Value.slice _ _ _) from rfl) (CallsR.mono (refSendA_c HB2 HS2 HS7 (fun i h => h.2.1) (fun i h => by have h := h; (try dsimp only at h); omega) hlen (by omega) (by omega)) ?_))
      rintro _ w21 ⟨rfl, ⟨a21, c21, HB2, HS21⟩, k21⟩
      have zs_k21 := k21.size
      replace HS21 := HS21.mono (F' := fun i => (i ≠ bw ∧ i ≠ br ∧ i < n1) ∨ n3 ≤ i) fun b hb h => by rcases h with h | h | h; exact .inl h; exact .inl (by omega); exact .inr (by omega)
      replace E := E.step k21 (by intro i hi he; (try dsimp only [NoK] at hi he ⊢); first | exact he.elim | omega | exact he)
      replace HS2 := HS2.keep k21 (by intro i _ hi he; (try dsimp only [NoK, AllB] at hi he); first | exact hi.elim | exact he.elim | omega | (rcases hi with hi | hi <;> omega) | (rcases he with he | he <;> omega))
      replace HS7 := HS7.keep k21 (by intro i _ hi he; (try dsimp only [NoK, AllB] at hi he); first | exact hi.elim | exact he.elim | omega | (rcases hi with hi | hi <;> omega) | (rcases he with he | he <;> omega))
      replace HB5 := HB5.keep k21 (by intro h; (try dsimp only at h); first | omega)
      replace HOx := HOx.keep k21 (by intro i ho he; have he0 := he; have ho0 := ho; (try dsimp only [NoK] at he); (try simp only [Value.ownBlock, Option.some.injEq, reduceCtorEq] at ho); (try simp only [Value.ownBlock, Option.some.injEq, reduceCtorEq] at he); first | exact he.elim | exact ho.elim | omega | (have := zo_HOx _ ho0; omega)) (by intro i _ hi _ he; have he0 := he; have hi := hi; have he := he; (try dsimp only [NoK, AllB] at hi he); (try simp only [Value.ownBlock, Option.some.injEq, reduceCtorEq] at he); all_goals first | exact hi.elim | exact hi.1.elim | exact he.elim | omega | (rcases hi with hi | hi <;> omega) | (rcases he with he | he <;> omega))
      replace HB1 := HB1.keep k21 (by intro h; (try dsimp only at h); first | omega)
      replace HS20 := HS20.keep k21 (by intro i _ hi he; (try dsimp only [NoK, AllB] at hi he); first | exact hi.elim | exact he.elim | omega | (rcases hi with hi | hi <;> omega) | (rcases he with he | he <;> omega))
      refine l_v (v_move (t := .tuple _) rfl) ?_
      refine l_v (v_extract (t := .int _ _) rfl rfl) ?_
      refine l_v (v_extract (t := .int _ _) rfl rfl) ?_
      refine l_v (v_assign (t := .int _ _) rfl) ?_
      refine l_v (v_assign (t := .int _ _) rfl) ?_
      refine l_nil ?_
      refine n_then ?_
      refine c_seq ?_
      refine c_seq ?_
      refine wp_reg (by decide +kernel) ?_
      refine l_v (v_assign rfl) ?_
      refine l_nil ?_
      refine n_then ?_
      refine c_block ?_
      refine c_loop (τ := Nat × List Ms) [16, 17, 77, 78, 79, 80, 81, 82, 83, 84, 85, 86, 87, 88, 89, 90, 91, 92, 93, 94, 95, 96, 97, 98, 99, 100, 101, 102, 103] (fun (i, ls) => [(16, .int .i64 i)]) (fun (i, ls) W => Keep (fun i => i = bw ∨ i = br) w W ∧ Keep (fun b => n2 ≤ b ∧ b < n3) w21 W ∧ i ≤ r.2.2.length ∧ ls.length = r.2.2.length ∧ OwV (tMsG tEn) 26 W n2 (fun b => n2 ≤ b ∧ b < n3) (.slice ax r.2.2.length cx) ls) (fun (i, ls) => r.2.2.length - i) (0, r.2.2) (by exact ⟨rfl, trivial⟩) (by exact ⟨E, Keep.refl _, Nat.zero_le _, rfl, HOx⟩) ?_
      rintro ⟨i, ls⟩ w103 j ⟨E, EL2, h1, hll, HO⟩
      have zs_EL2 := EL2.size
      replace HS7 := HS7.keep EL2 (by intro i _ hi he; (try dsimp only [NoK, AllB] at hi he); first | exact hi.elim | exact he.elim | omega | (rcases hi with hi | hi <;> omega) | (rcases he with he | he <;> omega))
      replace HB5 := HB5.keep EL2 (by intro h; (try dsimp only at h); first | omega)
      replace HB1 := HB1.keep EL2 (by intro h; (try dsimp only at h); first | omega)
      replace HS20 := HS20.keep EL2 (by intro i _ hi he; (try dsimp only [NoK, AllB] at hi he); first | exact hi.elim | exact he.elim | omega | (rcases hi with hi | hi <;> omega) | (rcases he with he | he <;> omega))
      replace HB2 := HB2.keep EL2 (by intro h; (try dsimp only at h); first | omega)
      replace HS21 := HS21.keep EL2 (by intro i _ hi he; (try dsimp only [NoK, AllB] at hi he); first | exact hi.elim | exact he.elim | omega | (rcases hi with hi | hi <;> omega) | (rcases he with he | he <;> omega))
      have zo_HO := fun (b : Nat) h => HO.own_lt (b := b) h
      refine c_seq ?_
      refine c_seq ?_
      refine wp_reg (by decide +kernel) ?_
      refine l_v (v_move (t := .int _ _) rfl) ?_
      refine l_v (v_move (t := .slice _ _ _) rfl) ?_
      refine l_v (v_len (et := 26) (by kernel_rfl) rfl) ?_
      refine l_v (v_lss rfl rfl) ?_
      refine l_nil ?_
      refine n_then ?_
      refine c_cond rfl rfl (fun hlt => ?_) (fun hlt => ?_)
      · skip
        have hlt := dtrue hlt
        obtain ⟨m, hx, _⟩ := getE (l := ls) (i := i) (by omega)
        obtain ⟨bo, rfl, hbo1, hbo2⟩ := HO.addr (fun h => by rw [h] at hx; simp at hx)
        have hbo3 := hown bo rfl
        refine c_skip ?_
        refine n_then ?_
        refine c_seq ?_
        refine c_block ?_
        refine c_seq ?_
        refine c_seq ?_
        refine wp_reg (by decide +kernel) ?_
        refine l_v (v_assign rfl) ?_
        refine l_nil ?_
        refine n_then ?_
        refine c_block ?_
        refine c_loop (τ := Nat × List Ms) [17, 83, 84, 85, 86, 87, 88, 89, 90, 91, 92, 93, 94, 95, 96, 97, 98, 99] (fun (k, ls2) => [(17, .int .i64 k)]) (fun (k, ls2) W => Keep (fun i => i = bw ∨ i = br) w W ∧ Keep (fun b => n2 ≤ b ∧ b < n3) w103 W ∧ k ≤ m.snap.length ∧ ls2.length = r.2.2.length ∧ (∃ m2, ls2[i]? = some m2 ∧ m2.snap.length = m.snap.length) ∧ OwV (tMsG tEn) 26 W n2 (fun b => n2 ≤ b ∧ b < n3) (.slice (some ⟨bo, 0, none⟩) r.2.2.length cx) ls2) (fun (k, ls2) => m.snap.length - k) (0, ls) (by exact ⟨rfl, trivial⟩) (by exact ⟨E, Keep.refl _, Nat.zero_le _, hll, ⟨m, hx, rfl⟩, HO⟩) ?_
        rintro ⟨k, ls2⟩ w104 j ⟨E, EL3, h2, hll2, ⟨m2, hx2, hml⟩, HO2⟩
        have zs_EL3 := EL3.size
        replace HS7 := HS7.keep EL3 (by intro i _ hi he; (try dsimp only [NoK, AllB] at hi he); first | exact hi.elim | exact he.elim | omega | (rcases hi with hi | hi <;> omega) | (rcases he with he | he <;> omega))
        replace HB5 := HB5.keep EL3 (by intro h; (try dsimp only at h); first | omega)
        replace HB1 := HB1.keep EL3 (by intro h; (try dsimp only at h); first | omega)
        replace HS20 := HS20.keep EL3 (by intro i _ hi he; (try dsimp only [NoK, AllB] at hi he); first | exact hi.elim | exact he.elim | omega | (rcases hi with hi | hi <;> omega) | (rcases he with he | he <;> omega))
        replace HB2 := HB2.keep EL3 (by intro h; (try dsimp only at h); first | omega)
        replace HS21 := HS21.keep EL3 (by intro i _ hi he; (try dsimp only [NoK, AllB] at hi he); first | exact hi.elim | exact he.elim | omega | (rcases hi with hi | hi <;> omega) | (rcases he with he | he <;> omega))
        replace EL2 := EL2.step EL3 (by intro i hi he; (try dsimp only [NoK] at hi he ⊢); first | exact he.elim | omega | exact he)
        have zo_HO2 := fun (b : Nat) h => HO2.own_lt (b := b) h
        refine c_seq ?_
        refine c_seq ?_
        obtain ⟨cs2, HP2, hr2⟩ := HO2.pv hx2
        obtain ⟨d1, d2, d3, d4, rfl, HSe, HFz, _⟩ := tMsG_cells hr2
        replace HP2 := pv_at0 (s := 11) HP2
        refine wp_reg (by decide +kernel) ?_
        refine l_v (v_move (t := .int _ _) rfl) ?_
        refine l_v (v_move (t := .slice _ _ _) rfl) ?_
        refine l_v (v_move (t := .int _ _) rfl) ?_
        refine l_v (v_indexAddr (et := 26) (sz := 11) (k := i) (by kernel_rfl) (by kernel_rfl) rfl rfl (by first | rfl | omega) (by omega)) ?_
        refine l_v (v_fieldAddr (off := 10) (ft := 24) (by kernel_rfl) rfl) ?_
        refine l_v (v_load (by kernel_rfl) rfl (by first | exact HP2 10 _ rfl | exact HB2.pv 10 _ rfl | exact HB1.pv 10 _ rfl | exact HB5.pv 10 _ rfl | assumption)) ?_
        refine l_v (v_len (et := 5) (by kernel_rfl) rfl) ?_
        refine l_v (v_lss rfl rfl) ?_
        refine l_nil ?_
        refine n_then ?_
        refine c_cond rfl rfl (fun hlt2 => ?_) (fun hlt2 => ?_)
        · skip
          have hlt2 := dtrue hlt2
          obtain ⟨r3, hx3, _⟩ := getE (l := m2.snap) (i := k) (by omega)
          have HFb : BvF _ _ _ m2.snap := HFz
          have hmx9 := HFb.bv.len_max
          obtain ⟨q3, cs3, hq3, hF3, _, _, _⟩ := HFb.bv.el hx3
          subst hq3
          refine c_skip ?_
          refine n_then ?_
          refine c_seq ?_
          refine c_block ?_
          refine wp_reg (by decide +kernel) ?_
          refine l_v (v_move (t := .slice _ _ _) rfl) ?_
          refine l_v (v_move (t := .int _ _) rfl) ?_
          refine l_v (v_indexAddr (et := 26) (sz := 11) (k := i) (by kernel_rfl) (by kernel_rfl) rfl rfl (by first | rfl | omega) (by omega)) ?_
          refine l_v (v_fieldAddr (off := 10) (ft := 24) (by kernel_rfl) rfl) ?_
          refine l_v (v_load (by kernel_rfl) rfl (by first | exact HP2 10 _ rfl | exact HB2.pv 10 _ rfl | exact HB1.pv 10 _ rfl | exact HB5.pv 10 _ rfl | assumption)) ?_
          refine l_v (v_move (t := .int _ _) rfl) ?_
          refine l_v (v_indexAddr (et := 5) (sz := 1) (k := k) (by kernel_rfl) (by kernel_rfl) rfl rfl (by first | rfl | omega) (by omega)) ?_
          refine l_to (to_poke (k := k) (z := 102) rfl rfl (show _ = (Value.int _ _) from rfl) (by kernel_rfl) HFz (by omega) ?_)
          rintro w30 p30 k30 z30
          have zs_k30 := k30.size
          obtain ⟨ls3, hl3, hsn3, HO30⟩ := HO2.poke pk_tEn p30 k30 (fun b hb h => by cases hb; exact hF3.2 h)
          obtain ⟨m3, hx4, _⟩ := getE (l := ls3) (i := i) (by omega)
          replace E := E.step k30 (by intro i hi he; (try dsimp only [NoK] at hi he ⊢); first | exact he.elim | omega | exact he)
          replace HS7 := HS7.keep k30 (by intro i _ hi he; (try dsimp only [NoK, AllB] at hi he); first | exact hi.elim | exact he.elim | omega | (rcases hi with hi | hi <;> omega) | (rcases he with he | he <;> omega))
          replace HB5 := HB5.keep k30 (by intro h; (try dsimp only at h); first | omega)
          replace HB1 := HB1.keep k30 (by intro h; (try dsimp only at h); first | omega)
          replace HS20 := HS20.keep k30 (by intro i _ hi he; (try dsimp only [NoK, AllB] at hi he); first | exact hi.elim | exact he.elim | omega | (rcases hi with hi | hi <;> omega) | (rcases he with he | he <;> omega))
          replace HB2 := HB2.keep k30 (by intro h; (try dsimp only at h); first | omega)
          replace HS21 := HS21.keep k30 (by intro i _ hi he; (try dsimp only [NoK, AllB] at hi he); first | exact hi.elim | exact he.elim | omega | (rcases hi with hi | hi <;> omega) | (rcases he with he | he <;> omega))
          replace EL2 := EL2.step k30 (by intro i hi he; (try dsimp only [NoK] at hi he ⊢); first | exact he.elim | omega | exact he)
          replace EL3 := EL3.step k30 (by intro i hi he; (try dsimp only [NoK] at hi he ⊢); first | exact he.elim | omega | exact he)
          have zo_HO30 := fun (b : Nat) h => HO30.own_lt (b := b) h
          refine l_nil ?_
          refine n_blk ?_
          refine n_then ?_
          refine wp_reg (by decide +kernel) ?_
          refine l_v (v_move (t := .int _ _) rfl) ?_
          refine l_v (v_add rfl rfl (by first | exact wr_i64 (by omega) (by omega) | rfl)) ?_
          refine l_v (v_assign (t := .int _ _) rfl) ?_
          refine l_nil ?_
          refine n_then ?_
          refine ⟨(k + 1, ls3), _, rfl, by (repeat (first | exact Off.of_over _ _ _ | refine Off.upd ?_ (by decide) _ | refine Off.overs ?_ (by decide) _)), ⟨by first | rfl | exact congrArg (Value.int _) (by omega) | (simp; done), trivial⟩, ⟨E, EL3, ?_⟩, ?_⟩
          · skip
            exact ⟨by omega, by omega, ⟨m3, hx4, by rw [hsn3 i m2 m3 hx2 hx4]; exact hml⟩, HO30⟩
          · (dsimp only; omega)
        · skip
          refine c_exit ?_
          refine x_then ?_
          refine x_then ?_
          refine x_hit ?_
          refine n_then ?_
          refine wp_reg (by decide +kernel) ?_
          refine l_v (v_move (t := .slice _ _ _) rfl) ?_
          refine l_v (v_move (t := .int _ _) rfl) ?_
          refine l_v (v_indexAddr (et := 26) (sz := 11) (k := i) (by kernel_rfl) (by kernel_rfl) rfl rfl (by first | rfl | omega) (by omega)) ?_
          refine l_v (v_fieldAddr (off := 8) (ft := 23) (by kernel_rfl) rfl) ?_
          refine l_to (to_storeO (k := i) (off := 8) rfl (by rw [show (tMsG tEn).sz = 11 from rfl]; simp [add_lit]) (by first | decide | exact (of_decide_eq_true rfl : 8 < 2)) (show _ = (Value.slice _ _ _) from rfl) rfl (by kernel_rfl) HO2 (x1 := { m2 with ents := [] }) hx2 (fun cs h => by obtain ⟨y1, d1, y2, d2, rfl, h1, h2, h3⟩ := tMsG_cells h; exact tMsG_mk (m := { m2 with ents := [] }) (SlV.nil _ _ _) h2 ⟨h3.1, h3.2, h3.3, h3.4, h3.5, h3.6, h3.7, h3.8⟩) ?_)
          rintro w40 HO40 k40 z40
          have zs_k40 := k40.size
          replace E := E.step k40 (by intro i hi he; (try dsimp only [NoK] at hi he ⊢); first | exact he.elim | omega | exact he)
          replace HS7 := HS7.keep k40 (by intro i _ hi he; (try dsimp only [NoK, AllB] at hi he); first | exact hi.elim | exact he.elim | omega | (rcases hi with hi | hi <;> omega) | (rcases he with he | he <;> omega))
          replace HB5 := HB5.keep k40 (by intro h; (try dsimp only at h); first | omega)
          replace HB1 := HB1.keep k40 (by intro h; (try dsimp only at h); first | omega)
          replace HS20 := HS20.keep k40 (by intro i _ hi he; (try dsimp only [NoK, AllB] at hi he); first | exact hi.elim | exact he.elim | omega | (rcases hi with hi | hi <;> omega) | (rcases he with he | he <;> omega))
          replace HB2 := HB2.keep k40 (by intro h; (try dsimp only at h); first | omega)
          replace HS21 := HS21.keep k40 (by intro i _ hi he; (try dsimp only [NoK, AllB] at hi he); first | exact hi.elim | exact he.elim | omega | (rcases hi with hi | hi <;> omega) | (rcases he with he | he <;> omega))
          replace EL2 := EL2.step k40 (by intro i hi he; (try dsimp only [NoK] at hi he ⊢); first | exact he.elim | omega | exact he)
          have zo_HO40 := fun (b : Nat) h => HO40.own_lt (b := b) h
          refine l_nil ?_
          refine n_blk ?_
          refine n_then ?_
          refine wp_reg (by decide +kernel) ?_
          refine l_v (v_move (t := .int _ _) rfl) ?_
          refine l_v (v_add rfl rfl (by first | exact wr_i64 (by omega) (by omega) | rfl)) ?_
          refine l_v (v_assign (t := .int _ _) rfl) ?_
          refine l_nil ?_
          refine n_then ?_
          refine ⟨(i + 1, ls2.set i { m2 with ents := [] }), _, rfl, by (repeat (first | exact Off.of_over _ _ _ | refine Off.upd ?_ (by decide) _ | refine Off.overs ?_ (by decide) _)), ⟨by first | rfl | exact congrArg (Value.int _) (by omega) | (simp; done), trivial⟩, ⟨E, EL2, ?_⟩, ?_⟩
          · skip
            exact ⟨by omega, by simp; omega, HO40⟩
          · (dsimp only; omega)
      · skip
        refine c_exit ?_
        refine x_then ?_
        refine x_then ?_
        refine x_hit ?_
        refine n_then ?_
        refine c_seq ?_
        refine wp_reg (by decide +kernel) ?_
        refine l_v (v_move (t := .pointer _) rfl) ?_
        refine l_v (v_move (t := .pointer _) rfl) ?_
        refine l_v (v_move (t := .int _ _) rfl) ?_
        refine l_v (v_move (t := .int _ _) rfl) ?_
        refine l_v (v_eql rfl rfl) ?_
        refine l_v (v_move (t := .bool _) rfl) ?_
        refine l_g1 rfl rfl (fun hG => v_move (t := .int _ _) rfl) ?_
        refine l_g1f rfl rfl (fun hG => to_f1 (by kernel_rfl) (gd hG rfl) (num_c)) ?_
        rintro w105 e105
        have zs_e105 := e105.size
        replace E := E.trans (Ext.keep e105)
        replace HS7 := HS7.ext e105
        replace HB5 := HB5.ext e105
        replace HB1 := HB1.ext e105
        replace HS20 := HS20.ext e105
        replace HB2 := HB2.ext e105
        replace HS21 := HS21.ext e105
        refine l_g1 rfl rfl (fun hG => v_move (t := .int _ _) rfl) ?_
        refine l_g1 rfl rfl (fun hG => v_eql (gd hG rfl) (gd hG rfl)) ?_
        refine l_v (v_and rfl rfl) ?_
        refine l_v (v_assign (t := .pointer _) rfl) ?_
        refine l_v (v_assign (t := .pointer _) rfl) ?_
        refine l_v (v_assign (t := .bool _) rfl) ?_
        refine l_nil ?_
        refine n_then ?_
        refine c_ret ?_
        refine r_blk ?_
        refine r_then ?_
        refine ret3v rfl (by decide) (by decide) (by decide) (show _ = (Value.pointer _) from rfl) (show _ = (Value.pointer _) from rfl) (show _ = (Value.bool _) from rfl) ?_
        have hn := sdN_le ms r.2.2
        exact ⟨⟨bw, sdL ms r.2.2, lost + sdN ms r.2.2, by simp, ⟨hne, hb0, hr0, ⟨a20, c20, HB1, HS20.mono fun i _ h => by omega⟩, ⟨a21, c21, HB2, HS21.mono fun i _ h => by omega⟩, sdL_may hmay, sdL_len hlen⟩, by omega⟩, E⟩
  · skip
    exact absurd hk (dfalse hk1)
end Go.Proofs.Ytaidpdjlchnonaa
