/- A part of the proof: steps and lemmas for the walks through the given program. -/
import Derived.Test.YtkaangdfpjkjpaaR6
namespace Go.Proofs.Ytkaangdfpjkjpaa
open Go.Vc
set_option linter.unusedVariables false
set_option linter.unusedSimpArgs false
set_option maxRecDepth 100000

theorem Grow_c {w : World} {n : Nat} (hn : n ≤ 1000000) : CallsR Try.prog 89 #[.slice none 0 0, .int .i64 n] w (fun o w' => OwV tRg 37 w' w.heap.size NoK o [] ∧ Ext w w') := by
  refine enter 27 Try.func89 rfl rfl (by simp) ?_
  refine c_seq ?_
  have E := Keep.refl (K := NoK) w
  refine wp_reg (by decide +kernel) ?_
  refine l_v (v_assign rfl) ?_
  refine l_nil ?_
  refine n_then ?_
  refine c_seq ?_
  refine c_seq ?_
  refine wp_reg (by decide +kernel) ?_
  refine l_v (v_move (t := .int _ _) rfl) ?_
  refine l_v (v_lss rfl rfl) ?_
  refine l_nil ?_
  refine n_then ?_
  refine c_cond rfl rfl (fun hc => ?_) (fun hc => ?_)
  · skip
    have := dtrue hc; omega
  · skip
    refine c_skip ?_
    refine n_then ?_
    refine c_seq ?_
    refine c_seq ?_
    refine wp_reg (by decide +kernel) ?_
    refine l_v (v_move (t := .int _ _) rfl) ?_
    refine l_v (v_move (t := .slice _ _ _) rfl) ?_
    refine l_v (v_cap (et := 37) (by kernel_rfl) rfl) ?_
    refine l_v (v_move (t := .slice _ _ _) rfl) ?_
    refine l_v (v_len (et := 37) (by kernel_rfl) rfl) ?_
    refine l_v (v_sub rfl rfl (by first | exact wr_i64 (by omega) (by omega) | rfl)) ?_
    refine l_v (v_sub rfl rfl (by first | exact wr_i64 (by omega) (by omega) | rfl)) ?_
    refine l_v (v_assign (t := .int _ _) rfl) ?_
    refine l_nil ?_
    refine n_then ?_
    refine c_seq ?_
    refine wp_reg (by decide +kernel) ?_
    refine l_v (v_move (t := .int _ _) rfl) ?_
    refine l_v (v_gtr rfl rfl) ?_
    refine l_nil ?_
    refine n_then ?_
    refine c_cond rfl rfl (fun hp => ?_) (fun hp => ?_)
    · skip
      have hp0 : 0 < n := by have := dtrue hp; omega
      refine wp_reg (by decide +kernel) ?_
      refine l_v (v_move (t := .slice _ _ _) rfl) ?_
      refine l_v (v_move (t := .slice _ _ _) rfl) ?_
      refine l_v (v_cap (et := 37) (by kernel_rfl) rfl) ?_
      refine l_v (v_slicePre (et := 37) (sz := 4) (h := 0) (by kernel_rfl) (by kernel_rfl) rfl rfl (by first | rfl | omega) (by omega)) ?_
      refine l_v (v_move (t := .int _ _) rfl) ?_
      refine l_to (to_appendZ (t := tRg) (k := n) (kn := .i64) (et := 37) (bytes := 64) (by kernel_rfl) (by kernel_rfl) rfl (show _ = Value.int .i64 (n : Int) from congrArg (Value.int _) (by simp)) (hp0) (by omega) (by simp only [maxLen]; omega) ?_)
      rintro b5 c5 w5 zb5 HO5 e5 z5
      have zs_e5 := e5.size
      replace E := E.trans (Ext.keep e5)
      have zo_HO5 := fun (b : Nat) h => HO5.own_lt (b := b) h
      refine l_v (v_move (t := .slice _ _ _) rfl) ?_
      refine l_v (v_len (et := 37) (by kernel_rfl) rfl) ?_
      refine l_v (v_slicePre (et := 37) (sz := 4) (h := 0) (by kernel_rfl) (by kernel_rfl) rfl rfl (by first | rfl | omega) (by omega)) ?_
      refine l_v (v_assign (t := .slice _ _ _) rfl) ?_
      refine l_nil ?_
      refine n_then ?_
      refine c_seq ?_
      refine wp_reg (by decide +kernel) ?_
      refine l_v (v_move (t := .slice _ _ _) rfl) ?_
      refine l_v (v_assign (t := .slice _ _ _) rfl) ?_
      refine l_nil ?_
      refine n_then ?_
      refine c_ret ?_
      refine ret1v rfl (by decide) (show _ = (Value.slice _ _ _) from rfl) ?_
      exact ⟨HO5.base (by omega), E⟩
    · skip
      refine c_skip ?_
      refine n_then ?_
      refine c_seq ?_
      refine wp_reg (by decide +kernel) ?_
      refine l_v (v_move (t := .slice _ _ _) rfl) ?_
      refine l_v (v_assign (t := .slice _ _ _) rfl) ?_
      refine l_nil ?_
      refine n_then ?_
      refine c_ret ?_
      refine ret1v rfl (by decide) (show _ = (Value.slice _ _ _) from rfl) ?_
      exact ⟨OwV.nil _ _ _ _ _, E⟩
theorem Concat_c {w : World} {F : Nat → Prop} {v : Value} {ls : List (List RgV)} (HS1 : SlV (tSl tRg) w F v ls) (hn : ls.length ≤ 1000) (hl : ls.flatten.length ≤ 1000000) : CallsR Try.prog 59 #[v] w (fun o w' => SlV tRg w' (fun b => b < w'.heap.size) o ls.flatten ∧ Ext w w') := by
  obtain ⟨a1, c1, rfl⟩ := HS1.shape
  have hpre : ∀ i, (ls.take i).flatten.length ≤ ls.flatten.length := fun i => by
    have : ls.flatten = (ls.take i).flatten ++ (ls.drop i).flatten := by rw [← List.flatten_append, List.take_append_drop]
    rw [this, List.length_append]; omega
  have hstep : ∀ i x, ls[i]? = some x → (ls.take (i + 1)).flatten = (ls.take i).flatten ++ x := fun i x hx => by rw [List.take_add_one, hx]; simp
  refine enter 36 Try.func59 rfl rfl (by simp) ?_
  refine c_seq ?_
  have E := Keep.refl (K := NoK) w
  replace HS1 := HS1.all
  refine wp_reg (by decide +kernel) ?_
  refine l_v (v_assign rfl) ?_
  refine l_nil ?_
  refine n_then ?_
  refine c_seq ?_
  refine wp_reg (by decide +kernel) ?_
  refine l_v (v_assign rfl) ?_
  refine l_nil ?_
  refine n_then ?_
  refine c_seq ?_
  refine c_seq ?_
  refine wp_reg (by decide +kernel) ?_
  refine l_v (v_move (t := .slice _ _ _) rfl) ?_
  refine l_v (v_len (et := 22) (by kernel_rfl) rfl) ?_
  refine l_v (v_move rfl) ?_
  refine l_nil ?_
  refine n_then ?_
  refine c_block ?_
  refine c_loop (τ := Nat) [3, 5, 11, 12, 13, 14, 15, 16, 17, 18, 19, 20, 21, 22] (fun i => [(3, .int .i64 ((ls.take i).flatten.length : Nat)), (11, .int .i64 i)]) (fun i W => Ext w W ∧ Keep (NoK) w W ∧ i ≤ ls.length) (fun i => ls.length - i) 0 (by exact ⟨rfl, rfl, trivial⟩) (by exact ⟨E, Keep.refl _, Nat.zero_le _⟩) ?_
  rintro i w101 j ⟨E, EL1, h1⟩
  have zs_EL1 := EL1.size
  replace HS1 := HS1.ext EL1
  refine c_seq ?_
  refine wp_reg (by decide +kernel) ?_
  refine l_v (v_lss rfl rfl) ?_
  refine l_nil ?_
  refine n_then ?_
  refine c_seq ?_
  refine c_cond rfl rfl (fun hlt => ?_) (fun hlt => ?_)
  · skip
    have hlt := dtrue hlt
    obtain ⟨x, hx, _⟩ := getE (l := ls) (i := i) (by omega)
    have hs := congrArg List.length (hstep i x hx)
    rw [List.length_append] at hs
    have hp1 := hpre (i + 1)
    refine c_skip ?_
    refine n_then ?_
    refine c_seq ?_
    refine c_block ?_
    refine c_seq ?_
    refine wp_reg (by decide +kernel) ?_
    refine l_to (to_index (et := 22) (by kernel_rfl) (by kernel_rfl) (show _ = (Value.slice _ _ _) from rfl) HS1 (show _ = (Value.int _ _) from rfl) rfl hx ?_)
    rintro q cs hF HPq hr
    obtain ⟨u, rfl, HSu⟩ := hr
    obtain ⟨a2, c2, rfl⟩ := HSu.shape
    refine l_v (v_load (by kernel_rfl) rfl (by first | exact pv_1 HPq | assumption)) ?_
    refine l_v (v_assign (t := .slice _ _ _) rfl) ?_
    refine l_nil ?_
    refine n_then ?_
    refine c_seq ?_
    refine wp_reg (by decide +kernel) ?_
    refine l_v (v_move (t := .int _ _) rfl) ?_
    refine l_v (v_move (t := .slice _ _ _) rfl) ?_
    refine l_v (v_len (et := 37) (by kernel_rfl) rfl) ?_
    refine l_v (v_add rfl rfl (by first | exact wr_i64 (by omega) (by omega) | rfl)) ?_
    refine l_v (v_assign (t := .int _ _) rfl) ?_
    refine l_nil ?_
    refine n_then ?_
    refine c_seq ?_
    refine wp_reg (by decide +kernel) ?_
    refine l_v (v_move (t := .int _ _) rfl) ?_
    refine l_v (v_lss rfl rfl) ?_
    refine l_nil ?_
    refine n_then ?_
    refine c_cond rfl rfl (fun hneg => ?_) (fun hneg => ?_)
    · skip
      have := dtrue hneg; omega
    · skip
      refine c_skip ?_
      refine n_blk ?_
      refine n_then ?_
      refine wp_reg (by decide +kernel) ?_
      refine l_v (v_add rfl rfl (by first | exact wr_i64 (by omega) (by omega) | rfl)) ?_
      refine l_v (v_move (t := .int _ _) rfl) ?_
      refine l_nil ?_
      refine n_then ?_
      refine ⟨i + 1, _, rfl, by (repeat (first | exact Off.of_over _ _ _ | refine Off.upd ?_ (by decide) _)), ⟨by first | rfl | exact congrArg (Value.int _) (by omega) | (simp; done), by first | rfl | exact congrArg (Value.int _) (by omega) | (simp; done), trivial⟩, ⟨E, EL1, ?_⟩, ?_⟩
      · skip
        omega
      · (dsimp only; omega)
  · skip
    refine c_exit ?_
    refine x_then ?_
    refine x_then ?_
    refine x_hit ?_
    refine n_then ?_
    refine c_seq ?_
    refine wp_reg (by decide +kernel) ?_
    refine l_v (v_move (t := .int _ _) rfl) ?_
    refine l_to (to_f2 (by kernel_rfl) (show _ = (Value.slice _ _ _) from rfl) (show _ = (Value.int _ _) from rfl) (CallsR.mono (Grow_c (by have := hpre i; omega)) ?_))
    rintro v6 w6 ⟨HO6, e6⟩
    have zs_e6 := e6.size
    replace E := E.trans (Ext.keep e6)
    replace HS1 := HS1.ext e6
    have zo_HO6 := fun (b : Nat) h => HO6.own_lt (b := b) h
    obtain ⟨a6, c6, rfl⟩ := HO6.shape
    refine l_v (v_assign (t := .slice _ _ _) rfl) ?_
    refine l_nil ?_
    refine n_then ?_
    refine c_seq ?_
    refine c_seq ?_
    refine wp_reg (by decide +kernel) ?_
    refine l_v (v_move (t := .slice _ _ _) rfl) ?_
    refine l_v (v_len (et := 22) (by kernel_rfl) rfl) ?_
    refine l_v (v_move rfl) ?_
    refine l_nil ?_
    refine n_then ?_
    refine c_block ?_
    refine c_loop (τ := Nat × Value) [6, 8, 27, 28, 29, 30, 31, 32, 33, 34] (fun (i, v) => [(6, v), (27, .int .i64 i)]) (fun (i, v) W => Ext w W ∧ Keep (fun b => w.heap.size ≤ b) w6 W ∧ i ≤ ls.length ∧ OwV tRg 37 W w.heap.size (fun b => b < w.heap.size) v (ls.take i).flatten) (fun (i, v) => ls.length - i) (0, _) (by exact ⟨rfl, rfl, trivial⟩) (by exact ⟨E, Keep.refl _, Nat.zero_le _, (HO6.base (by omega)).mono (fun _ _ h => h.elim)⟩) ?_
    rintro ⟨i, v⟩ w102 j ⟨E, EL2, h3, HOv⟩
    have zs_EL2 := EL2.size
    replace HS1 := HS1.keep EL2 (by first | exact fun h => h | (intro h; have he0 := h; have h := h; (try dsimp only at h); (try simp only [Value.ownBlock, Option.some.injEq] at h); (try simp only [add_block] at h); (try simp only [add_block] at he0); first | omega) | (intro i _ hi he; have he0 := he; have hi := hi; have he := he; (try dsimp only [NoK, AllB] at hi he); (try simp only [Value.ownBlock, Option.some.injEq] at he); first | exact hi.elim | exact he.elim | omega | (rcases hi with hi | hi <;> omega) | (rcases he with he | he <;> omega)))
    have zo_HOv := fun (b : Nat) h => HOv.own_lt (b := b) h
    refine c_seq ?_
    refine wp_reg (by decide +kernel) ?_
    refine l_v (v_lss rfl rfl) ?_
    refine l_nil ?_
    refine n_then ?_
    refine c_seq ?_
    refine c_cond rfl rfl (fun hlt2 => ?_) (fun hlt2 => ?_)
    · skip
      have hlt2 := dtrue hlt2
      obtain ⟨x, hx, _⟩ := getE (l := ls) (i := i) (by omega)
      have hs := congrArg List.length (hstep i x hx)
      rw [List.length_append] at hs
      have hp1 := hpre (i + 1)
      refine c_skip ?_
      refine n_then ?_
      refine c_seq ?_
      refine c_block ?_
      refine c_seq ?_
      refine wp_reg (by decide +kernel) ?_
      refine l_to (to_index (et := 22) (by kernel_rfl) (by kernel_rfl) (show _ = (Value.slice _ _ _) from rfl) HS1 (show _ = (Value.int _ _) from rfl) rfl hx ?_)
      rintro q cs hF HPq hr
      obtain ⟨u, rfl, HSu⟩ := hr
      obtain ⟨a2, c2, rfl⟩ := HSu.shape
      obtain ⟨a3, c3, rfl⟩ := HOv.shape
      refine l_v (v_load (by kernel_rfl) rfl (by first | exact pv_1 HPq | assumption)) ?_
      refine l_v (v_assign (t := .slice _ _ _) rfl) ?_
      refine l_nil ?_
      refine n_then ?_
      refine wp_reg (by decide +kernel) ?_
      refine l_v (v_move (t := .slice _ _ _) rfl) ?_
      refine l_v (v_move (t := .slice _ _ _) rfl) ?_
      refine l_to (to_append (et := 37) (bytes := 64) (by kernel_rfl) (show _ = (Value.slice _ _ _) from rfl) HOv (show _ = (Value.slice _ _ _) from rfl) HSu (deepF fun b _ hb => ⟨hb, fun ho => by have := HOv.own_lt ho; omega⟩) (by first | omega | (simp; done) | (simp; omega)) (by simp only [maxLen]; first | omega | (simp; done) | (simp; omega)) (by omega) ?_)
      rintro a9 n9 c9 w9 HO9 hn9 k9 h9 i9
      have zs_k9 := k9.size
      replace E := E.step k9 (by intro i hi he; have he0 := he; have hi := hi; have he := he; (try dsimp only [NoK] at hi he ⊢); (try simp only [Value.ownBlock, Option.some.injEq] at he); first | exact he.elim | omega | exact he | (have := (HOv).own_lt he0; omega) | (have := zo_HOv _ he0; omega) | (have := (HOv).own_lt he0; rcases hi with hi | hi <;> omega))
      replace HS1 := HS1.keep k9 (by first | exact fun h => h | (intro h; have he0 := h; have h := h; (try dsimp only at h); (try simp only [Value.ownBlock, Option.some.injEq] at h); (try simp only [add_block] at h); (try simp only [add_block] at he0); first | omega | (have := (HOv).own_lt he0; omega) | (have := zo_HOv _ he0; omega)) | (intro i _ hi he; have he0 := he; have hi := hi; have he := he; (try dsimp only [NoK, AllB] at hi he); (try simp only [Value.ownBlock, Option.some.injEq] at he); first | exact hi.elim | exact he.elim | omega | (rcases hi with hi | hi <;> omega) | (rcases he with he | he <;> omega) | (have := (HOv).own_lt he0; omega) | (have := zo_HOv _ he0; omega) | (have := (HOv).own_lt he0; rcases hi with hi | hi <;> omega)))
      replace EL2 := EL2.step k9 (by intro i hi he; have he0 := he; have hi := hi; have he := he; (try dsimp only [NoK] at hi he ⊢); (try simp only [Value.ownBlock, Option.some.injEq] at he); first | exact he.elim | omega | exact he | (have := (HOv).own_lt he0; omega) | (have := zo_HOv _ he0; omega) | (have := (HOv).own_lt he0; rcases hi with hi | hi <;> omega))
      replace HPq := HPq.keep k9 (by first | exact fun h => h | (intro h; have he0 := h; have h := h; (try dsimp only at h); (try simp only [Value.ownBlock, Option.some.injEq] at h); (try simp only [add_block] at h); (try simp only [add_block] at he0); first | omega | (have := (HOv).own_lt he0; omega) | (have := zo_HOv _ he0; omega)) | (intro i _ hi he; have he0 := he; have hi := hi; have he := he; (try dsimp only [NoK, AllB] at hi he); (try simp only [Value.ownBlock, Option.some.injEq] at he); first | exact hi.elim | exact he.elim | omega | (rcases hi with hi | hi <;> omega) | (rcases he with he | he <;> omega) | (have := (HOv).own_lt he0; omega) | (have := zo_HOv _ he0; omega) | (have := (HOv).own_lt he0; rcases hi with hi | hi <;> omega)))
      replace HSu := HSu.keep k9 (by first | exact fun h => h | (intro h; have he0 := h; have h := h; (try dsimp only at h); (try simp only [Value.ownBlock, Option.some.injEq] at h); (try simp only [add_block] at h); (try simp only [add_block] at he0); first | omega | (have := (HOv).own_lt he0; omega) | (have := zo_HOv _ he0; omega)) | (intro i _ hi he; have he0 := he; have hi := hi; have he := he; (try dsimp only [NoK, AllB] at hi he); (try simp only [Value.ownBlock, Option.some.injEq] at he); first | exact hi.elim | exact he.elim | omega | (rcases hi with hi | hi <;> omega) | (rcases he with he | he <;> omega) | (have := (HOv).own_lt he0; omega) | (have := zo_HOv _ he0; omega) | (have := (HOv).own_lt he0; rcases hi with hi | hi <;> omega)))
      have zo_HO9 := fun (b : Nat) h => HO9.own_lt (b := b) h
      refine l_v (v_assign (t := .slice _ _ _) rfl) ?_
      refine l_nil ?_
      refine n_blk ?_
      refine n_then ?_
      refine wp_reg (by decide +kernel) ?_
      refine l_v (v_add rfl rfl (by first | exact wr_i64 (by omega) (by omega) | rfl)) ?_
      refine l_v (v_move (t := .int _ _) rfl) ?_
      refine l_nil ?_
      refine n_then ?_
      refine ⟨(i + 1, .slice a9 n9 c9), _, rfl, by (repeat (first | exact Off.of_over _ _ _ | refine Off.upd ?_ (by decide) _)), ⟨by first | rfl | exact congrArg (Value.int _) (by omega) | (simp; done), by first | rfl | exact congrArg (Value.int _) (by omega) | (simp; done), trivial⟩, ⟨E, EL2, ?_⟩, ?_⟩
      · skip
        exact ⟨by omega, by rw [hstep i x hx]; exact HO9⟩
      · (dsimp only; omega)
    · skip
      obtain ⟨a4, c4, rfl⟩ := HOv.shape
      refine c_exit ?_
      refine x_then ?_
      refine x_then ?_
      refine x_hit ?_
      refine n_then ?_
      refine c_seq ?_
      refine wp_reg (by decide +kernel) ?_
      refine l_v (v_move (t := .slice _ _ _) rfl) ?_
      refine l_v (v_assign (t := .slice _ _ _) rfl) ?_
      refine l_nil ?_
      refine n_then ?_
      refine c_ret ?_
      refine ret1v rfl (by decide) (show _ = (Value.slice _ _ _) from rfl) ?_
      have h := dfalse hlt2
      have e1 : ls.take i = ls := List.take_of_length_le (by omega)
      rw [e1] at HOv ⊢
      exact ⟨HOv.view.all, E⟩
theorem CloneS_c {w : World} {F : Nat → Prop} {v : Value} {l : List RgV} (HS1 : SlV tRg w F v l) (hn : l.length ≤ 1000000) : CallsR Try.prog 61 #[v] w (fun o w' => OwV tRg 37 w' w.heap.size (fun b => b < w.heap.size) o l ∧ Ext w w') := by
  obtain ⟨a1, c1, rfl⟩ := HS1.shape
  refine enter 8 Try.func61 rfl rfl (by simp) ?_
  refine c_seq ?_
  have E := Keep.refl (K := NoK) w
  replace HS1 := HS1.all
  refine wp_reg (by decide +kernel) ?_
  refine l_v (v_assign rfl) ?_
  refine l_nil ?_
  refine n_then ?_
  refine c_seq ?_
  refine c_seq ?_
  refine wp_reg (by decide +kernel) ?_
  refine l_v (v_move (t := .slice _ _ _) rfl) ?_
  refine l_v (v_sleneq (et := 37) (by kernel_rfl) rfl rfl) ?_
  refine l_nil ?_
  refine n_then ?_
  refine c_cond rfl rfl (fun hc => ?_) (fun hc => ?_)
  · skip
    refine c_seq ?_
    refine wp_reg (by decide +kernel) ?_
    refine l_v (v_assign rfl) ?_
    refine l_nil ?_
    refine n_then ?_
    refine c_ret ?_
    refine r_then ?_
    refine ret1v rfl (by decide) (show _ = (Value.slice _ _ _) from rfl) ?_
    have hn : a1 = none := by simpa using hc
    subst hn
    obtain ⟨a, c, hv, _, _, h3, _⟩ := HS1
    cases hv
    have : l = [] := List.eq_nil_of_length_eq_zero (by have := h3 rfl; omega)
    subst this
    exact ⟨OwV.nil _ _ _ _ _, E⟩
  · skip
    refine c_skip ?_
    refine n_then ?_
    refine c_seq ?_
    refine wp_reg (by decide +kernel) ?_
    refine l_to (to_slice0 (t := tRg) (et := 37) (bytes := 64) (by kernel_rfl) ?_)
    rintro b2 w2 zb2 HO2 e2 z2
    have zs_e2 := e2.size
    replace E := E.trans (Ext.keep e2)
    replace HS1 := HS1.ext e2
    have zo_HO2 := fun (b : Nat) h => HO2.own_lt (b := b) h
    refine l_v (v_move (t := .slice _ _ _) rfl) ?_
    refine l_to (to_append (et := 37) (bytes := 64) (by kernel_rfl) (show _ = (Value.slice _ _ _) from rfl) (HO2.mono (F' := fun b => b < w.heap.size) fun _ _ h => h.elim) (show _ = (Value.slice _ _ _) from rfl) HS1 (deepF fun b _ hb => ⟨hb, fun ho => by have := HO2.own_lt ho; omega⟩) (by first | omega | (simp; done) | (simp; omega)) (by simp only [maxLen]; first | omega | (simp; done) | (simp; omega)) (by omega) ?_)
    rintro a3 n3 c3 w3 HO3 hn3 k3 h3 i3
    have zs_k3 := k3.size
    replace E := E.step k3 (by intro i hi he; have he0 := he; have hi := hi; have he := he; (try dsimp only [NoK] at hi he ⊢); (try simp only [Value.ownBlock, Option.some.injEq] at he); first | exact he.elim | omega | exact he | (have := ((HO2.mono (F' := fun b => b < w.heap.size) fun _ _ h => h.elim)).own_lt he0; omega) | (have := zo_HO2 _ he0; omega) | (have := ((HO2.mono (F' := fun b => b < w.heap.size) fun _ _ h => h.elim)).own_lt he0; rcases hi with hi | hi <;> omega))
    replace HS1 := HS1.keep k3 (by first | exact fun h => h | (intro h; have he0 := h; have h := h; (try dsimp only at h); (try simp only [Value.ownBlock, Option.some.injEq] at h); (try simp only [add_block] at h); (try simp only [add_block] at he0); first | omega | (have := ((HO2.mono (F' := fun b => b < w.heap.size) fun _ _ h => h.elim)).own_lt he0; omega) | (have := zo_HO2 _ he0; omega)) | (intro i _ hi he; have he0 := he; have hi := hi; have he := he; (try dsimp only [NoK, AllB] at hi he); (try simp only [Value.ownBlock, Option.some.injEq] at he); first | exact hi.elim | exact he.elim | omega | (rcases hi with hi | hi <;> omega) | (rcases he with he | he <;> omega) | (have := ((HO2.mono (F' := fun b => b < w.heap.size) fun _ _ h => h.elim)).own_lt he0; omega) | (have := zo_HO2 _ he0; omega) | (have := ((HO2.mono (F' := fun b => b < w.heap.size) fun _ _ h => h.elim)).own_lt he0; rcases hi with hi | hi <;> omega)))
    have zo_HO3 := fun (b : Nat) h => HO3.own_lt (b := b) h
    refine l_v (v_assign (t := .slice _ _ _) rfl) ?_
    refine l_nil ?_
    refine n_then ?_
    refine c_ret ?_
    refine ret1v rfl (by decide) (show _ = (Value.slice _ _ _) from rfl) ?_
    exact ⟨HO3.base (by omega), E⟩
end Go.Proofs.Ytkaangdfpjkjpaa
