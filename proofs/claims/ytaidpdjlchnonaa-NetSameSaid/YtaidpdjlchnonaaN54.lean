/- A part of the proof: steps and lemmas for the walks through the given program. -/
import Derived.Test.YtaidpdjlchnonaaN53
namespace Go.Proofs.Ytaidpdjlchnonaa
open Go.Vc
set_option linter.unusedVariables false
set_option linter.unusedSimpArgs false
set_option maxRecDepth 100000

/-- how much there is in a step's messages, and in all steps, up to a bound -/
def inN : List Ms → Nat → Nat
  | [], n => n
  | m :: ls, n => if 200000 < n then n else inN ls (n + 1 + min (sizeN m) 200001)
def goM : List StpV → Nat → Option Nat
  | [], n => some n
  | s :: l, n => if 600 < s.2.2.length then none else goM l (inN (s.2.2.take 601) n)
def muchB (l : List StpV) : Bool := match goM (l.take 61) 0 with
  | none => true
  | some n => decide (200000 < n) || decide (60 < l.length)
theorem in_stop : ∀ (ls : List Ms) {n : Nat}, 200000 < n → inN ls n = n
  | [], n, _ => rfl
  | m :: ls, n, h => by rw [inN, if_pos h]
theorem in_step {ls : List Ms} {k n : Nat} {m : Ms} (hk : k < 601) (hx : ls[k]? = some m) (hn : ¬ 200000 < n) : inN ((ls.take 601).drop k) n = inN ((ls.take 601).drop (k + 1)) (n + 1 + min (sizeN m) 200001) := by
  have hlt := (List.getElem?_eq_some_iff.1 hx).1
  have h : (ls.take 601).drop k = m :: (ls.take 601).drop (k + 1) := by
    rw [List.drop_eq_getElem_cons (by rw [List.length_take]; omega)]
    rw [List.getElem_take]
    rw [List.getElem?_eq_getElem hlt] at hx
    rw [Option.some.inj hx]
  rw [h, inN, if_neg hn]
theorem go_step {l : List StpV} {i n : Nat} {s : StpV} (hi : i < 61) (hx : l[i]? = some s) : goM ((l.take 61).drop i) n = if 600 < s.2.2.length then none else goM ((l.take 61).drop (i + 1)) (inN (s.2.2.take 601) n) := by
  have hlt := (List.getElem?_eq_some_iff.1 hx).1
  have h : (l.take 61).drop i = s :: (l.take 61).drop (i + 1) := by
    rw [List.drop_eq_getElem_cons (by rw [List.length_take]; omega)]
    rw [List.getElem_take]
    rw [List.getElem?_eq_getElem hlt] at hx
    rw [Option.some.inj hx]
  rw [h, goM]
set_option maxHeartbeats 4000000 in
theorem much_f {w : World} {F : Nat → Prop} {v : Value} {l : List StpV} (HS1 : SlV tStp w F v l) : CallsR Try.prog 19 #[v] w (fun o w' => (o = .bool (muchB l) ∧ (muchB l = false → l.length ≤ 60 ∧ ∀ s ∈ l, stOk s)) ∧ Ext w w') := by
  obtain ⟨a1, c1, rfl⟩ := HS1.shape
  have hmx := HS1.len_max
  refine enter 61 Try.func19 rfl rfl (by simp) ?_
  refine c_seq ?_
  have E := Keep.refl (K := NoK) w
  replace HS1 := HS1.all
  refine wp_reg (by decide +kernel) ?_
  refine l_v (v_assign rfl) ?_
  refine l_nil ?_
  refine n_then ?_
  refine c_seq ?_
  refine wp_reg (by decide +kernel) ?_
  refine l_v (v_assign rfl) ?_
  refine l_nil ?_
  refine n_then ?_
  refine c_seq ?_
  refine c_seq ?_
  refine wp_reg (by decide +kernel) ?_
  refine l_v (v_assign rfl) ?_
  refine l_nil ?_
  refine n_then ?_
  refine c_block ?_
  refine c_loop (τ := Nat × Nat) [2, 3, 4, 5, 6, 7, 8, 9, 10, 11, 12, 13, 14, 15, 16, 17, 18, 19, 20, 21, 22, 23, 24, 25, 26, 27, 28, 29, 30, 31, 32, 33, 34, 35, 36, 37, 38, 39, 40, 41, 42, 43, 44, 45, 46, 47, 48, 49, 50, 51, 52, 53] (fun (i, n) => [(3, .int .i64 n), (4, .int .i64 i)]) (fun (i, n) W => Ext w W ∧ Keep (NoK) w W ∧ i ≤ l.length ∧ n ≤ 400010 ∧ (n ≤ 200000 → ∀ s ∈ l.take i, stOk s) ∧ goM (l.take 61) 0 = goM ((l.take 61).drop i) n) (fun (i, n) => l.length - i) (0, 0) (by exact ⟨rfl, rfl, trivial⟩) (by exact ⟨E, Keep.refl _, Nat.zero_le _, by omega, (fun _ s hs => by simp at hs), by simp⟩) ?_
  rintro ⟨i, n⟩ w101 j ⟨E, EL1, h1, h2, h3, h4⟩
  have zs_EL1 := EL1.size
  replace HS1 := HS1.ext EL1
  refine c_seq ?_
  refine c_seq ?_
  refine wp_reg (by decide +kernel) ?_
  refine l_v (v_move (t := .int _ _) rfl) ?_
  refine l_v (v_move (t := .slice _ _ _) rfl) ?_
  refine l_v (v_len (et := 43) (by kernel_rfl) rfl) ?_
  refine l_v (v_lss rfl rfl) ?_
  refine l_v (v_move (t := .bool _) rfl) ?_
  refine l_g1 rfl rfl (fun hG => v_move (t := .int _ _) rfl) ?_
  refine l_g1 rfl rfl (fun hG => v_lss (gd hG rfl) rfl) ?_
  refine l_v (v_and rfl rfl) ?_
  refine l_nil ?_
  refine n_then ?_
  refine c_cond rfl rfl (fun hlt => ?_) (fun hlt => ?_)
  · skip
    have hlt2 : i < l.length ∧ i < 61 := by simp at hlt; omega
    obtain ⟨r, hx, hdr⟩ := getE (l := l) (i := i) (by omega)
    obtain ⟨q, cs, hq, hF, _, HPq, hr⟩ := HS1.el hx
    subst hq
    obtain ⟨a7, c7, rfl, HS7, hle, _, _⟩ := tStp_cells hr
    have hmx7 := HS7.len_max
    refine c_skip ?_
    refine n_then ?_
    refine c_seq ?_
    refine c_block ?_
    refine c_seq ?_
    refine c_seq ?_
    refine wp_reg (by decide +kernel) ?_
    refine l_v (v_assign rfl) ?_
    refine l_nil ?_
    refine n_then ?_
    refine c_block ?_
    refine c_loop (τ := Nat × Nat) [3, 5, 16, 17, 18, 19, 20, 21, 22, 23, 24, 25, 26, 27, 28, 29, 30, 31, 32, 33, 34, 35, 36, 37, 38, 39, 40, 41, 42, 43, 44, 45, 46] (fun (k, n2) => [(3, .int .i64 n2), (5, .int .i64 k)]) (fun (k, n2) W => Ext w W ∧ Keep (NoK) w101 W ∧ k ≤ r.2.2.length ∧ n2 ≤ 400010 ∧ (n2 ≤ 200000 → (∀ s ∈ l.take i, stOk s) ∧ ∀ m ∈ r.2.2.take k, sizeN m ≤ 200000) ∧ inN (r.2.2.take 601) n = inN ((r.2.2.take 601).drop k) n2) (fun (k, n2) => r.2.2.length - k) (0, n) (by exact ⟨rfl, rfl, trivial⟩) (by exact ⟨E, Keep.refl _, Nat.zero_le _, h2, (fun hn => ⟨h3 hn, fun m hm => by simp at hm⟩), by simp⟩) ?_
    rintro ⟨k, n2⟩ w102 j ⟨E, EL2, g1, g2, g3, g4⟩
    have zs_EL2 := EL2.size
    replace HS1 := HS1.ext EL2
    replace EL1 := EL1.trans (Ext.keep EL2)
    replace HPq := HPq.ext EL2
    replace HS7 := HS7.ext EL2
    refine c_seq ?_
    refine c_seq ?_
    refine wp_reg (by decide +kernel) ?_
    refine l_v (v_move (t := .int _ _) rfl) ?_
    refine l_v (v_move (t := .slice _ _ _) rfl) ?_
    refine l_v (v_move (t := .int _ _) rfl) ?_
    refine l_v (v_indexAddr (et := 43) (sz := 3) (k := i) (by kernel_rfl) (by kernel_rfl) rfl rfl (by first | rfl | omega) (by omega)) ?_
    refine l_v (v_fieldAddr (off := 2) (ft := 41) (by kernel_rfl) rfl) ?_
    refine l_v (v_load (by kernel_rfl) rfl (by first | exact HPq 2 _ rfl | assumption)) ?_
    refine l_v (v_len (et := 26) (by kernel_rfl) rfl) ?_
    refine l_v (v_lss rfl rfl) ?_
    refine l_v (v_move (t := .bool _) rfl) ?_
    refine l_g1 rfl rfl (fun hG => v_move (t := .int _ _) rfl) ?_
    refine l_g1 rfl rfl (fun hG => v_lss (gd hG rfl) rfl) ?_
    refine l_v (v_and rfl rfl) ?_
    refine l_v (v_move (t := .bool _) rfl) ?_
    refine l_g1 rfl rfl (fun hG => v_move (t := .int _ _) rfl) ?_
    refine l_g1 rfl rfl (fun hG => v_leq (gd hG rfl) rfl) ?_
    refine l_v (v_and rfl rfl) ?_
    refine l_nil ?_
    refine n_then ?_
    refine c_cond rfl rfl (fun hl2 => ?_) (fun hl2 => ?_)
    · skip
      have hl3 : k < r.2.2.length ∧ k < 601 ∧ n2 ≤ 200000 := by simp at hl2; omega
      obtain ⟨m, hxm, _⟩ := getE (l := r.2.2) (i := k) (by omega)
      obtain ⟨q2, cs2, hq2, hF2, _, HP2, hr2⟩ := HS7.el hxm
      subst hq2
      have HG5 : AgV tMs _ _ _ m := ⟨cs2, rfl, hr2⟩
      obtain ⟨b1, d1, b2, d2, rfl, _, _, _⟩ := tMs_cells hr2
      obtain ⟨hm1, hm2⟩ := hle m (List.mem_of_getElem? hxm)
      refine c_skip ?_
      refine n_then ?_
      refine c_seq ?_
      refine c_block ?_
      refine wp_reg (by decide +kernel) ?_
      refine l_v (v_move (t := .int _ _) rfl) ?_
      refine l_v (v_add rfl rfl (by first | exact wr_i64 (by omega) (by omega) | rfl)) ?_
      refine l_v (v_move (t := .slice _ _ _) rfl) ?_
      refine l_v (v_move (t := .int _ _) rfl) ?_
      refine l_v (v_indexAddr (et := 43) (sz := 3) (k := i) (by kernel_rfl) (by kernel_rfl) rfl rfl (by first | rfl | omega) (by omega)) ?_
      refine l_v (v_fieldAddr (off := 2) (ft := 41) (by kernel_rfl) rfl) ?_
      refine l_v (v_load (by kernel_rfl) rfl (by first | exact HP2 2 _ rfl | exact HPq 2 _ rfl | assumption)) ?_
      refine l_v (v_move (t := .int _ _) rfl) ?_
      refine l_v (v_indexAddr (et := 26) (sz := 11) (k := k) (by kernel_rfl) (by kernel_rfl) rfl rfl (by first | rfl | omega) (by omega)) ?_
      refine l_v (v_loadA (by kernel_rfl) rfl (by first | exact HP2 | exact HPq | assumption) rfl) ?_
      refine l_to (to_f1 (by kernel_rfl) (show _ = (Value.agg _) from rfl) (CallsR.mono (Size_c HG5 hm1 hm2) ?_))
      rintro _ w103 ⟨rfl, e103⟩
      have zs_e103 := e103.size
      replace E := E.trans (Ext.keep e103)
      replace HS1 := HS1.ext e103
      replace EL1 := EL1.trans (Ext.keep e103)
      replace HPq := HPq.ext e103
      replace HS7 := HS7.ext e103
      replace EL2 := EL2.trans (Ext.keep e103)
      replace HP2 := HP2.ext e103
      replace HG5 := HG5.ext e103
      refine l_v (vmin rfl rfl) ?_
      refine l_v (v_add rfl rfl (by first | exact wr_i64 (by omega) (by omega) | rfl)) ?_
      refine l_v (v_assign (t := .int _ _) rfl) ?_
      refine l_nil ?_
      refine n_blk ?_
      refine n_then ?_
      refine wp_reg (by decide +kernel) ?_
      refine l_v (v_move (t := .int _ _) rfl) ?_
      refine l_v (v_add rfl rfl (by first | exact wr_i64 (by omega) (by omega) | rfl)) ?_
      refine l_v (v_assign (t := .int _ _) rfl) ?_
      refine l_nil ?_
      refine n_then ?_
      refine ⟨(k + 1, n2 + 1 + min (sizeN m) 200001), _, rfl, by (repeat (first | exact Off.of_over _ _ _ | refine Off.upd ?_ (by decide) _ | refine Off.overs ?_ (by decide) _)), ⟨by first | rfl | exact congrArg (Value.int _) (by omega) | (simp; done), by first | rfl | exact congrArg (Value.int _) (by omega) | (simp; done), trivial⟩, ⟨E, EL2, ?_⟩, ?_⟩
      · skip
        refine ⟨by omega, by omega, fun hn => ?_, by rw [g4, in_step (by omega) hxm (by omega)]⟩
        obtain ⟨ha, hb⟩ := g3 (by omega)
        refine ⟨ha, fun x hx2 => ?_⟩
        rw [List.take_add_one, hxm] at hx2
        rcases List.mem_append.1 hx2 with h | h
        · exact hb x h
        · simp at h; subst h; omega
      · (dsimp only; omega)
    · skip
      refine c_exit ?_
      refine x_then ?_
      refine x_then ?_
      refine x_hit ?_
      refine n_then ?_
      refine c_seq ?_
      refine wp_reg (by decide +kernel) ?_
      refine l_v (v_move (t := .slice _ _ _) rfl) ?_
      refine l_v (v_move (t := .int _ _) rfl) ?_
      refine l_v (v_indexAddr (et := 43) (sz := 3) (k := i) (by kernel_rfl) (by kernel_rfl) rfl rfl (by first | rfl | omega) (by omega)) ?_
      refine l_v (v_fieldAddr (off := 2) (ft := 41) (by kernel_rfl) rfl) ?_
      refine l_v (v_load (by kernel_rfl) rfl (by first | exact HPq 2 _ rfl | assumption)) ?_
      refine l_v (v_len (et := 26) (by kernel_rfl) rfl) ?_
      refine l_v (v_gtr rfl rfl) ?_
      refine l_nil ?_
      refine n_then ?_
      refine c_cond rfl rfl (fun h600 => ?_) (fun h600 => ?_)
      · skip
        refine c_seq ?_
        refine wp_reg (by decide +kernel) ?_
        refine l_v (v_assign rfl) ?_
        refine l_nil ?_
        refine n_then ?_
        refine c_ret ?_
        refine r_blk ?_
        refine r_then ?_
        refine r_then ?_
        refine r_blk ?_
        refine r_then ?_
        refine ret1v rfl (by decide) (show _ = (Value.bool _) from rfl) ?_
        have hg : muchB l = true := by
          rw [muchB, h4, go_step hlt2.2 hx, if_pos (by have := dtrue h600; omega)]
        rw [hg]
        exact ⟨⟨rfl, fun h => by cases h⟩, E⟩
      · skip
        refine c_skip ?_
        refine n_blk ?_
        refine n_then ?_
        refine wp_reg (by decide +kernel) ?_
        refine l_v (v_move (t := .int _ _) rfl) ?_
        refine l_v (v_add rfl rfl (by first | exact wr_i64 (by omega) (by omega) | rfl)) ?_
        refine l_v (v_assign (t := .int _ _) rfl) ?_
        refine l_nil ?_
        refine n_then ?_
        refine ⟨(i + 1, n2), _, rfl, by (repeat (first | exact Off.of_over _ _ _ | refine Off.upd ?_ (by decide) _ | refine Off.overs ?_ (by decide) _)), ⟨by first | rfl | exact congrArg (Value.int _) (by omega) | (simp; done), by first | rfl | exact congrArg (Value.int _) (by omega) | (simp; done), trivial⟩, ⟨E, EL1, ?_⟩, ?_⟩
        · skip
          have hin : inN (r.2.2.take 601) n = n2 := by
            rw [g4]
            by_cases hc : 200000 < n2
            · exact in_stop _ hc
            · have : (r.2.2.take 601).drop k = [] := List.drop_eq_nil_of_le (by simp at hl2; rw [List.length_take]; omega)
              rw [this]; rfl
          refine ⟨by omega, g2, fun hn => ?_, by rw [h4, go_step hlt2.2 hx, if_neg (by have := dfalse h600; omega), hin]⟩
          obtain ⟨ha, hb⟩ := g3 hn
          have hl4 : r.2.2.length ≤ 600 := by have := dfalse h600; omega
          have hk : r.2.2.length ≤ k := by simp at hl2; omega
          intro s hs
          rw [List.take_add_one, hx] at hs
          rcases List.mem_append.1 hs with h | h
          · exact ha s h
          · simp at h; subst h; exact ⟨hl4, fun m hm => hb m (by rw [List.take_of_length_le hk]; exact hm)⟩
        · (dsimp only; omega)
  · skip
    refine c_exit ?_
    refine x_then ?_
    refine x_then ?_
    refine x_hit ?_
    refine n_then ?_
    refine c_seq ?_
    refine wp_reg (by decide +kernel) ?_
    refine l_v (v_move (t := .int _ _) rfl) ?_
    refine l_v (v_gtr rfl rfl) ?_
    refine l_v (v_move (t := .bool _) rfl) ?_
    refine l_g1 rfl rfl (fun hG => v_move (t := .slice _ _ _) rfl) ?_
    refine l_g1 rfl rfl (fun hG => v_len (et := 43) (by kernel_rfl) (gd hG rfl)) ?_
    refine l_g1 rfl rfl (fun hG => v_gtr (gd hG rfl) rfl) ?_
    refine l_v (v_or rfl rfl) ?_
    refine l_v (v_assign (t := .bool _) rfl) ?_
    refine l_nil ?_
    refine n_then ?_
    refine c_ret ?_
    refine ret1v rfl (by decide) (show _ = (Value.bool _) from rfl) ?_
    have hg : muchB l = (decide (200000 < n) || decide (60 < l.length)) := by
      have : (l.take 61).drop i = [] := List.drop_eq_nil_of_le (by simp at hlt; rw [List.length_take]; omega)
      rw [muchB, h4, this]; rfl
    rw [hg]
    refine ⟨⟨by congr 1; rw [Bool.eq_iff_iff]; simp; omega, fun hb => ?_⟩, E⟩
    have hb2 : n ≤ 200000 ∧ l.length ≤ 60 := by simp at hb; omega
    refine ⟨hb2.2, ?_⟩
    have hi : l.length ≤ i := by simp at hlt; omega
    have := h3 hb2.1
    rw [List.take_of_length_le hi] at this; exact this
theorem much_b {w : World} {F : Nat → Prop} {v : Value} {l : List StpV} (HS1 : SlV tStp w F v l) : CallsR Try.prog 19 #[v] w (fun o w' => o = .bool (muchB l) ∧ Ext w w') := CallsR.mono (much_f HS1) fun o w' h => ⟨h.1.1, h.2⟩
theorem inN_ok : ∀ (ls : List Ms) (n : Nat), inN ls n ≤ 200000 → n ≤ 200000 ∧ ∀ m ∈ ls, sizeN m ≤ 200000
  | [], n, h => ⟨h, fun m hm => by simp at hm⟩
  | m :: ls, n, h => by
    rw [inN] at h
    split at h
    · omega
    · obtain ⟨h1, h2⟩ := inN_ok ls _ h
      refine ⟨by omega, fun x hx => ?_⟩
      rcases List.mem_cons.1 hx with rfl | hx
      · omega
      · exact h2 x hx
theorem goM_ok : ∀ (l : List StpV) (n k : Nat), goM l n = some k → k ≤ 200000 → n ≤ 200000 ∧ ∀ s ∈ l, stOk s
  | [], n, k, h, hk => by cases h; exact ⟨hk, fun s hs => by simp at hs⟩
  | s :: l, n, k, h, hk => by
    rw [goM] at h
    split at h
    · cases h
    · next hs =>
      obtain ⟨h1, h2⟩ := goM_ok l _ k h hk
      obtain ⟨h3, h4⟩ := inN_ok _ _ h1
      refine ⟨h3, fun x hx => ?_⟩
      rcases List.mem_cons.1 hx with rfl | hx
      · refine ⟨by omega, fun m hm => h4 m ?_⟩
        rw [List.take_of_length_le (by omega)]; exact hm
      · exact h2 x hx
theorem muchB_ok {l : List StpV} (h : muchB l = false) : l.length ≤ 60 ∧ ∀ s ∈ l, stOk s := by
  rw [muchB] at h
  rcases hg : goM (l.take 61) 0 with _ | n
  · rw [hg] at h; cases h
  · rw [hg] at h
    simp at h
    refine ⟨h.2, fun s hs => (goM_ok _ _ _ hg h.1).2 s ?_⟩
    rw [List.take_of_length_le (by omega)]; exact hs
set_option maxHeartbeats 8000000 in
theorem play_c {w : World} {F : Nat → Prop} {v : Value} {l : List StpV} (HS1 : SlV tStp w F v l) (hl60 : l.length ≤ 60) (hst : ∀ s ∈ l, stOk s) : CallsR Try.prog 33 #[v] w (fun o w' => (∃ bw br ms lost, o = .tuple #[.pointer (some ⟨bw, 0, none⟩), .pointer (some ⟨br, 0, none⟩), .bool true] ∧ WR w' w.heap.size bw br ms lost) ∧ Ext w w') := by
  obtain ⟨a1, c1, rfl⟩ := HS1.shape
  have hmx := HS1.len_max
  obtain ⟨n0, hn0⟩ : ∃ n, n = w.heap.size := ⟨_, rfl⟩
  refine enter 37 Try.func33 rfl rfl (by simp) ?_
  refine c_seq ?_
  have E := Keep.refl (K := NoK) w
  replace HS1 := HS1.all
  refine wp_reg (by decide +kernel) ?_
  refine l_v (v_assign rfl) ?_
  refine l_v (v_assign rfl) ?_
  refine l_v (v_assign rfl) ?_
  refine l_nil ?_
  refine n_then ?_
  refine c_seq ?_
  refine wp_reg (by decide +kernel) ?_
  refine l_to (to_f0 (by kernel_rfl) (CallsR.mono (New_c) ?_))
  rintro _ w4 ⟨b4, hb4, rfl, HB4, z4, e4⟩
  have zs_e4 := e4.size
  replace E := E.trans (Ext.keep e4)
  replace HS1 := HS1.ext e4
  refine l_v (v_build (pl := [(0, 1), (1, 1)]) (z := .agg #[.slice none 0 0, .int .i64 0]) (zl := [.slice none 0 0, .int .i64 0]) (by kernel_rfl) (by unfold kZero; kernel_rfl) rfl rfl (cells := [_, _]) rfl) ?_
  refine l_to (to_box (show _ = (Value.agg _) from rfl) ?_)
  rintro b5 w5 zb5 HB5 e5 z5
  have zs_e5 := e5.size
  simp only [Value.cells] at HB5
  replace E := E.trans (Ext.keep e5)
  replace HS1 := HS1.ext e5
  replace HB4 := HB4.ext e5
  try simp only [Value.cells] at HB5
  refine l_v (v_assign (t := .pointer _) rfl) ?_
  refine l_v (v_assign (t := .pointer _) rfl) ?_
  refine l_nil ?_
  refine n_then ?_
  refine c_seq ?_
  refine wp_reg (by decide +kernel) ?_
  refine l_v (v_move (t := .pointer _) rfl) ?_
  refine l_v (v_pneq (et := 68) (by kernel_rfl) rfl rfl) ?_
  refine l_v (v_assign (t := .bool _) rfl) ?_
  refine l_nil ?_
  refine n_then ?_
  refine c_seq ?_
  refine c_seq ?_
  refine wp_reg (by decide +kernel) ?_
  refine l_v (v_assign rfl) ?_
  refine l_nil ?_
  refine n_then ?_
  refine c_block ?_
  refine c_loop (τ := Nat × Nat × List Ms × Nat) [5, 6, 7, 8, 14, 15, 16, 17, 18, 19, 20, 21, 22, 23, 24, 25, 26, 27, 28, 29, 30, 31, 32, 33] (fun (i, bw, ms, lost) => [(8, .int .i64 i), (5, .pointer (some ⟨bw, 0, none⟩)), (6, .pointer (some ⟨b5, 0, none⟩)), (7, .bool true)]) (fun (i, bw, ms, lost) W => Ext w W ∧ Keep (fun b => n0 ≤ b) w5 W ∧ i ≤ l.length ∧ WR W n0 bw b5 ms lost ∧ lost ≤ 1000 * i) (fun (i, bw, ms, lost) => l.length - i) (0, b4, [], 0) (by exact ⟨rfl, rfl, rfl, rfl, trivial⟩) (by exact ⟨E, Keep.refl _, Nat.zero_le _, ⟨by omega, by omega, by omega, ⟨none, 0, HB4, SlV.nil _ _ _⟩, ⟨none, 0, HB5, SlV.nil _ _ _⟩, (fun m hm => by simp at hm), by simp⟩, by omega⟩) ?_
  rintro ⟨i, bw, ms, lost⟩ w101 j ⟨E, EL1, h1, hW, hlo⟩
  have zs_EL1 := EL1.size
  replace HS1 := HS1.keep EL1 (by intro i _ hi he; (try dsimp only [NoK, AllB] at hi he); first | exact hi.elim | exact he.elim | omega | (rcases hi with hi | hi <;> omega) | (rcases he with he | he <;> omega))
  refine c_seq ?_
  refine c_seq ?_
  refine wp_reg (by decide +kernel) ?_
  refine l_v (v_move (t := .int _ _) rfl) ?_
  refine l_v (v_move (t := .slice _ _ _) rfl) ?_
  refine l_v (v_len (et := 43) (by kernel_rfl) rfl) ?_
  refine l_v (v_lss rfl rfl) ?_
  refine l_v (v_move (t := .bool _) rfl) ?_
  refine l_g1 rfl rfl (fun hG => v_move (t := .bool _) rfl) ?_
  refine l_v (v_and rfl rfl) ?_
  refine l_nil ?_
  refine n_then ?_
  refine c_cond rfl rfl (fun hlt => ?_) (fun hlt => ?_)
  · skip
    have hlt : (i : Int) < l.length := by simpa using hlt
    obtain ⟨r, hx0, hdr⟩ := getE (l := l) (i := i) (by omega)
    have hst1 := hst r (List.mem_of_getElem? hx0)
    obtain ⟨q, cs, hq, hF, _, HPq, hr⟩ := HS1.el hx0
    subst hq
    obtain ⟨a7, c7, rfl, HS7, hle, hi1, hi2⟩ := tStp_cells hr
    have hdw := hW.2.1
    have hdv := hW.2.2.1
    refine c_skip ?_
    refine n_then ?_
    refine c_seq ?_
    refine c_block ?_
    refine wp_reg (by decide +kernel) ?_
    refine l_v (v_move (t := .pointer _) rfl) ?_
    refine l_v (v_move (t := .pointer _) rfl) ?_
    refine l_v (v_move (t := .slice _ _ _) rfl) ?_
    refine l_v (v_move (t := .int _ _) rfl) ?_
    refine l_v (v_indexAddr (et := 43) (sz := 3) (k := i) (by kernel_rfl) (by kernel_rfl) rfl rfl (by first | rfl | omega) (by omega)) ?_
    replace HS7 := HS7.mono (F' := fun i => i < n0) fun b hb h => by have h := h; (try dsimp only at h); omega
    refine l_v (v_loadA (by kernel_rfl) rfl (by first | exact HPq | assumption) rfl) ?_
    refine l_to (to_f3 (by kernel_rfl) (show _ = (Value.pointer _) from rfl) (show _ = (Value.pointer _) from rfl) (show _ = (Value.agg _) from rfl) (CallsR.mono (do_c hW HS7 hst1 (by omega)) ?_))
    rintro o8 w8 ⟨⟨bw2, ms2, lost2, rfl, hW8, hl8⟩, k8⟩
    have zs_k8 := k8.size
    replace E := E.step k8 (by intro i hi he; (try dsimp only [NoK] at hi he ⊢); first | exact he.elim | omega | exact he)
    replace HS1 := HS1.keep k8 (by intro i _ hi he; (try dsimp only [NoK, AllB] at hi he); first | exact hi.elim | exact he.elim | omega | (rcases hi with hi | hi <;> omega) | (rcases he with he | he <;> omega))
    replace EL1 := EL1.step k8 (by intro i hi he; (try dsimp only [NoK] at hi he ⊢); first | exact he.elim | omega | exact he)
    replace HPq := HPq.keep k8 (by intro h; (try dsimp only at h); (try simp only [add_block] at h); first | omega)
    refine l_v (v_move (t := .tuple _) rfl) ?_
    refine l_v (v_extract (t := .pointer _) rfl rfl) ?_
    refine l_v (v_extract (t := .pointer _) rfl rfl) ?_
    refine l_v (v_extract (t := .bool _) rfl rfl) ?_
    refine l_v (v_assign (t := .pointer _) rfl) ?_
    refine l_v (v_assign (t := .pointer _) rfl) ?_
    refine l_v (v_assign (t := .bool _) rfl) ?_
    refine l_nil ?_
    refine n_blk ?_
    refine n_then ?_
    refine wp_reg (by decide +kernel) ?_
    refine l_v (v_move (t := .int _ _) rfl) ?_
    refine l_v (v_add rfl rfl (by first | exact wr_i64 (by omega) (by omega) | rfl)) ?_
    refine l_v (v_assign (t := .int _ _) rfl) ?_
    refine l_nil ?_
    refine n_then ?_
    refine ⟨(i + 1, bw2, ms2, lost2), _, rfl, by (repeat (first | exact Off.of_over _ _ _ | refine Off.upd ?_ (by decide) _ | refine Off.overs ?_ (by decide) _)), ⟨by first | rfl | exact congrArg (Value.int _) (by omega) | (simp; done), by first | rfl | exact congrArg (Value.int _) (by omega) | (simp; done), by first | rfl | exact congrArg (Value.int _) (by omega) | (simp; done), by first | rfl | exact congrArg (Value.int _) (by omega) | (simp; done), trivial⟩, ⟨E, EL1, ?_⟩, ?_⟩
    · skip
      exact ⟨by omega, hW8, by omega⟩
    · (dsimp only; omega)
  · skip
    refine c_exit ?_
    refine x_then ?_
    refine x_then ?_
    refine x_hit ?_
    refine n_then ?_
    refine c_seq ?_
    refine wp_reg (by decide +kernel) ?_
    refine l_v (v_move (t := .pointer _) rfl) ?_
    refine l_v (v_move (t := .pointer _) rfl) ?_
    refine l_v (v_move (t := .bool _) rfl) ?_
    refine l_v (v_assign (t := .pointer _) rfl) ?_
    refine l_v (v_assign (t := .pointer _) rfl) ?_
    refine l_v (v_assign (t := .bool _) rfl) ?_
    refine l_nil ?_
    refine n_then ?_
    refine c_ret ?_
    refine ret3v rfl (by decide) (by decide) (by decide) (show _ = (Value.pointer _) from rfl) (show _ = (Value.pointer _) from rfl) (show _ = (Value.bool _) from rfl) ?_
    exact ⟨⟨bw, b5, ms, lost, rfl, by rw [← hn0]; exact hW⟩, E⟩
theorem netSameWay_self {w : World} {F : Nat → Prop} {b c : Nat} {a : Option Addr} {ms : List Ms} {l : Int} (HB1 : Blk w b [.bool true, .slice a ms.length c, .int .i64 l] 68) (HS1 : SlV tMs w F (.slice a ms.length c) ms) : CallsR Try.prog 34 #[.pointer (some ⟨b, 0, none⟩), .pointer (some ⟨b, 0, none⟩)] w (fun o w' => o = .bool true ∧ Ext w w') :=
  CallsR.mono (netSameWay_c HB1 HS1 HB1 HS1) fun o w' h => ⟨h.1.trans (by simp), h.2⟩
set_option maxHeartbeats 8000000 in
theorem NetSame_c {w : World} {F G : Nat → Prop} {v u : Value} {l k : List StpV} (HS1 : SlV tStp w F v l) (HS2 : SlV tStp w G u k) : CallsR Try.prog 7 #[v, u] w (fun o w' => o = .bool true ∧ Ext w w') := by
  obtain ⟨a1, c1, rfl⟩ := HS1.shape
  obtain ⟨a2, c2, rfl⟩ := HS2.shape
  refine enter 51 Try.func7 rfl rfl (by simp) ?_
  refine c_seq ?_
  have E := Keep.refl (K := NoK) w
  replace HS1 := HS1.all
  replace HS2 := HS2.all
  refine wp_reg (by decide +kernel) ?_
  refine l_v (v_assign rfl) ?_
  refine l_nil ?_
  refine n_then ?_
  refine c_seq ?_
  refine c_seq ?_
  refine wp_reg (by decide +kernel) ?_
  refine l_v (v_move (t := .slice _ _ _) rfl) ?_
  refine l_to (to_f1 (by kernel_rfl) (show _ = (Value.slice _ _ _) from rfl) (CallsR.mono (much_b HS1) ?_))
  rintro _ w101 ⟨rfl, e101⟩
  have zs_e101 := e101.size
  replace E := E.trans (Ext.keep e101)
  replace HS1 := HS1.ext e101
  replace HS2 := HS2.ext e101
  refine l_v (v_move (t := .bool _) rfl) ?_
  refine l_g1 rfl rfl (fun hG => v_move (t := .slice _ _ _) rfl) ?_
  refine l_g1f rfl rfl (fun hG => to_f1 (by kernel_rfl) (gd hG rfl) (much_b HS2)) ?_
  rintro w102 e102
  have zs_e102 := e102.size
  replace E := E.trans (Ext.keep e102)
  replace HS1 := HS1.ext e102
  replace HS2 := HS2.ext e102
  refine l_v (v_or rfl rfl) ?_
  refine l_nil ?_
  refine n_then ?_
  refine c_cond rfl rfl (fun hmu => ?_) (fun hmu => ?_)
  · skip
    refine c_seq ?_
    refine wp_reg (by decide +kernel) ?_
    refine l_to (to_f0 (by kernel_rfl) (CallsR.mono (known_c) ?_))
    rintro _ w103 ⟨rfl, e103⟩
    have zs_e103 := e103.size
    replace E := E.trans (Ext.keep e103)
    replace HS1 := HS1.ext e103
    replace HS2 := HS2.ext e103
    refine l_v (v_assign (t := .bool _) rfl) ?_
    refine l_nil ?_
    refine n_then ?_
    refine c_ret ?_
    refine r_then ?_
    refine ret1v rfl (by decide) (show _ = (Value.bool _) from rfl) ?_
    exact ⟨rfl, E⟩
  · skip
    have hm1 : muchB l = false := by revert hmu; cases muchB l <;> simp
    have hm2 : muchB k = false := by revert hmu; cases muchB k <;> simp
    obtain ⟨hl1, hst1⟩ := muchB_ok hm1
    obtain ⟨hl2, hst2⟩ := muchB_ok hm2
    refine c_skip ?_
    refine n_then ?_
    refine c_seq ?_
    refine wp_reg (by decide +kernel) ?_
    refine l_v (v_move (t := .slice _ _ _) rfl) ?_
    refine l_to (to_f1 (by kernel_rfl) (show _ = (Value.slice _ _ _) from rfl) (CallsR.mono (play_c HS1 hl1 hst1) ?_))
    rintro _ w3 ⟨⟨bw, br, ms, lost, rfl, hW3⟩, e3⟩
    have zs_e3 := e3.size
    obtain ⟨hne, hb0, hr0, ⟨a3, c3, HB1, HS3⟩, ⟨a4, c4, HB2, HS4⟩, hmay, hlen⟩ := hW3
    replace E := E.trans (Ext.keep e3)
    replace HS1 := HS1.ext e3
    replace HS2 := HS2.ext e3
    refine l_v (v_move (t := .tuple _) rfl) ?_
    refine l_v (v_extract (t := .pointer _) rfl rfl) ?_
    refine l_v (v_extract (t := .pointer _) rfl rfl) ?_
    refine l_v (v_extract (t := .bool _) rfl rfl) ?_
    refine l_v (v_assign (t := .pointer _) rfl) ?_
    refine l_v (v_assign (t := .pointer _) rfl) ?_
    refine l_v (v_assign (t := .bool _) rfl) ?_
    refine l_nil ?_
    refine n_then ?_
    refine c_seq ?_
    refine wp_reg (by decide +kernel) ?_
    refine l_v (v_move (t := .slice _ _ _) rfl) ?_
    refine l_to (to_f1 (by kernel_rfl) (show _ = (Value.slice _ _ _) from rfl) (CallsR.mono (play_c HS2 hl2 hst2) ?_))
    rintro _ w4 ⟨⟨bw2, br2, ms2, lost2, rfl, hW4⟩, e4⟩
    have zs_e4 := e4.size
    obtain ⟨hne2, hb2, hr2, ⟨a5, c5, HB3, HS5⟩, ⟨a6, c6, HB4, HS6⟩, hmay2, hlen2⟩ := hW4
    replace E := E.trans (Ext.keep e4)
    replace HS1 := HS1.ext e4
    replace HS2 := HS2.ext e4
    replace HB1 := HB1.ext e4
    replace HS3 := HS3.ext e4
    replace HB2 := HB2.ext e4
    replace HS4 := HS4.ext e4
    refine l_v (v_move (t := .tuple _) rfl) ?_
    refine l_v (v_extract (t := .pointer _) rfl rfl) ?_
    refine l_v (v_extract (t := .pointer _) rfl rfl) ?_
    refine l_v (v_extract (t := .bool _) rfl rfl) ?_
    refine l_v (v_assign (t := .pointer _) rfl) ?_
    refine l_v (v_assign (t := .pointer _) rfl) ?_
    refine l_v (v_assign (t := .bool _) rfl) ?_
    refine l_nil ?_
    refine n_then ?_
    refine c_seq ?_
    refine wp_reg (by decide +kernel) ?_
    refine l_v (v_move (t := .bool _) rfl) ?_
    refine l_v (v_move (t := .bool _) rfl) ?_
    refine l_g1 rfl rfl (fun hG => v_move (t := .bool _) rfl) ?_
    refine l_v (v_and rfl rfl) ?_
    refine l_v (v_move (t := .bool _) rfl) ?_
    refine l_g1 rfl rfl (fun hG => v_move (t := .pointer _) rfl) ?_
    refine l_g1 rfl rfl (fun hG => v_move (t := .pointer _) rfl) ?_
    refine l_g1f rfl rfl (fun hG => to_f2 (by kernel_rfl) (gd hG rfl) (gd hG rfl) (netSameWay_c HB1 HS3 HB3 HS5)) ?_
    rintro w104 e104
    have zs_e104 := e104.size
    replace E := E.trans (Ext.keep e104)
    replace HS1 := HS1.ext e104
    replace HS2 := HS2.ext e104
    replace HB1 := HB1.ext e104
    replace HS3 := HS3.ext e104
    replace HB2 := HB2.ext e104
    replace HS4 := HS4.ext e104
    replace HB3 := HB3.ext e104
    replace HS5 := HS5.ext e104
    replace HB4 := HB4.ext e104
    replace HS6 := HS6.ext e104
    refine l_g1 rfl rfl (fun hG => v_move (t := .pointer _) rfl) ?_
    refine l_g1 rfl rfl (fun hG => v_move (t := .pointer _) rfl) ?_
    refine l_g1f rfl rfl (fun hG => to_f2 (by kernel_rfl) (gd hG rfl) (gd hG rfl) (refSameWay_c HB2 HS4 HB4 HS6)) ?_
    rintro w105 e105
    have zs_e105 := e105.size
    replace E := E.trans (Ext.keep e105)
    replace HS1 := HS1.ext e105
    replace HS2 := HS2.ext e105
    replace HB1 := HB1.ext e105
    replace HS3 := HS3.ext e105
    replace HB2 := HB2.ext e105
    replace HS4 := HS4.ext e105
    replace HB3 := HB3.ext e105
    replace HS5 := HS5.ext e105
    replace HB4 := HB4.ext e105
    replace HS6 := HS6.ext e105
    refine l_g1 rfl rfl (fun hG => v_beql (by kernel_rfl) (gd hG rfl) (gd hG rfl)) ?_
    refine l_v (v_and rfl rfl) ?_
    refine l_v (v_move (t := .bool _) rfl) ?_
    refine l_g1 rfl rfl (fun hG => v_move (t := .pointer _) rfl) ?_
    refine l_g1 rfl rfl (fun hG => v_move (t := .pointer _) rfl) ?_
    refine l_g1f rfl rfl (fun hG => to_f2 (by kernel_rfl) (gd hG rfl) (gd hG rfl) (netSameWay_self HB1 HS3)) ?_
    rintro w106 e106
    have zs_e106 := e106.size
    replace E := E.trans (Ext.keep e106)
    replace HS1 := HS1.ext e106
    replace HS2 := HS2.ext e106
    replace HB1 := HB1.ext e106
    replace HS3 := HS3.ext e106
    replace HB2 := HB2.ext e106
    replace HS4 := HS4.ext e106
    replace HB3 := HB3.ext e106
    replace HS5 := HS5.ext e106
    replace HB4 := HB4.ext e106
    replace HS6 := HS6.ext e106
    refine l_v (v_and rfl rfl) ?_
    refine l_v (v_move (t := .bool _) rfl) ?_
    refine l_g1f rfl rfl (fun hG => to_f0 (by kernel_rfl) (known_c)) ?_
    rintro w107 e107
    have zs_e107 := e107.size
    replace E := E.trans (Ext.keep e107)
    replace HS1 := HS1.ext e107
    replace HS2 := HS2.ext e107
    replace HB1 := HB1.ext e107
    replace HS3 := HS3.ext e107
    replace HB2 := HB2.ext e107
    replace HS4 := HS4.ext e107
    replace HB3 := HB3.ext e107
    replace HS5 := HS5.ext e107
    replace HB4 := HB4.ext e107
    replace HS6 := HS6.ext e107
    refine l_v (v_and rfl rfl) ?_
    refine l_v (v_assign (t := .bool _) rfl) ?_
    refine l_nil ?_
    refine n_then ?_
    refine c_ret ?_
    refine ret1v rfl (by decide) (show _ = (Value.bool _) from rfl) ?_
    exact ⟨by simp, E⟩
end Go.Proofs.Ytaidpdjlchnonaa
