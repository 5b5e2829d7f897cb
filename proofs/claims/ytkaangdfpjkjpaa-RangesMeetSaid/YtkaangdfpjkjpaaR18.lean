/- A part of the proof: steps and lemmas for the walks through the given program. -/
import Derived.Test.YtkaangdfpjkjpaaR15
namespace Go.Proofs.Ytkaangdfpjkjpaa
open Go.Vc
set_option linter.unusedVariables false
set_option linter.unusedSimpArgs false
set_option maxRecDepth 100000

theorem least_c {w : World} {F : Nat → Prop} {v : Value} {x : List UInt8} (HS1 : Bv w F v x) : CallsR Try.prog 64 #[v] w (fun o w' => (∃ u, o = .tuple #[u, .bool (leastL x).isSome] ∧ Bv w' AllB u ((leastL x).getD [])) ∧ Ext w w') := by
  obtain ⟨a1, c1, rfl⟩ := HS1.shape
  have hxc := nc_le HS1
  have hmx := HS1.len_max
  refine enter 45 Try.func64 rfl rfl (by simp) ?_
  refine c_seq ?_
  have E := Keep.refl (K := NoK) w
  replace HS1 := HS1.all
  refine wp_reg (by decide +kernel) ?_
  refine l_v (v_assign rfl) ?_
  refine l_v (v_assign rfl) ?_
  refine l_nil ?_
  refine n_then ?_
  refine c_seq ?_
  refine c_seq ?_
  refine wp_reg (by decide +kernel) ?_
  refine l_v (v_move (t := .slice _ _ _) rfl) ?_
  refine l_v (v_len (et := 5) (by kernel_rfl) rfl) ?_
  refine l_v (v_eql rfl rfl) ?_
  refine l_nil ?_
  refine n_then ?_
  refine c_cond rfl rfl (fun hl => ?_) (fun hl => ?_)
  · skip
    refine c_seq ?_
    refine wp_reg (by decide +kernel) ?_
    refine l_to (to_slice1 (t := tU8) (et := 5) (bytes := 1) (by kernel_rfl) (by decide) (show _ = (Value.int _ _) from rfl) (rep_u8 (F := NoK) 0 rfl) ?_)
    rintro b8 w8 zb8 HO8 e8 z8
    have zs_e8 := e8.size
    replace E := E.trans (Ext.keep e8)
    replace HS1 := HS1.ext e8
    have zo_HO8 := fun (b : Nat) h => HO8.own_lt (b := b) h
    refine l_v (v_assign (t := .slice _ _ _) rfl) ?_
    refine l_v (v_assign rfl) ?_
    refine l_nil ?_
    refine n_then ?_
    refine c_ret ?_
    refine r_then ?_
    refine ret2v rfl (by decide) (by decide) (show _ = (Value.slice _ _ _) from rfl) (show _ = (Value.bool _) from rfl) ?_
    have hx0 : x = [] := List.eq_nil_of_length_eq_zero (by have := dtrue hl; omega)
    rw [leastL, if_pos hx0]
    exact ⟨⟨_, rfl, HO8.view.allB⟩, E⟩
  · skip
    have hx0 : x ≠ [] := fun h => by have := dfalse hl; rw [h] at this; exact this rfl
    refine c_skip ?_
    refine n_then ?_
    refine c_seq ?_
    refine c_seq ?_
    refine wp_reg (by decide +kernel) ?_
    refine l_v (v_move (t := .slice _ _ _) rfl) ?_
    refine l_v (v_len (et := 5) (by kernel_rfl) rfl) ?_
    refine l_v (v_leq rfl rfl) ?_
    refine l_nil ?_
    refine n_then ?_
    refine c_cond rfl rfl (fun hl2 => ?_) (fun hl2 => ?_)
    · skip
      refine c_seq ?_
      refine wp_reg (by decide +kernel) ?_
      refine l_v (v_move (t := .slice _ _ _) rfl) ?_
      refine l_v (v_assign (t := .slice _ _ _) rfl) ?_
      refine l_v (v_assign rfl) ?_
      refine l_nil ?_
      refine n_then ?_
      refine c_ret ?_
      refine r_then ?_
      refine ret2v rfl (by decide) (by decide) (show _ = (Value.slice _ _ _) from rfl) (show _ = (Value.bool _) from rfl) ?_
      have h24 : x.length ≤ 24 := by have := dtrue hl2; omega
      rw [leastL, if_neg hx0, if_pos h24]
      exact ⟨⟨_, rfl, HS1.allB⟩, E⟩
    · skip
      have h24 : ¬ x.length ≤ 24 := by have := dfalse hl2; omega
      refine c_skip ?_
      refine n_then ?_
      refine c_seq ?_
      refine wp_reg (by decide +kernel) ?_
      refine l_v (v_move (t := .slice _ _ _) rfl) ?_
      refine l_v (v_slice (et := 5) (sz := 1) (l := 0) (h := 24) (by kernel_rfl) (by kernel_rfl) rfl rfl ⟨.i64, ((show _ = Value.int _ _ from rfl)).trans (congrArg (Value.int _) (by omega))⟩ (by omega) (by omega)) ?_
      have HS3 := HS1.sub (l := 0) (h := 24) (by omega) (by omega)
      obtain ⟨y, hy⟩ : ∃ y, y = x.take 24 := ⟨_, rfl⟩
      rw [List.drop_zero, ← hy] at HS3
      have hl9 : y.length = 24 := by rw [hy, List.length_take]; omega
      replace HS3 := HS3.all
      have HO0 := OwV.nil tU8 5 w w.heap.size NoK
      have zo_HO0 := fun (b : Nat) h => HO0.own_lt (b := b) h
      refine l_to (to_append (et := 5) (bytes := 1) (by kernel_rfl) (show _ = (Value.slice _ _ _) from rfl) HO0 (show _ = (Value.slice _ _ _) from rfl) HS3 (flat_u8.to) (by first | omega | (simp; done) | (simp; omega)) (by simp only [maxLen]; first | omega | (simp; done) | (simp; omega)) (by omega) ?_)
      rintro a9 n9 c9 w9 HO9 hn9 k9 h9 i9
      have zs_k9 := k9.size
      replace E := E.step k9 (by intro i hi he; have he0 := he; have hi := hi; have he := he; (try dsimp only [NoK] at hi he ⊢); (try simp only [Value.ownBlock, Option.some.injEq] at he); first | exact he.elim | omega | exact he | (have := (HO0).own_lt he0; omega) | (have := zo_HO0 _ he0; omega) | (have := (HO0).own_lt he0; rcases hi with hi | hi <;> omega))
      replace HS1 := HS1.keep k9 (by first | exact fun h => h | (intro h; have he0 := h; have h := h; (try dsimp only at h); (try simp only [Value.ownBlock, Option.some.injEq] at h); (try simp only [add_block] at h); (try simp only [add_block] at he0); first | omega | (have := (HO0).own_lt he0; omega) | (have := zo_HO0 _ he0; omega)) | (intro i _ hi he; have he0 := he; have hi := hi; have he := he; (try dsimp only [NoK, AllB] at hi he); (try simp only [Value.ownBlock, Option.some.injEq] at he); first | exact hi.elim | exact he.elim | omega | (rcases hi with hi | hi <;> omega) | (rcases he with he | he <;> omega) | (have := (HO0).own_lt he0; omega) | (have := zo_HO0 _ he0; omega) | (have := (HO0).own_lt he0; rcases hi with hi | hi <;> omega)))
      replace HS3 := HS3.keep k9 (by first | exact fun h => h | (intro h; have he0 := h; have h := h; (try dsimp only at h); (try simp only [Value.ownBlock, Option.some.injEq] at h); (try simp only [add_block] at h); (try simp only [add_block] at he0); first | omega | (have := (HO0).own_lt he0; omega) | (have := zo_HO0 _ he0; omega)) | (intro i _ hi he; have he0 := he; have hi := hi; have he := he; (try dsimp only [NoK, AllB] at hi he); (try simp only [Value.ownBlock, Option.some.injEq] at he); first | exact hi.elim | exact he.elim | omega | (rcases hi with hi | hi <;> omega) | (rcases he with he | he <;> omega) | (have := (HO0).own_lt he0; omega) | (have := zo_HO0 _ he0; omega) | (have := (HO0).own_lt he0; rcases hi with hi | hi <;> omega)))
      have zo_HO9 := fun (b : Nat) h => HO9.own_lt (b := b) h
      rw [List.nil_append] at HO9
      obtain rfl : n9 = 24 := by first | (rw [hn9, List.nil_append, hl9]; done) | (simp at hn9; omega)
      obtain ⟨b9, rfl, hb9, hb9'⟩ := HO9.addr (fun h => by rw [h] at hl9; simp at hl9)
      have hcap := HO9.cap
      have zo_HO9 := fun (b : Nat) h => HO9.own_lt (b := b) h
      refine l_v (v_assign (t := .slice _ _ _) rfl) ?_
      refine l_nil ?_
      refine n_then ?_
      refine c_seq ?_
      refine c_block ?_
      refine c_loop (τ := Nat) [4, 16, 17, 18, 19, 20, 21, 22, 23, 24, 25, 26, 27, 28, 29, 30, 31, 32] (fun n => [(4, .slice (some ⟨b9, 0, none⟩) n c9)]) (fun n W => Ext w W ∧ Keep (NoK) w9 W ∧ n ≤ 24 ∧ trim255 y = trim255 (y.take n)) (fun n => n) 24 (by exact ⟨rfl, trivial⟩) (by exact ⟨E, Keep.refl _, Nat.le_refl _, by rw [List.take_of_length_le (by omega)]⟩) ?_
      rintro n w101 j ⟨E, EL1, h1, h2⟩
      have zs_EL1 := EL1.size
      replace HS1 := HS1.ext EL1
      replace HO9 := HO9.ext EL1
      refine c_seq ?_
      refine c_seq ?_
      refine wp_reg (by decide +kernel) ?_
      refine l_v (v_move (t := .slice _ _ _) rfl) ?_
      refine l_v (v_len (et := 5) (by kernel_rfl) rfl) ?_
      refine l_v (v_gtr rfl rfl) ?_
      refine l_v (v_move (t := .bool _) rfl) ?_
      refine l_g1 rfl rfl (fun hG => v_move (t := .slice _ _ _) rfl) ?_
      refine l_g1 rfl rfl (fun hG => v_move (t := .slice _ _ _) rfl) ?_
      refine l_g1 rfl rfl (fun hG => v_len (et := 5) (by kernel_rfl) (gd hG rfl)) ?_
      refine l_g1 rfl rfl (fun hG => v_sub (gd hG rfl) rfl (by first | exact wr_i64 (by omega) (by omega) | rfl)) ?_
      refine l_g1 rfl rfl (fun hG => v_indexAddr (et := 5) (sz := 1) (k := n - 1) (by kernel_rfl) (by kernel_rfl) (gd hG rfl) (gd hG rfl) (by have := hG; simp at this; omega) (by have := hG; simp at this; omega)) ?_
      refine l_g1 rfl rfl (fun hG => v_load (by kernel_rfl) (gd hG rfl) (HO9.cell1 (k := n - 1) (xx := y.getD (n - 1) 0) (by have := hG; simp at this; simp [show n - 1 < y.length by omega]))) ?_
      refine l_g1 rfl rfl (fun hG => v_eql (gd hG rfl) rfl) ?_
      refine l_v (v_and rfl rfl) ?_
      refine l_nil ?_
      refine n_then ?_
      refine c_cond rfl rfl (fun h40 => ?_) (fun h40 => ?_)
      · skip
        have hn : 0 < n := by
          rcases Nat.eq_zero_or_pos n with h | h
          · subst h; simp at h40
          · exact h
        refine c_skip ?_
        refine n_then ?_
        refine c_block ?_
        refine wp_reg (by decide +kernel) ?_
        refine l_v (v_move (t := .slice _ _ _) rfl) ?_
        refine l_v (v_move (t := .slice _ _ _) rfl) ?_
        refine l_v (v_len (et := 5) (by kernel_rfl) rfl) ?_
        refine l_v (v_sub rfl rfl (by first | exact wr_i64 (by omega) (by omega) | rfl)) ?_
        refine l_v (v_slicePre (et := 5) (sz := 1) (h := n - 1) (by kernel_rfl) (by kernel_rfl) rfl rfl (by first | rfl | omega) (by omega)) ?_
        refine l_v (v_assign (t := .slice _ _ _) rfl) ?_
        refine l_nil ?_
        refine n_blk ?_
        refine n_then ?_
        refine ⟨n - 1, _, rfl, by (repeat (first | exact Off.of_over _ _ _ | refine Off.upd ?_ (by decide) _)), ⟨by first | rfl | exact congrArg (Value.int _) (by omega) | (simp; done), trivial⟩, ⟨E, EL1, ?_⟩, ?_⟩
        · skip
          refine ⟨by omega, ?_⟩
          rw [h2]
          have h255 : y.getD (n - 1) 0 = 255 := by
            have : decide (((y.getD (n - 1) 0).toNat : Int) = 255) = true := by rw [show decide (0 < (n : Int)) = true from decide_eq_true (by omega)] at h40; exact h40
            exact UInt8.toNat_inj.1 (by have h9 := dtrue this; have : (255 : UInt8).toNat = 255 := rfl; omega)
          exact trim_snoc (by omega) h255
        · (dsimp only; omega)
      · skip
        have ht : trim255 y = y.take n := by
          rw [h2]
          refine trim_stop fun hn => ?_
          have h0 : 0 < n := by rcases Nat.eq_zero_or_pos n with h | h; (subst h; simp at hn); exact h
          rw [show decide (0 < (n : Int)) = true from decide_eq_true (by omega)] at h40
          have h3 : decide (((y.getD (n - 1) 0).toNat : Int) = 255) = false := h40
          refine ⟨y.getD (n - 1) 0, ?_, fun he => ?_⟩
          · rw [List.getLast?_take]; simp [show n ≠ 0 by omega, show n - 1 < y.length by omega]
          · rw [he] at h3; exact absurd h3 (by decide)
        have hln : (y.take n).length = n := by rw [List.length_take]; omega
        refine c_exit ?_
        refine x_then ?_
        refine x_then ?_
        refine x_hit ?_
        refine n_then ?_
        refine c_seq ?_
        refine c_seq ?_
        refine wp_reg (by decide +kernel) ?_
        refine l_v (v_move (t := .slice _ _ _) rfl) ?_
        refine l_v (v_len (et := 5) (by kernel_rfl) rfl) ?_
        refine l_v (v_eql rfl rfl) ?_
        refine l_nil ?_
        refine n_then ?_
        refine c_cond rfl rfl (fun h48 => ?_) (fun h48 => ?_)
        · skip
          refine c_seq ?_
          refine wp_reg (by decide +kernel) ?_
          refine l_v (v_assign rfl) ?_
          refine l_v (v_assign rfl) ?_
          refine l_nil ?_
          refine n_then ?_
          refine c_ret ?_
          refine r_then ?_
          refine ret2v rfl (by decide) (by decide) (show _ = (Value.slice _ _ _) from rfl) (show _ = (Value.bool _) from rfl) ?_
          have hn : n = 0 := by have := dtrue h48; omega
          subst hn
          rw [leastL, if_neg hx0, if_neg h24, ← hy, ht]
          exact ⟨⟨_, rfl, SlV.nil _ _ _⟩, E⟩
        · skip
          have hn : 0 < n := by have := dfalse h48; omega
          have HO10 := HO9.pre (m := n) (by omega)
          have hyl : y[n - 1]? = some (y.getD (n - 1) 0) := by simp [show n - 1 < y.length by omega]
          have zo_HO10 := fun (b : Nat) h => HO10.own_lt (b := b) h
          refine c_skip ?_
          refine n_then ?_
          refine c_seq ?_
          refine wp_reg (by decide +kernel) ?_
          refine l_v (v_move (t := .slice _ _ _) rfl) ?_
          refine l_v (v_move (t := .slice _ _ _) rfl) ?_
          refine l_v (v_len (et := 5) (by kernel_rfl) rfl) ?_
          refine l_v (v_sub rfl rfl (by first | exact wr_i64 (by omega) (by omega) | rfl)) ?_
          refine l_v (v_indexAddr (et := 5) (sz := 1) (k := n - 1) (by kernel_rfl) (by kernel_rfl) rfl rfl (by first | rfl | omega) (by omega)) ?_
          refine l_v (v_load (by kernel_rfl) rfl (HO10.cell1 (k := n - 1) (xx := y.getD (n - 1) 0) (by rw [List.getElem?_take_of_lt (by omega)]; exact hyl))) ?_
          refine l_v (v_add (t := (((y.getD (n - 1) 0 + 1 : UInt8).toNat : Nat) : Int)) rfl rfl ((by (have h1 : (y.getD (n - 1) 0 + 1 : UInt8).toNat = ((y.getD (n - 1) 0).toNat + 1) % 256 := (by rw [UInt8.toNat_add]; rfl)); rw [wr_u8m, h1]; omega))) ?_
          refine l_v (v_indexAddr (et := 5) (sz := 1) (k := n - 1) (by kernel_rfl) (by kernel_rfl) rfl rfl (by first | rfl | omega) (by omega)) ?_
          refine l_to (to_storeO (k := n - 1) (off := 0) rfl ((by rw [add_lit, Nat.zero_add, Nat.add_zero]; rfl)) (by decide) (show _ = (Value.int _ _) from rfl) rfl (by kernel_rfl) HO10 (by rw [List.getElem?_take_of_lt (by omega)]; exact hyl) (fun cs h => show tU8.rep _ _ _ (y.getD (n - 1) 0 + 1) from by have h' : cs = [.int .u8 (y.getD (n - 1) 0).toNat] := h; subst h'; rfl) ?_)
          rintro w11 HO11 k11 z11
          have zs_k11 := k11.size
          replace E := E.step k11 (by intro i hi he; have he0 := he; have hi := hi; have he := he; (try dsimp only [NoK] at hi he ⊢); (try simp only [Value.ownBlock, Option.some.injEq] at he); first | exact he.elim | omega | exact he)
          replace HS1 := HS1.keep k11 (by first | exact fun h => h | (intro h; have he0 := h; have h := h; (try dsimp only at h); (try simp only [Value.ownBlock, Option.some.injEq] at h); (try simp only [add_block] at h); (try simp only [add_block] at he0); first | omega) | (intro i _ hi he; have he0 := he; have hi := hi; have he := he; (try dsimp only [NoK, AllB] at hi he); (try simp only [Value.ownBlock, Option.some.injEq] at he); first | exact hi.elim | exact he.elim | omega | (rcases hi with hi | hi <;> omega) | (rcases he with he | he <;> omega)))
          have zo_HO11 := fun (b : Nat) h => HO11.own_lt (b := b) h
          refine l_nil ?_
          refine n_then ?_
          refine c_seq ?_
          refine wp_reg (by decide +kernel) ?_
          refine l_v (v_move (t := .slice _ _ _) rfl) ?_
          refine l_v (v_assign (t := .slice _ _ _) rfl) ?_
          refine l_v (v_assign rfl) ?_
          refine l_nil ?_
          refine n_then ?_
          refine c_ret ?_
          refine ret2v rfl (by decide) (by decide) (show _ = (Value.slice _ _ _) from rfl) (show _ = (Value.bool _) from rfl) ?_
          have hne : ¬ trim255 y = [] := by rw [ht]; intro h; rw [h] at hln; simp at hln; omega
          have hbm : (y.take n).set (n - 1) (y.getD (n - 1) 0 + 1) = bump (trim255 y) := by rw [ht]; exact set_last hln hn (by rw [List.getElem?_take_of_lt (by omega)]; exact hyl)
          rw [leastL, if_neg hx0, if_neg h24, ← hy, if_neg hne, ← hbm]
          exact ⟨⟨_, rfl, HO11.view.allB⟩, E⟩
end Go.Proofs.Ytkaangdfpjkjpaa
