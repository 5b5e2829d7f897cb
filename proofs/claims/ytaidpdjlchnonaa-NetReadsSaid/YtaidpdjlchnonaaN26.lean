/- A part of the proof: steps and lemmas for the walks through the given program. -/
import Derived.Test.YtaidpdjlchnonaaN14
import Derived.Test.YtaidpdjlchnonaaGu
import Derived.Test.YtaidpdjlchnonaaGw
namespace Go.Proofs.Ytaidpdjlchnonaa
open Go.Vc
set_option linter.unusedVariables false
set_option linter.unusedSimpArgs false
set_option maxRecDepth 100000

/-- a number up to a greatest one: its value, and what is left -/
def smV (is : Bool) (most : Nat) (s : List UInt8 × Int) : Int := if is = true ∧ s.2 = 0 then (match rdNum s.1 with | some (n, _) => if n ≤ most then (n : Int) else 0 | none => 0) else 0
def smS (is : Bool) (most : Nat) (s : List UInt8 × Int) : List UInt8 × Int := if is = true ∧ s.2 = 0 then (match rdNum s.1 with | some (n, r) => if n ≤ most then (r, 0) else (r, 4) | none => (s.1, 4)) else s
theorem small_c {w : World} {F : Nat → Prop} {bx rb most : Nat} {l : List UInt8} {e : Int} {is : Bool} (HB1 : Blk w bx [.pointer (some ⟨rb, 0, none⟩), .int .i64 e] 113) (HR : Rd nRd w rb F l) (hF : ∀ k, F k → k < rb) (hx : rb < bx) (hm : most ≤ 9223372036854775807) :
    CallsR Try.prog 76 #[.pointer (some ⟨bx, 0, none⟩), .bool is, .int .i64 most] w (fun o w' => o = .int .i64 (smV is most (l, e)) ∧ (Blk w' bx [.pointer (some ⟨rb, 0, none⟩), .int .i64 (smS is most (l, e)).2] 113 ∧ Rd nRd w' rb F (smS is most (l, e)).1) ∧ Keep (fun k => k = bx ∨ k = rb) w w') := by
  have hnF : ¬ F rb := fun h => absurd (hF rb h) (Nat.lt_irrefl rb)
  refine enter 39 Try.func76 rfl rfl (by simp) ?_
  refine c_seq ?_
  have E := Keep.refl (K := fun k => k = bx ∨ k = rb) w
  refine wp_reg (by decide +kernel) ?_
  refine l_v (v_assign rfl) ?_
  refine l_nil ?_
  refine n_then ?_
  refine c_seq ?_
  refine c_seq ?_
  refine wp_reg (by decide +kernel) ?_
  refine l_v (v_move (t := .bool _) rfl) ?_
  refine l_v (v_not rfl) ?_
  refine l_v (v_move (t := .bool _) rfl) ?_
  refine l_g1 rfl rfl (fun hG => v_move (t := .pointer _) rfl) ?_
  refine l_g1 rfl rfl (fun hG => v_nilCheck (gd hG rfl)) ?_
  refine l_g1 rfl rfl (fun hG => v_fieldAddr (off := 1) (ft := 30) (by kernel_rfl) (gd hG rfl)) ?_
  refine l_g1 rfl rfl (fun hG => v_load (by kernel_rfl) (gd hG rfl) (by first | exact HB1.pv 1 _ rfl | assumption)) ?_
  refine l_g1 rfl rfl (fun hG => v_neq (gd hG rfl) rfl) ?_
  refine l_v (v_or rfl rfl) ?_
  refine l_nil ?_
  refine n_then ?_
  refine c_cond rfl rfl (fun hc => ?_) (fun hc => ?_)
  · skip
    refine c_seq ?_
    refine wp_reg (by decide +kernel) ?_
    refine l_v (v_assign rfl) ?_
    refine l_nil ?_
    refine n_then ?_
    refine c_ret ?_
    refine r_then ?_
    refine ret1v rfl (by decide) (show _ = (Value.int _ _) from rfl) ?_
    have hn : ¬ (is = true ∧ e = 0) := by cases is <;> simp at hc <;> simp [hc]
    rw [smV, smS, if_neg hn, if_neg hn]
    exact ⟨rfl, ⟨HB1, HR⟩, E⟩
  · skip
    have hi : is = true ∧ e = 0 := by cases is <;> simp at hc <;> simp [hc]
    obtain ⟨rfl, rfl⟩ := hi
    refine c_skip ?_
    refine n_then ?_
    refine c_seq ?_
    refine wp_reg (by decide +kernel) ?_
    refine l_v (v_move (t := .pointer _) rfl) ?_
    refine l_v (v_nilCheck rfl) ?_
    refine l_v (v_fieldAddr (off := 0) (ft := 110) (by kernel_rfl) rfl) ?_
    refine l_v (v_load (by kernel_rfl) rfl (by first | exact HB1.pv 0 _ rfl | assumption)) ?_
    refine l_to (to_f1 (by kernel_rfl) (show _ = (Value.pointer _) from rfl) (CallsR.mono (rNumber_c HR hnF) ?_))
    rintro r w3 ⟨hr3, HR3, k3⟩
    have zs_k3 := k3.size
    obtain ⟨n, ne, hn, hnl, hnx⟩ := numV_any l
    rw [hn] at hr3
    subst hr3
    replace E := E.step k3 (by intro i hi he; (try dsimp only [NoK] at hi he ⊢); first | exact he.elim | omega | exact he)
    replace HB1 := HB1.keep k3 (by intro h; (try dsimp only at h); first | omega)
    refine l_v (v_move (t := .tuple _) rfl) ?_
    refine l_v (v_extract (t := .int _ _) rfl rfl) ?_
    refine l_v (v_extract (t := .int _ _) rfl rfl) ?_
    refine l_v (v_assign (t := .int _ _) rfl) ?_
    refine l_v (v_assign (t := .int _ _) rfl) ?_
    refine l_nil ?_
    refine n_then ?_
    refine c_seq ?_
    refine c_seq ?_
    refine wp_reg (by decide +kernel) ?_
    refine l_v (v_move (t := .int _ _) rfl) ?_
    refine l_v (v_neq rfl rfl) ?_
    refine l_v (v_move (t := .bool _) rfl) ?_
    refine l_g1 rfl rfl (fun hG => v_move (t := .int _ _) rfl) ?_
    refine l_g1 rfl rfl (fun hG => v_move (t := .int _ _) rfl) ?_
    refine l_g1 rfl rfl (fun hG => v_conv (ds := .int .i64) (by kernel_rfl) (by kernel_rfl) (gd hG rfl) (by first | exact wr_u64 (by omega) (by omega) | rfl)) ?_
    refine l_g1 rfl rfl (fun hG => v_gtr (gd hG rfl) (gd hG rfl)) ?_
    refine l_v (v_or rfl rfl) ?_
    refine l_nil ?_
    refine n_then ?_
    refine c_cond rfl rfl (fun hc2 => ?_) (fun hc2 => ?_)
    · skip
      refine c_seq ?_
      refine wp_reg (by decide +kernel) ?_
      refine l_v (v_move (t := .pointer _) rfl) ?_
      refine l_v (v_nilCheck rfl) ?_
      refine l_v (v_fieldAddr (off := 1) (ft := 30) (by kernel_rfl) rfl) ?_
      refine l_to (to_store rfl rfl (show _ = (Value.int _ _) from rfl) rfl (by kernel_rfl) HB1 (by simp) ?_)
      rintro w31 HB1 k31 z31
      have zs_k31 := k31.size
      try simp only [List.set_cons_zero, List.set_cons_succ] at HB1
      replace E := E.step k31 (by intro i hi he; (try dsimp only [NoK] at hi he ⊢); first | exact he.elim | omega | exact he)
      replace HR3 := HR3.keep k31 (by intro h; have h := h; (try dsimp only [NoK] at h); first | exact h | omega | (rcases h with h | h <;> omega)) (by intro i hi he; have hi0 := hi; have hi := hi; have he := he; (try dsimp only [NoK] at hi he); first | exact he.elim | omega | (have := hF i hi0; omega))
      refine l_nil ?_
      refine n_then ?_
      refine c_seq ?_
      refine wp_reg (by decide +kernel) ?_
      refine l_v (v_assign rfl) ?_
      refine l_nil ?_
      refine n_then ?_
      refine c_ret ?_
      refine r_then ?_
      refine ret1v rfl (by decide) (show _ = (Value.int _ _) from rfl) ?_
      rw [smV, smS, if_pos ⟨rfl, rfl⟩, if_pos ⟨rfl, rfl⟩]
      rcases hnx with ⟨rfl, h1, h2⟩ | ⟨rfl, rfl, h1, h2⟩
      · have h3 : ¬ n ≤ most := by simp at hc2; omega
        simp only [h2, if_neg h3]
        exact ⟨by first | rfl | trivial, ⟨HB1, HR3⟩, E⟩
      · simp only [h2]
        rw [h1] at HR3
        exact ⟨by first | rfl | trivial, ⟨HB1, HR3⟩, E⟩
    · skip
      have hn9 : n ≤ 9223372036854775807 := by have h := hc2; simp at h; omega
      refine c_skip ?_
      refine n_then ?_
      refine c_seq ?_
      refine wp_reg (by decide +kernel) ?_
      refine l_v (v_move (t := .int _ _) rfl) ?_
      refine l_v (v_conv (ds := .int .u64) (by kernel_rfl) (by kernel_rfl) rfl (by first | exact wr_i64 (by omega) (by omega) | rfl)) ?_
      refine l_v (v_assign (t := .int _ _) rfl) ?_
      refine l_nil ?_
      refine n_then ?_
      refine c_ret ?_
      refine ret1v rfl (by decide) (show _ = (Value.int _ _) from rfl) ?_
      rw [smV, smS, if_pos ⟨rfl, rfl⟩, if_pos ⟨rfl, rfl⟩]
      rcases hnx with ⟨rfl, h1, h2⟩ | ⟨rfl, rfl, h1, h2⟩
      · have h3 : n ≤ most := by simp at hc2; omega
        simp only [h2, if_pos h3]
        exact ⟨by first | rfl | trivial, ⟨HB1, HR3⟩, E⟩
      · simp at hc2
end Go.Proofs.Ytaidpdjlchnonaa
