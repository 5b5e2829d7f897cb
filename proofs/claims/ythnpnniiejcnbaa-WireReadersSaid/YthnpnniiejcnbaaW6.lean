/- A part of the proof: steps and lemmas for the walks through the given program. -/
import Derived.Test.YthnpnniiejcnbaaW5
namespace Go.Proofs.Ythnpnniiejcnbaa
open Go.Vc
set_option linter.unusedVariables false
set_option maxRecDepth 100000

/-- what a reading hands back -/
def ReadV {α : Type} (t : Ty α) (et eR : TypeId) (w1 w2 : World) (c : Nat) (F : Nat → Prop) : Except Int (List α × List UInt8) → Value → Prop
  | .ok (x, l2), r => ∃ a4 c4, r = .tuple #[.slice a4 x.length c4, .int .i64 0] ∧ OwV t et w2 w1.heap.size (fun k => w1.heap.size ≤ k) (.slice a4 x.length c4) x ∧ Rd eR w2 c F l2
  | .error e, r => e ≠ 0 ∧ ∃ a n c, r = .tuple #[.slice a n c, .int .i64 e]
def TryV {α : Type} (t : Ty α) (et eR : TypeId) (w w' : World) (b : Nat) (F : Nat → Prop) (l : List UInt8) : Except Int (List α × List UInt8) → Value → Prop
  | .ok (x, l2), r => ∃ a4 c4, r = .tuple #[.slice a4 x.length c4, .int .i64 0] ∧ OwV t et w' w.heap.size (fun k => w.heap.size ≤ k) (.slice a4 x.length c4) x ∧ Rd eR w' b F l2
  | .error e, r => e ≠ 0 ∧ r = .tuple #[.slice none 0 0, .int .i64 e] ∧ Rd eR w' b F l
/-- reading with a number ahead -/
def tryRd {β : Type} (ρ : Nat → List UInt8 → Except Int (β × List UInt8)) (most : Nat) (l : List UInt8) : Except Int (β × List UInt8) := match rdNum l with
  | none => .error 4
  | some (n, l') => if n ≤ most then ρ n l' else .error 3

theorem tryB_c {w : World} {b : Nat} {F : Nat → Prop} {l : List UInt8} {most : Int} {fr : Nat} {cap : Array Value} (hr : Rd nRd w b F l) (hF : ∀ k, F k → k < b) (hm : 0 ≤ most) (hm2 : most ≤ 9223372036854775807) (hb : kBody Try.prog fr = true)
    (ρ : Nat → List UInt8 → Except Int (List UInt8 × List UInt8))
    (hread : ∀ (w1 : World) (c : Nat) (l1 : List UInt8) (n : Nat), Ext w w1 → w.heap.size ≤ c → Rd nRd w1 c F l1 → l1.length ≤ l.length → (n : Int) ≤ most → CallsR Try.prog fr (#[.pointer (some ⟨c, 0, none⟩), .int .i64 n] ++ cap) w1 (fun r w2 => ReadV tU8 nU8 nRd w1 w2 c F (ρ n l1) r ∧ Keep (fun k => k = c) w1 w2)) :
    CallsR Try.prog 55 #[.pointer (some ⟨b, 0, none⟩), .int .i64 most, .func (.func fr) #[] cap] w (fun r w' => TryV tU8 nU8 nRd w w' b F l (tryRd ρ most.toNat l) r ∧ Keep (fun k => k = b) w w') := by
  have hnF : ¬ F b := fun h => absurd (hF b h) (Nat.lt_irrefl b)
  obtain ⟨a, c, hb0, hv⟩ := hr
  have hblt := hb0.lt
  rcases hd : rdNum l with _ | ⟨n, l'⟩
  · obtain ⟨er, her⟩ : ∃ er : Int, er = 4 := ⟨4, rfl⟩
    have htr : tryRd ρ most.toNat l = .error er := by rw [tryRd, hd, her]
    refine enter 56 Try.func55 rfl rfl (by simp) ?_
    refine c_seq ?_
    refine wp_reg (by decide +kernel) ?_
    refine l_v (v_assign rfl) ?_
    refine l_v (v_assign rfl) ?_
    refine l_nil ?_
    refine n_then ?_
    refine c_seq ?_
    refine wp_reg (by decide +kernel) ?_
    refine l_v (v_assign rfl) ?_
    refine l_nil ?_
    refine n_then ?_
    refine c_seq ?_
    refine c_seq ?_
    refine wp_reg (by decide +kernel) ?_
    refine l_v (v_move (t := .pointer _) rfl) ?_
    refine l_to (to_f1 (by kernel_rfl) (show _ = (Value.pointer _) from rfl) (CallsR.mono (closed_c hb0) ?_))
    rintro _ w1 ⟨rfl, e1⟩
    have zs_e1 := e1.size
    refine l_nil ?_
    refine n_then ?_
    refine c_cond rfl rfl (fun hc => ?_) (fun hc => ?_)
    · skip
      cases hc
    · skip
      refine wp_skip ?_
      refine n_then ?_
      refine c_seq ?_
      refine c_seq ?_
      refine wp_reg (by decide +kernel) ?_
      refine l_v (v_move (t := .int _ _) rfl) ?_
      refine l_v (v_lss rfl rfl) ?_
      refine l_nil ?_
      refine n_then ?_
      refine c_cond rfl rfl (fun hc2 => ?_) (fun hc2 => ?_)
      · skip
        have := dtrue hc2; omega
      · skip
        refine wp_skip ?_
        refine n_then ?_
        refine c_seq ?_
        refine wp_reg (by decide +kernel) ?_
        refine l_v (v_move (t := .pointer _) rfl) ?_
        refine l_v (v_nilCheck rfl) ?_
        refine l_v (v_fieldAddr (off := 0) (ft := 22) (by kernel_rfl) rfl) ?_
        refine l_v (v_load (by kernel_rfl) rfl ((hb0.ext e1).pv 0 _ rfl)) ?_
        refine l_v (v_build (pl := [(0, 1)]) (z := .agg #[.slice none 0 0]) (zl := [.slice none 0 0]) (by kernel_rfl) (by unfold kZero; kernel_rfl) rfl rfl (cells := [_]) rfl) ?_
        refine l_to (to_box (show _ = (Value.agg _) from rfl) ?_)
        rintro b2 w2 rfl hb2 e2 z2
        have zs_e2 := e2.size
        have e12 := e1.trans e2
        refine l_v (v_assign (t := .pointer _) rfl) ?_
        refine l_nil ?_
        refine n_then ?_
        refine c_seq ?_
        refine wp_reg (by decide +kernel) ?_
        refine l_v (v_move (t := .pointer _) rfl) ?_
        refine l_to (to_f1 (by kernel_rfl) (show _ = (Value.pointer _) from rfl) (CallsR.mono (rNumber_c (b := w1.heap.size) (l := l) (F := F) ⟨a, c, hb2, hv.ext e12⟩ (fun h => by have := hF _ h; omega)) ?_))
        rintro r w3 ⟨hr3, h3, k3⟩
        have zs_k3 := k3.size
        rw [numV, hd, ← her] at hr3
        subst hr3
        have e3 : Ext w w3 := e12.step k3 fun i hi h => by omega
        refine l_v (v_move (t := .tuple _) rfl) ?_
        refine l_v (v_extract (t := .int _ _) rfl rfl) ?_
        refine l_v (v_extract (t := .int _ _) rfl rfl) ?_
        refine l_v (v_assign (t := .int _ _) rfl) ?_
        refine l_v (v_assign (t := .int _ _) rfl) ?_
        refine l_nil ?_
        refine n_then ?_
        refine c_seq ?_
        refine c_seq ?_
        refine wp_reg (by decide +kernel) ?_
        refine l_v (v_move (t := .int _ _) rfl) ?_
        refine l_v (v_eql rfl rfl) ?_
        refine l_v (v_move (t := .bool _) rfl) ?_
        refine l_g1 rfl rfl (fun hG => v_move (t := .int _ _) rfl) ?_
        refine l_g1 rfl rfl (fun hG => v_move (t := .int _ _) rfl) ?_
        refine l_g1 rfl rfl (fun hG => v_conv (ds := .int .i64) (by kernel_rfl) (by kernel_rfl) (gd hG rfl) (by first | exact wr_u64 (by omega) (by omega) | rfl)) ?_
        refine l_g1 rfl rfl (fun hG => v_gtr (gd hG rfl) (gd hG rfl)) ?_
        refine l_v (v_and rfl rfl) ?_
        refine l_nil ?_
        refine n_then ?_
        refine c_cond rfl rfl (fun hc3 => ?_) (fun hc3 => ?_)
        · skip
          simp at hc3; omega
        · skip
          refine wp_skip ?_
          refine n_then ?_
          refine c_seq ?_
          refine c_seq ?_
          refine wp_reg (by decide +kernel) ?_
          refine l_v (v_move (t := .int _ _) rfl) ?_
          refine l_v (v_eql rfl rfl) ?_
          refine l_nil ?_
          refine n_then ?_
          refine c_cond rfl rfl (fun hc4 => ?_) (fun hc4 => ?_)
          · skip
            have := dtrue hc4; omega
          · skip
            refine wp_skip ?_
            refine n_then ?_
            refine c_seq ?_
            refine c_seq ?_
            refine wp_reg (by decide +kernel) ?_
            refine l_v (v_move (t := .int _ _) rfl) ?_
            refine l_v (v_neq rfl rfl) ?_
            refine l_nil ?_
            refine n_then ?_
            refine c_cond rfl rfl (fun hc5 => ?_) (fun hc5 => ?_)
            · skip
              refine c_seq ?_
              refine wp_reg (by decide +kernel) ?_
              refine l_v (v_move (t := .slice _ _ _) rfl) ?_
              refine l_v (v_move (t := .int _ _) rfl) ?_
              refine l_v (v_assign (t := .slice _ _ _) rfl) ?_
              refine l_v (v_assign (t := .int _ _) rfl) ?_
              refine l_nil ?_
              refine n_then ?_
              refine wp_ret ?_
              refine r_then ?_
              refine ret2 rfl (by decide) (by decide) ?_
              refine ⟨?_, e3.keep⟩
              rw [htr]
              exact ⟨by omega, rfl, ⟨a, c, hb0.ext e3, hv.ext e3⟩⟩
            · skip
              simp at hc5; omega
  · have hlt := rdNum_lt hd
    have hll : l'.length ≤ l.length := by obtain ⟨k, _, _, h⟩ := rdGo_suffix l 0 hd; rw [h, List.length_drop]; omega
    obtain ⟨z, hz⟩ : ∃ z : Int, z = 0 := ⟨0, rfl⟩
    by_cases hnm : (n : Int) ≤ most
    · have htr : tryRd ρ most.toNat l = ρ n l' := by rw [tryRd, hd]; simp only []; rw [if_pos (by omega)]
      cases hρ : ρ n l' with
      | error er =>
        refine enter 56 Try.func55 rfl rfl (by simp) ?_
        refine c_seq ?_
        refine wp_reg (by decide +kernel) ?_
        refine l_v (v_assign rfl) ?_
        refine l_v (v_assign rfl) ?_
        refine l_nil ?_
        refine n_then ?_
        refine c_seq ?_
        refine wp_reg (by decide +kernel) ?_
        refine l_v (v_assign rfl) ?_
        refine l_nil ?_
        refine n_then ?_
        refine c_seq ?_
        refine c_seq ?_
        refine wp_reg (by decide +kernel) ?_
        refine l_v (v_move (t := .pointer _) rfl) ?_
        refine l_to (to_f1 (by kernel_rfl) (show _ = (Value.pointer _) from rfl) (CallsR.mono (closed_c hb0) ?_))
        rintro _ w1 ⟨rfl, e1⟩
        have zs_e1 := e1.size
        refine l_nil ?_
        refine n_then ?_
        refine c_cond rfl rfl (fun hc => ?_) (fun hc => ?_)
        · skip
          cases hc
        · skip
          refine wp_skip ?_
          refine n_then ?_
          refine c_seq ?_
          refine c_seq ?_
          refine wp_reg (by decide +kernel) ?_
          refine l_v (v_move (t := .int _ _) rfl) ?_
          refine l_v (v_lss rfl rfl) ?_
          refine l_nil ?_
          refine n_then ?_
          refine c_cond rfl rfl (fun hc2 => ?_) (fun hc2 => ?_)
          · skip
            have := dtrue hc2; omega
          · skip
            refine wp_skip ?_
            refine n_then ?_
            refine c_seq ?_
            refine wp_reg (by decide +kernel) ?_
            refine l_v (v_move (t := .pointer _) rfl) ?_
            refine l_v (v_nilCheck rfl) ?_
            refine l_v (v_fieldAddr (off := 0) (ft := 22) (by kernel_rfl) rfl) ?_
            refine l_v (v_load (by kernel_rfl) rfl ((hb0.ext e1).pv 0 _ rfl)) ?_
            refine l_v (v_build (pl := [(0, 1)]) (z := .agg #[.slice none 0 0]) (zl := [.slice none 0 0]) (by kernel_rfl) (by unfold kZero; kernel_rfl) rfl rfl (cells := [_]) rfl) ?_
            refine l_to (to_box (show _ = (Value.agg _) from rfl) ?_)
            rintro b2 w2 rfl hb2 e2 z2
            have zs_e2 := e2.size
            have e12 := e1.trans e2
            refine l_v (v_assign (t := .pointer _) rfl) ?_
            refine l_nil ?_
            refine n_then ?_
            refine c_seq ?_
            refine wp_reg (by decide +kernel) ?_
            refine l_v (v_move (t := .pointer _) rfl) ?_
            refine l_to (to_f1 (by kernel_rfl) (show _ = (Value.pointer _) from rfl) (CallsR.mono (rNumber_c (b := w1.heap.size) (l := l) (F := F) ⟨a, c, hb2, hv.ext e12⟩ (fun h => by have := hF _ h; omega)) ?_))
            rintro r w3 ⟨hr3, h3, k3⟩
            have zs_k3 := k3.size
            rw [numV, hd] at hr3
            simp only [] at hr3
            rw [← hz] at hr3
            subst hr3
            have e3 : Ext w w3 := e12.step k3 fun i hi h => by omega
            have hrest : rest l = l' := by rw [rest, hd]
            rw [hrest] at h3
            refine l_v (v_move (t := .tuple _) rfl) ?_
            refine l_v (v_extract (t := .int _ _) rfl rfl) ?_
            refine l_v (v_extract (t := .int _ _) rfl rfl) ?_
            refine l_v (v_assign (t := .int _ _) rfl) ?_
            refine l_v (v_assign (t := .int _ _) rfl) ?_
            refine l_nil ?_
            refine n_then ?_
            refine c_seq ?_
            refine c_seq ?_
            refine wp_reg (by decide +kernel) ?_
            refine l_v (v_move (t := .int _ _) rfl) ?_
            refine l_v (v_eql rfl rfl) ?_
            refine l_v (v_move (t := .bool _) rfl) ?_
            refine l_g1 rfl rfl (fun hG => v_move (t := .int _ _) rfl) ?_
            refine l_g1 rfl rfl (fun hG => v_move (t := .int _ _) rfl) ?_
            refine l_g1 rfl rfl (fun hG => v_conv (ds := .int .i64) (by kernel_rfl) (by kernel_rfl) (gd hG rfl) (by first | exact wr_u64 (by omega) (by omega) | rfl)) ?_
            refine l_g1 rfl rfl (fun hG => v_gtr (gd hG rfl) (gd hG rfl)) ?_
            refine l_v (v_and rfl rfl) ?_
            refine l_nil ?_
            refine n_then ?_
            refine c_cond rfl rfl (fun hc3 => ?_) (fun hc3 => ?_)
            · skip
              simp at hc3; omega
            · skip
              refine wp_skip ?_
              refine n_then ?_
              refine c_seq ?_
              refine c_seq ?_
              refine wp_reg (by decide +kernel) ?_
              refine l_v (v_move (t := .int _ _) rfl) ?_
              refine l_v (v_eql rfl rfl) ?_
              refine l_nil ?_
              refine n_then ?_
              refine c_cond rfl rfl (fun hc4 => ?_) (fun hc4 => ?_)
              · skip
                refine wp_reg (by decide +kernel) ?_
                refine l_v (v_move (t := .func _ _ _) rfl) ?_
                refine l_v (v_move (t := .pointer _) rfl) ?_
                refine l_v (v_move (t := .int _ _) rfl) ?_
                refine l_v (v_conv (ds := .int .u64) (by kernel_rfl) (by kernel_rfl) rfl (by first | exact wr_i64 (by omega) (by omega) | rfl)) ?_
                refine l_to (to_call2 hb rfl (show _ = (Value.pointer _) from rfl) (show _ = (Value.int _ _) from rfl) (CallsR.mono (hread w3 _ l' n e3 (by omega) h3 hll hnm) ?_))
                rintro r4 w4 ⟨hr4, k4⟩
                have zs_k4 := k4.size
                rw [hρ] at hr4
                obtain ⟨her, va, vn, vc, hr4⟩ := hr4
                subst hr4
                have e4 : Ext w w4 := e3.step k4 fun i hi h => by omega
                refine l_v (v_move (t := .tuple _) rfl) ?_
                refine l_v (v_extract (t := .slice _ _ _) rfl rfl) ?_
                refine l_v (v_extract (t := .int _ _) rfl rfl) ?_
                refine l_v (v_assign (t := .slice _ _ _) rfl) ?_
                refine l_v (v_assign (t := .int _ _) rfl) ?_
                refine l_nil ?_
                refine n_then ?_
                refine c_seq ?_
                refine c_seq ?_
                refine wp_reg (by decide +kernel) ?_
                refine l_v (v_move (t := .int _ _) rfl) ?_
                refine l_v (v_neq rfl rfl) ?_
                refine l_nil ?_
                refine n_then ?_
                refine c_cond rfl rfl (fun hc5 => ?_) (fun hc5 => ?_)
                · skip
                  refine c_seq ?_
                  refine wp_reg (by decide +kernel) ?_
                  refine l_v (v_move (t := .slice _ _ _) rfl) ?_
                  refine l_v (v_move (t := .int _ _) rfl) ?_
                  refine l_v (v_assign (t := .slice _ _ _) rfl) ?_
                  refine l_v (v_assign (t := .int _ _) rfl) ?_
                  refine l_nil ?_
                  refine n_then ?_
                  refine wp_ret ?_
                  refine r_then ?_
                  refine ret2 rfl (by decide) (by decide) ?_
                  refine ⟨?_, e4.keep⟩
                  rw [htr, hρ]
                  exact ⟨her, rfl, ⟨a, c, hb0.ext e4, hv.ext e4⟩⟩
                · skip
                  simp at hc5; omega
              · skip
                have := dfalse hc4; omega
      | ok xl =>
        obtain ⟨x, l2⟩ := xl
        refine enter 56 Try.func55 rfl rfl (by simp) ?_
        refine c_seq ?_
        refine wp_reg (by decide +kernel) ?_
        refine l_v (v_assign rfl) ?_
        refine l_v (v_assign rfl) ?_
        refine l_nil ?_
        refine n_then ?_
        refine c_seq ?_
        refine wp_reg (by decide +kernel) ?_
        refine l_v (v_assign rfl) ?_
        refine l_nil ?_
        refine n_then ?_
        refine c_seq ?_
        refine c_seq ?_
        refine wp_reg (by decide +kernel) ?_
        refine l_v (v_move (t := .pointer _) rfl) ?_
        refine l_to (to_f1 (by kernel_rfl) (show _ = (Value.pointer _) from rfl) (CallsR.mono (closed_c hb0) ?_))
        rintro _ w1 ⟨rfl, e1⟩
        have zs_e1 := e1.size
        refine l_nil ?_
        refine n_then ?_
        refine c_cond rfl rfl (fun hc => ?_) (fun hc => ?_)
        · skip
          cases hc
        · skip
          refine wp_skip ?_
          refine n_then ?_
          refine c_seq ?_
          refine c_seq ?_
          refine wp_reg (by decide +kernel) ?_
          refine l_v (v_move (t := .int _ _) rfl) ?_
          refine l_v (v_lss rfl rfl) ?_
          refine l_nil ?_
          refine n_then ?_
          refine c_cond rfl rfl (fun hc2 => ?_) (fun hc2 => ?_)
          · skip
            have := dtrue hc2; omega
          · skip
            refine wp_skip ?_
            refine n_then ?_
            refine c_seq ?_
            refine wp_reg (by decide +kernel) ?_
            refine l_v (v_move (t := .pointer _) rfl) ?_
            refine l_v (v_nilCheck rfl) ?_
            refine l_v (v_fieldAddr (off := 0) (ft := 22) (by kernel_rfl) rfl) ?_
            refine l_v (v_load (by kernel_rfl) rfl ((hb0.ext e1).pv 0 _ rfl)) ?_
            refine l_v (v_build (pl := [(0, 1)]) (z := .agg #[.slice none 0 0]) (zl := [.slice none 0 0]) (by kernel_rfl) (by unfold kZero; kernel_rfl) rfl rfl (cells := [_]) rfl) ?_
            refine l_to (to_box (show _ = (Value.agg _) from rfl) ?_)
            rintro b2 w2 rfl hb2 e2 z2
            have zs_e2 := e2.size
            have e12 := e1.trans e2
            refine l_v (v_assign (t := .pointer _) rfl) ?_
            refine l_nil ?_
            refine n_then ?_
            refine c_seq ?_
            refine wp_reg (by decide +kernel) ?_
            refine l_v (v_move (t := .pointer _) rfl) ?_
            refine l_to (to_f1 (by kernel_rfl) (show _ = (Value.pointer _) from rfl) (CallsR.mono (rNumber_c (b := w1.heap.size) (l := l) (F := F) ⟨a, c, hb2, hv.ext e12⟩ (fun h => by have := hF _ h; omega)) ?_))
            rintro r w3 ⟨hr3, h3, k3⟩
            have zs_k3 := k3.size
            rw [numV, hd] at hr3
            simp only [] at hr3
            rw [← hz] at hr3
            subst hr3
            have e3 : Ext w w3 := e12.step k3 fun i hi h => by omega
            have hrest : rest l = l' := by rw [rest, hd]
            rw [hrest] at h3
            refine l_v (v_move (t := .tuple _) rfl) ?_
            refine l_v (v_extract (t := .int _ _) rfl rfl) ?_
            refine l_v (v_extract (t := .int _ _) rfl rfl) ?_
            refine l_v (v_assign (t := .int _ _) rfl) ?_
            refine l_v (v_assign (t := .int _ _) rfl) ?_
            refine l_nil ?_
            refine n_then ?_
            refine c_seq ?_
            refine c_seq ?_
            refine wp_reg (by decide +kernel) ?_
            refine l_v (v_move (t := .int _ _) rfl) ?_
            refine l_v (v_eql rfl rfl) ?_
            refine l_v (v_move (t := .bool _) rfl) ?_
            refine l_g1 rfl rfl (fun hG => v_move (t := .int _ _) rfl) ?_
            refine l_g1 rfl rfl (fun hG => v_move (t := .int _ _) rfl) ?_
            refine l_g1 rfl rfl (fun hG => v_conv (ds := .int .i64) (by kernel_rfl) (by kernel_rfl) (gd hG rfl) (by first | exact wr_u64 (by omega) (by omega) | rfl)) ?_
            refine l_g1 rfl rfl (fun hG => v_gtr (gd hG rfl) (gd hG rfl)) ?_
            refine l_v (v_and rfl rfl) ?_
            refine l_nil ?_
            refine n_then ?_
            refine c_cond rfl rfl (fun hc3 => ?_) (fun hc3 => ?_)
            · skip
              simp at hc3; omega
            · skip
              refine wp_skip ?_
              refine n_then ?_
              refine c_seq ?_
              refine c_seq ?_
              refine wp_reg (by decide +kernel) ?_
              refine l_v (v_move (t := .int _ _) rfl) ?_
              refine l_v (v_eql rfl rfl) ?_
              refine l_nil ?_
              refine n_then ?_
              refine c_cond rfl rfl (fun hc4 => ?_) (fun hc4 => ?_)
              · skip
                refine wp_reg (by decide +kernel) ?_
                refine l_v (v_move (t := .func _ _ _) rfl) ?_
                refine l_v (v_move (t := .pointer _) rfl) ?_
                refine l_v (v_move (t := .int _ _) rfl) ?_
                refine l_v (v_conv (ds := .int .u64) (by kernel_rfl) (by kernel_rfl) rfl (by first | exact wr_i64 (by omega) (by omega) | rfl)) ?_
                refine l_to (to_call2 hb rfl (show _ = (Value.pointer _) from rfl) (show _ = (Value.int _ _) from rfl) (CallsR.mono (hread w3 _ l' n e3 (by omega) h3 hll hnm) ?_))
                rintro r4 w4 ⟨hr4, k4⟩
                have zs_k4 := k4.size
                rw [hρ] at hr4
                obtain ⟨a4, c4, hr4, hx4, a5, c5, hb5, hv5⟩ := hr4
                subst hr4
                have e4 : Ext w w4 := e3.step k4 fun i hi h => by omega
                refine l_v (v_move (t := .tuple _) rfl) ?_
                refine l_v (v_extract (t := .slice _ _ _) rfl rfl) ?_
                refine l_v (v_extract (t := .int _ _) rfl rfl) ?_
                refine l_v (v_assign (t := .slice _ _ _) rfl) ?_
                refine l_v (v_assign (t := .int _ _) rfl) ?_
                refine l_nil ?_
                refine n_then ?_
                refine c_seq ?_
                refine c_seq ?_
                refine wp_reg (by decide +kernel) ?_
                refine l_v (v_move (t := .int _ _) rfl) ?_
                refine l_v (v_neq rfl rfl) ?_
                refine l_nil ?_
                refine n_then ?_
                refine c_cond rfl rfl (fun hc5 => ?_) (fun hc5 => ?_)
                · skip
                  simp at hc5
                · skip
                  refine wp_skip ?_
                  refine n_then ?_
                  refine c_seq ?_
                  refine wp_reg (by decide +kernel) ?_
                  refine l_v (v_move (t := .pointer _) rfl) ?_
                  refine l_v (v_move (t := .pointer _) rfl) ?_
                  refine l_v (v_nilCheck rfl) ?_
                  refine l_v (v_loadA (by kernel_rfl) rfl hb5.pv rfl) ?_
                  refine l_v (v_nilCheck rfl) ?_
                  refine l_to (to_storeA (n := 1) rfl rfl (show _ = (Value.agg _) from rfl) (by kernel_rfl) rfl (by simp [slice_one]) (hb0.ext e4) (by simp) ?_)
                  rintro w5 h5 k5 z5
                  have zs_k5 := k5.size
                  refine l_nil ?_
                  refine n_then ?_
                  refine c_seq ?_
                  refine wp_reg (by decide +kernel) ?_
                  refine l_v (v_move (t := .slice _ _ _) rfl) ?_
                  refine l_v (v_assign (t := .slice _ _ _) rfl) ?_
                  refine l_v (v_assign rfl) ?_
                  refine l_nil ?_
                  refine n_then ?_
                  refine wp_ret ?_
                  refine ret2 rfl (by decide) (by decide) ?_
                  refine ⟨?_, e4.keep.trans k5⟩
                  rw [htr, hρ]
                  refine ⟨_, _, rfl, (hx4.base (by omega)).mono (F' := fun k => w.heap.size ≤ k) (fun i _ hi => by omega) |>.keep k5 (fun i hi h => ?_) (fun i _ hi _ h => by omega), a5, c5, h5, hv5.keep k5 fun i _ hi h => hnF (by subst h; exact hi)⟩
                  have := (hx4.own_lt hi).1
                  omega
              · skip
                have := dfalse hc4; omega
    · have htr : tryRd ρ most.toNat l = .error 3 := by rw [tryRd, hd]; simp only []; rw [if_neg (by omega)]
      refine enter 56 Try.func55 rfl rfl (by simp) ?_
      refine c_seq ?_
      refine wp_reg (by decide +kernel) ?_
      refine l_v (v_assign rfl) ?_
      refine l_v (v_assign rfl) ?_
      refine l_nil ?_
      refine n_then ?_
      refine c_seq ?_
      refine wp_reg (by decide +kernel) ?_
      refine l_v (v_assign rfl) ?_
      refine l_nil ?_
      refine n_then ?_
      refine c_seq ?_
      refine c_seq ?_
      refine wp_reg (by decide +kernel) ?_
      refine l_v (v_move (t := .pointer _) rfl) ?_
      refine l_to (to_f1 (by kernel_rfl) (show _ = (Value.pointer _) from rfl) (CallsR.mono (closed_c hb0) ?_))
      rintro _ w1 ⟨rfl, e1⟩
      have zs_e1 := e1.size
      refine l_nil ?_
      refine n_then ?_
      refine c_cond rfl rfl (fun hc => ?_) (fun hc => ?_)
      · skip
        cases hc
      · skip
        refine wp_skip ?_
        refine n_then ?_
        refine c_seq ?_
        refine c_seq ?_
        refine wp_reg (by decide +kernel) ?_
        refine l_v (v_move (t := .int _ _) rfl) ?_
        refine l_v (v_lss rfl rfl) ?_
        refine l_nil ?_
        refine n_then ?_
        refine c_cond rfl rfl (fun hc2 => ?_) (fun hc2 => ?_)
        · skip
          have := dtrue hc2; omega
        · skip
          refine wp_skip ?_
          refine n_then ?_
          refine c_seq ?_
          refine wp_reg (by decide +kernel) ?_
          refine l_v (v_move (t := .pointer _) rfl) ?_
          refine l_v (v_nilCheck rfl) ?_
          refine l_v (v_fieldAddr (off := 0) (ft := 22) (by kernel_rfl) rfl) ?_
          refine l_v (v_load (by kernel_rfl) rfl ((hb0.ext e1).pv 0 _ rfl)) ?_
          refine l_v (v_build (pl := [(0, 1)]) (z := .agg #[.slice none 0 0]) (zl := [.slice none 0 0]) (by kernel_rfl) (by unfold kZero; kernel_rfl) rfl rfl (cells := [_]) rfl) ?_
          refine l_to (to_box (show _ = (Value.agg _) from rfl) ?_)
          rintro b2 w2 rfl hb2 e2 z2
          have zs_e2 := e2.size
          have e12 := e1.trans e2
          refine l_v (v_assign (t := .pointer _) rfl) ?_
          refine l_nil ?_
          refine n_then ?_
          refine c_seq ?_
          refine wp_reg (by decide +kernel) ?_
          refine l_v (v_move (t := .pointer _) rfl) ?_
          refine l_to (to_f1 (by kernel_rfl) (show _ = (Value.pointer _) from rfl) (CallsR.mono (rNumber_c (b := w1.heap.size) (l := l) (F := F) ⟨a, c, hb2, hv.ext e12⟩ (fun h => by have := hF _ h; omega)) ?_))
          rintro r w3 ⟨hr3, h3, k3⟩
          have zs_k3 := k3.size
          rw [numV, hd] at hr3
          simp only [] at hr3
          rw [← hz] at hr3
          subst hr3
          have e3 : Ext w w3 := e12.step k3 fun i hi h => by omega
          refine l_v (v_move (t := .tuple _) rfl) ?_
          refine l_v (v_extract (t := .int _ _) rfl rfl) ?_
          refine l_v (v_extract (t := .int _ _) rfl rfl) ?_
          refine l_v (v_assign (t := .int _ _) rfl) ?_
          refine l_v (v_assign (t := .int _ _) rfl) ?_
          refine l_nil ?_
          refine n_then ?_
          refine c_seq ?_
          refine c_seq ?_
          refine wp_reg (by decide +kernel) ?_
          refine l_v (v_move (t := .int _ _) rfl) ?_
          refine l_v (v_eql rfl rfl) ?_
          refine l_v (v_move (t := .bool _) rfl) ?_
          refine l_g1 rfl rfl (fun hG => v_move (t := .int _ _) rfl) ?_
          refine l_g1 rfl rfl (fun hG => v_move (t := .int _ _) rfl) ?_
          refine l_g1 rfl rfl (fun hG => v_conv (ds := .int .i64) (by kernel_rfl) (by kernel_rfl) (gd hG rfl) (by first | exact wr_u64 (by omega) (by omega) | rfl)) ?_
          refine l_g1 rfl rfl (fun hG => v_gtr (gd hG rfl) (gd hG rfl)) ?_
          refine l_v (v_and rfl rfl) ?_
          refine l_nil ?_
          refine n_then ?_
          refine c_cond rfl rfl (fun hc3 => ?_) (fun hc3 => ?_)
          · skip
            refine wp_reg (by decide +kernel) ?_
            refine l_v (v_assign rfl) ?_
            refine l_nil ?_
            refine n_then ?_
            refine c_seq ?_
            refine c_seq ?_
            refine wp_reg (by decide +kernel) ?_
            refine l_v (v_move (t := .int _ _) rfl) ?_
            refine l_v (v_eql rfl rfl) ?_
            refine l_nil ?_
            refine n_then ?_
            refine c_cond rfl rfl (fun hc4 => ?_) (fun hc4 => ?_)
            · skip
              have := dtrue hc4; omega
            · skip
              refine wp_skip ?_
              refine n_then ?_
              refine c_seq ?_
              refine c_seq ?_
              refine wp_reg (by decide +kernel) ?_
              refine l_v (v_move (t := .int _ _) rfl) ?_
              refine l_v (v_neq rfl rfl) ?_
              refine l_nil ?_
              refine n_then ?_
              refine c_cond rfl rfl (fun hc5 => ?_) (fun hc5 => ?_)
              · skip
                refine c_seq ?_
                refine wp_reg (by decide +kernel) ?_
                refine l_v (v_move (t := .slice _ _ _) rfl) ?_
                refine l_v (v_move (t := .int _ _) rfl) ?_
                refine l_v (v_assign (t := .slice _ _ _) rfl) ?_
                refine l_v (v_assign (t := .int _ _) rfl) ?_
                refine l_nil ?_
                refine n_then ?_
                refine wp_ret ?_
                refine r_then ?_
                refine ret2 rfl (by decide) (by decide) ?_
                refine ⟨?_, e3.keep⟩
                rw [htr]
                exact ⟨by omega, rfl, ⟨a, c, hb0.ext e3, hv.ext e3⟩⟩
              · skip
                simp at hc5
          · skip
            simp at hc3; omega

end Go.Proofs.Ythnpnniiejcnbaa
