/- A part of the proof: steps and lemmas for the walks through the given program. -/
import Derived.Test.YtogafjlbpodgjaaGreatC15
import Derived.Test.YtogafjlbpodgjaaGreatCz
import Derived.Test.YtogafjlbpodgjaaGreatCy
namespace Go.Proofs.YtogafjlbpodgjaaGreat
open Go.Vc
set_option linter.unusedVariables false
set_option linter.unusedSimpArgs false
set_option maxRecDepth 100000

theorem anAsk_c {w : World} {b : Nat} {F : Nat → Prop} {l : List UInt8} {a : AkV} {r : List UInt8} (HR : Rd nRd w b F l) (hF : ∀ k, F k → k < b) (hl : l.length ≤ 1000000) (h : rdAk l = some (a, r)) :
    CallsR Tryz.prog 36 #[.pointer (some ⟨b, 0, none⟩)] w (fun o w' => AgV tAkF w' (fun i => w.heap.size ≤ i) o a ∧ Rd nRd w' b F r ∧ Keep (fun k => k = b) w w') :=
  (anAsk_u HR hF hl).r (fun v w' ⟨a', r', h', h1⟩ => by rw [h] at h'; cases h'; exact h1) (fun ch w' h' => by rw [h] at h'; cases h'.1)
theorem anAsk_d {w : World} {b : Nat} {F : Nat → Prop} {l : List UInt8} (HR : Rd nRd w b F l) (hF : ∀ k, F k → k < b) (hl : l.length ≤ 1000000) (h : rdAk l = none) :
    CallsP Tryz.prog 36 #[.pointer (some ⟨b, 0, none⟩)] w (fun ch w' => ch = nonE ∧ Keep (fun k => k = b) w w') :=
  (anAsk_u HR hF hl).p (fun v w' ⟨a', r', h', h1⟩ => by rw [h] at h'; cases h') (fun ch w' h' => h'.2)
theorem aMove_c {w : World} {b : Nat} {F : Nat → Prop} {l : List UInt8} {a : MvV} {r : List UInt8} (HR : Rd nRd w b F l) (hF : ∀ k, F k → k < b) (hl : l.length ≤ 1000000) (h : rdMv l = some (a, r)) :
    CallsR Tryz.prog 37 #[.pointer (some ⟨b, 0, none⟩)] w (fun o w' => AgV tMv w' (fun i => w.heap.size ≤ i) o a ∧ Rd nRd w' b F r ∧ Keep (fun k => k = b) w w') :=
  (aMove_u HR hF hl).r (fun v w' ⟨a', r', h', h1⟩ => by rw [h] at h'; cases h'; exact h1) (fun ch w' h' => by rw [h] at h'; cases h'.1)
theorem aMove_d {w : World} {b : Nat} {F : Nat → Prop} {l : List UInt8} (HR : Rd nRd w b F l) (hF : ∀ k, F k → k < b) (hl : l.length ≤ 1000000) (h : rdMv l = none) :
    CallsP Tryz.prog 37 #[.pointer (some ⟨b, 0, none⟩)] w (fun ch w' => ch = nonE ∧ Keep (fun k => k = b) w w') :=
  (aMove_u HR hF hl).p (fun v w' ⟨a', r', h', h1⟩ => by rw [h] at h'; cases h') (fun ch w' h' => h'.2)
theorem rdMv_ok {l : List UInt8} {a : MvV} {r : List UInt8} (h : rdMv l = some (a, r)) : l = mvW a ++ r ∧ r.length ≤ l.length ∧ I64' a.1 := by
  rw [rdMv] at h
  rcases h0 : rdSm 2147483647 l with _ | ⟨n, l1⟩
  · rw [h0] at h; cases h
  rw [h0] at h; simp only [] at h
  rcases h1 : rdRw 24 l1 with _ | ⟨f, l2⟩
  · rw [h1] at h; cases h
  rw [h1] at h; simp only [] at h
  rcases h2 : rdFlag l2 with _ | ⟨e, l3⟩
  · rw [h2] at h; cases h
  rw [h2] at h; simp only [] at h
  rcases h3 : rdRw 24 l3 with _ | ⟨t, l4⟩
  · rw [h3] at h; cases h
  rw [h3] at h; simp only [] at h
  rcases h4 : rdSm 5 l4 with _ | ⟨og, l5⟩
  · rw [h4] at h; cases h
  rw [h4] at h; simp only [] at h
  rcases h5 : rdSm 5 l5 with _ | ⟨g, l6⟩
  · rw [h5] at h; cases h
  rw [h5] at h; cases h
  have b0 := rdSm_ok h0; have b1 := rdRw_ok h1; have b2 := rdFlag_ok h2; have b3 := rdRw_ok h3; have b4 := rdSm_ok h4; have b5 := rdSm_ok h5
  refine ⟨?_, by omega, by dsimp only; omega, by dsimp only; omega⟩
  rw [b0.1, b1.1, b2.1, b3.1, b4.1, b5.1]; simp [mvW]
theorem rdAk_ok {l : List UInt8} {a : AkV} {r : List UInt8} (h : rdAk l = some (a, r)) : l = akW a ++ r ∧ r.length ≤ l.length := by
  rw [rdAk] at h
  rcases h0 : rdSm 5 l with _ | ⟨k, l1⟩
  · rw [h0] at h; cases h
  rw [h0] at h; simp only [] at h
  rcases h1 : rdRw 24 l1 with _ | ⟨key, l2⟩
  · rw [h1] at h; cases h
  rw [h1] at h; simp only [] at h
  rcases h2 : (if (nmT k).2.1 = true then rdRw 24 l2 else some ([], l2)) with _ | ⟨to, l3⟩
  · rw [h2] at h; cases h
  rw [h2] at h; simp only [] at h
  rcases h3 : (if (nmT k).2.2.1 = true then rdRw 40 l3 else some ([], l3)) with _ | ⟨val, l4⟩
  · rw [h3] at h; cases h
  rw [h3] at h; simp only [] at h
  rcases h4 : (if (nmT k).2.2.2.1 = true then rdRw 40 l4 else some ([], l4)) with _ | ⟨was, l5⟩
  · rw [h4] at h; cases h
  rw [h4] at h; simp only [] at h
  rcases h5 : (if (nmT k).2.2.2.1 = true then rdFlag l5 else some (false, l5)) with _ | ⟨no, l6⟩
  · rw [h5] at h; cases h
  rw [h5] at h; simp only [] at h
  rcases h6 : (if (nmT k).2.2.2.2 = true then rdSm 32 l6 else some (0, l6)) with _ | ⟨most, l7⟩
  · rw [h6] at h; cases h
  rw [h6] at h; cases h
  have b0 := rdSm_ok h0; have b1 := rdRw_ok h1
  have q2 : l2 = optW (nmT k).2.1 (wBytes to) ++ l3 ∧ l3.length ≤ l2.length := by
    unfold optW; split at h2
    · next hc => rw [if_pos hc]; exact ⟨(rdRw_ok h2).1, (rdRw_ok h2).2.2⟩
    · next hc => rw [if_neg hc]; cases h2; exact ⟨rfl, Nat.le_refl _⟩
  have q3 : l3 = optW (nmT k).2.2.1 (wBytes val) ++ l4 ∧ l4.length ≤ l3.length := by
    unfold optW; split at h3
    · next hc => rw [if_pos hc]; exact ⟨(rdRw_ok h3).1, (rdRw_ok h3).2.2⟩
    · next hc => rw [if_neg hc]; cases h3; exact ⟨rfl, Nat.le_refl _⟩
  have q4 : l4 = optW (nmT k).2.2.2.1 (wBytes was ++ wFlag no) ++ l6 ∧ l6.length ≤ l4.length := by
    unfold optW; split at h4
    · next hc =>
      rw [if_pos hc] at h5 ⊢
      have c1 := rdRw_ok h4; have c2 := rdFlag_ok h5
      refine ⟨?_, by omega⟩
      rw [c1.1, c2.1]; simp
    · next hc => rw [if_neg hc] at h5 ⊢; cases h4; cases h5; exact ⟨rfl, Nat.le_refl _⟩
  have q6 : l6 = optW (nmT k).2.2.2.2 (wNum most) ++ r ∧ r.length ≤ l6.length := by
    unfold optW; split at h6
    · next hc => rw [if_pos hc]; exact ⟨(rdSm_ok h6).1, (rdSm_ok h6).2.2⟩
    · next hc => rw [if_neg hc]; cases h6; exact ⟨rfl, Nat.le_refl _⟩
  refine ⟨?_, by omega⟩
  rw [b0.1, b1.1, q2.1, q3.1, q4.1, q6.1]; simp [akW]
/-- the command that bytes begin with; L: how many bytes there are in all -/
def rdCm (L : Nat) (l : List UInt8) : Option (CmV × List UInt8) := match rdSm 10 l with
  | none => none
  | some (k, l1) =>
    if k = 2 then (match rdSm 4 l1 with
      | none => none
      | some (c, l2) => match rdSm 2147483647 l2 with
        | none => none
        | some (n, l3) => match rdAk l3 with
          | none => none
          | some (a, l4) => some ((2, ((c : Int), (n : Int), a), mv0, [], [], [], 0), l4))
    else if k = 3 ∨ k = 5 ∨ k = 9 ∨ k = 10 then (match rdMv l1 with
      | none => none
      | some (m, l2) => some (((k : Int), rq0, m, [], [], [], 0), l2))
    else if k = 4 then (match rdMv l1 with
      | none => none
      | some (m, l2) => match rdRw L l2 with
        | none => none
        | some (x, l3) => match rdLs x with
          | none => none
          | some en => match rdRw 524288 l3 with
            | none => none
            | some (an, l4) => some ((4, rq0, m, en, an, [], 0), l4))
    else if k = 6 ∨ k = 7 then (match rdRw 24 l1 with
      | none => none
      | some (key, l2) => some (((k : Int), rq0, mv0, [], [], key, 0), l2))
    else if k = 8 then (match rdRw 24 l1 with
      | none => none
      | some (key, l2) => match rdSm 5 l2 with
        | none => none
        | some (g, l3) => some ((8, rq0, mv0, [], [], key, (g : Int)), l3))
    else some (((k : Int), rq0, mv0, [], [], [], 0), l1)
/-- the command that bytes are, or none -/
def rdAll (l : List UInt8) : Option CmV := match rdCm l.length l with
  | some (c, []) => if mayCm c = true then some c else none
  | _ => none
end Go.Proofs.YtogafjlbpodgjaaGreat
