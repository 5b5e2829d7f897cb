/- A part of the proof: steps and lemmas for the walks through the given program. -/
import Derived.Test.YtogafjlbpodgjaaGreatC15
import Derived.Test.YtogafjlbpodgjaaGreatCz
import Derived.Test.YtogafjlbpodgjaaGreatCy
namespace Go.Proofs.YtogafjlbpodgjaaGreat
open Go.Vc
set_option linter.unusedVariables false
set_option linter.unusedSimpArgs false
set_option maxRecDepth 100000

theorem anAsk_c {w : World} {b : Nat} {F : Nat → Prop} {l : List UInt8} {a : AkV} {r : List UInt8} (HR : Rd nRd w b F l) (hF : ∀ k, F k → k < b) (hl : l.length ≤ 1000000) (h : rdAk l = some (a, r)) :
    CallsR Tryz.prog 36 #[.pointer (some ⟨b, 0, none⟩)] w (fun o w' => AgV tAkF w' (fun i => w.heap.size ≤ i) o a ∧ Rd nRd w' b F r ∧ Keep (fun k => k = b) w w') :=
  (anAsk_u HR hF hl).r (fun v w' ⟨a', r', h', h1⟩ => by rw [h] at h'; cases h'; exact h1) (fun ch w' h' => by rw [h] at h'; cases h'.1)
theorem anAsk_d {w : World} {b : Nat} {F : Nat → Prop} {l : List UInt8} (HR : Rd nRd w b F l) (hF : ∀ k, F k → k < b) (hl : l.length ≤ 1000000) (h : rdAk l = none) :
    CallsP Tryz.prog 36 #[.pointer (some ⟨b, 0, none⟩)] w (fun ch w' => ch = nonE ∧ Keep (fun k => k = b) w w') :=
  (anAsk_u HR hF hl).p (fun v w' ⟨a', r', h', h1⟩ => by rw [h] at h'; cases h') (fun ch w' h' => h'.2)
theorem aMove_c {w : World} {b : Nat} {F : Nat → Prop} {l : List UInt8} {a : MvV} {r : List UInt8} (HR : Rd nRd w b F l) (hF : ∀ k, F k → k < b) (hl : l.length ≤ 1000000) (h : rdMv l = some (a, r)) :
    CallsR Tryz.prog 37 #[.pointer (some ⟨b, 0, none⟩)] w (fun o w' => AgV tMv w' (fun i => w.heap.size ≤ i) o a ∧ Rd nRd w' b F r ∧ Keep (fun k => k = b) w w') :=
  (aMove_u HR hF hl).r (fun v w' ⟨a', r', h', h1⟩ => by rw [h] at h'; cases h'; exact h1) (fun ch w' h' => by rw [h] at h'; cases h'.1)
theorem aMove_d {w : World} {b : Nat} {F : Nat → Prop} {l : List UInt8} (HR : Rd nRd w b F l) (hF : ∀ k, F k → k < b) (hl : l.length ≤ 1000000) (h : rdMv l = none) :
    CallsP Tryz.prog 37 #[.pointer (some ⟨b, 0, none⟩)] w (fun ch w' => ch = nonE ∧ Keep (fun k => k = b) w w') :=
  (aMove_u HR hF hl).p (fun v w' ⟨a', r', h', h1⟩ => by rw [h] at h'; cases h') (fun ch w' h' => h'.2)
theorem rdMv_ok {l : List UInt8} {a : MvV} {r : List UInt8} (h : rdMv l = some (a, r)) : l = mvW a ++ r ∧ r.length ≤ l.length ∧ I64' a.1 := by
  rw [rdMv] at h
  rcases h0 : rdSm 2147483647 l with _ | ⟨n, l1⟩
  · rw [h0] at h; cases h
  rw [h0] at h; simp only [] at h
  rcases h1 : rdRw 24 l1 with _ | ⟨f, l2⟩
  · rw [h1] at h; cases h
  rw [h1] at h; simp only [] at h
  rcases h2 : rdFlag l2 with _ | ⟨e, l3⟩
  · rw [h2] at h; cases h
  rw [h2] at h; simp only [] at h
  rcases h3 : rdRw 24 l3 with _ | ⟨t, l4⟩
  · rw [h3] at h; cases h
  rw [h3] at h; simp only [] at h
  rcases h4 : rdSm 5 l4 with _ | ⟨og, l5⟩
  · rw [h4] at h; cases h
  rw [h4] at h; simp only [] at h
  rcases h5 : rdSm 5 l5 with _ | ⟨g, l6⟩
  · rw [h5] at h; cases h
  rw [h5] at h; cases h
  have b0 := rdSm_ok h0; have b1 := rdRw_ok h1; have b2 := rdFlag_ok h2; have b3 := rdRw_ok h3; have b4 := rdSm_ok h4; have b5 := rdSm_ok h5
  refine ⟨?_, by omega, by dsimp only; omega, by dsimp only; omega⟩
  rw [b0.1, b1.1, b2.1, b3.1, b4.1, b5.1]; simp [mvW]
theorem rdMv_back {a : MvV} {r : List UInt8} (h : mayMv a = true) : rdMv (mvW a ++ r) = some (a, r) := by
  obtain ⟨n, f, t, e, og, g⟩ := a
  obtain ⟨g1, g2, g3, g4, g5, g6, g7, g8⟩ := mayMv_b h
  obtain ⟨n, rfl⟩ := Int.eq_ofNat_of_zero_le (show 0 ≤ n by omega)
  obtain ⟨og, rfl⟩ := Int.eq_ofNat_of_zero_le (show 0 ≤ og by omega)
  obtain ⟨g, rfl⟩ := Int.eq_ofNat_of_zero_le (show 0 ≤ g by omega)
  simp only [mvW, List.append_assoc, Int.toNat_natCast]
  rw [rdMv, rdSm_back zo zo]; simp only []
  rw [rdRw_back g3 zq]; simp only []
  rw [rdFlag_back]; simp only []
  rw [rdRw_back g4 zq]; simp only []
  rw [rdSm_back zo zo]; simp only []
  rw [rdSm_back zo zo]
theorem rdAk_ok {l : List UInt8} {a : AkV} {r : List UInt8} (h : rdAk l = some (a, r)) : l = akW a ++ r ∧ r.length ≤ l.length := by
  rw [rdAk] at h
  rcases h0 : rdSm 5 l with _ | ⟨k, l1⟩
  · rw [h0] at h; cases h
  rw [h0] at h; simp only [] at h
  rcases h1 : rdRw 24 l1 with _ | ⟨key, l2⟩
  · rw [h1] at h; cases h
  rw [h1] at h; simp only [] at h
  rcases h2 : (if (nmT k).2.1 = true then rdRw 24 l2 else some ([], l2)) with _ | ⟨to, l3⟩
  · rw [h2] at h; cases h
  rw [h2] at h; simp only [] at h
  rcases h3 : (if (nmT k).2.2.1 = true then rdRw 40 l3 else some ([], l3)) with _ | ⟨val, l4⟩
  · rw [h3] at h; cases h
  rw [h3] at h; simp only [] at h
  rcases h4 : (if (nmT k).2.2.2.1 = true then rdRw 40 l4 else some ([], l4)) with _ | ⟨was, l5⟩
  · rw [h4] at h; cases h
  rw [h4] at h; simp only [] at h
  rcases h5 : (if (nmT k).2.2.2.1 = true then rdFlag l5 else some (false, l5)) with _ | ⟨no, l6⟩
  · rw [h5] at h; cases h
  rw [h5] at h; simp only [] at h
  rcases h6 : (if (nmT k).2.2.2.2 = true then rdSm 32 l6 else some (0, l6)) with _ | ⟨most, l7⟩
  · rw [h6] at h; cases h
  rw [h6] at h; cases h
  have b0 := rdSm_ok h0; have b1 := rdRw_ok h1
  have q2 : l2 = optW (nmT k).2.1 (wBytes to) ++ l3 ∧ l3.length ≤ l2.length := by
    unfold optW; split at h2
    · next hc => rw [if_pos hc]; exact ⟨(rdRw_ok h2).1, (rdRw_ok h2).2.2⟩
    · next hc => rw [if_neg hc]; cases h2; exact ⟨rfl, Nat.le_refl _⟩
  have q3 : l3 = optW (nmT k).2.2.1 (wBytes val) ++ l4 ∧ l4.length ≤ l3.length := by
    unfold optW; split at h3
    · next hc => rw [if_pos hc]; exact ⟨(rdRw_ok h3).1, (rdRw_ok h3).2.2⟩
    · next hc => rw [if_neg hc]; cases h3; exact ⟨rfl, Nat.le_refl _⟩
  have q4 : l4 = optW (nmT k).2.2.2.1 (wBytes was ++ wFlag no) ++ l6 ∧ l6.length ≤ l4.length := by
    unfold optW; split at h4
    · next hc =>
      rw [if_pos hc] at h5 ⊢
      have c1 := rdRw_ok h4; have c2 := rdFlag_ok h5
      refine ⟨?_, by omega⟩
      rw [c1.1, c2.1]; simp
    · next hc => rw [if_neg hc] at h5 ⊢; cases h4; cases h5; exact ⟨rfl, Nat.le_refl _⟩
  have q6 : l6 = optW (nmT k).2.2.2.2 (wNum most) ++ r ∧ r.length ≤ l6.length := by
    unfold optW; split at h6
    · next hc => rw [if_pos hc]; exact ⟨(rdSm_ok h6).1, (rdSm_ok h6).2.2⟩
    · next hc => rw [if_neg hc]; cases h6; exact ⟨rfl, Nat.le_refl _⟩
  refine ⟨?_, by omega⟩
  rw [b0.1, b1.1, q2.1, q3.1, q4.1, q6.1]; simp [akW]
theorem rdAk_back {a : AkV} {r : List UInt8} (h : mayAk a = true) : rdAk (akW a ++ r) = some (a, r) := by
  obtain ⟨k, key, to, val, was, no, most⟩ := a
  obtain ⟨g1, g2, g3, g4, g5, g6, g7, g8⟩ := mayAk_b h
  obtain ⟨k, rfl⟩ := Int.eq_ofNat_of_zero_le (show 0 ≤ k by omega)
  obtain ⟨most, rfl⟩ := Int.eq_ofNat_of_zero_le (show 0 ≤ most by omega)
  have le : ∀ (l : List UInt8), l.isEmpty = decide (l.length = 0) := fun l => by cases l <;> simp
  have hz : ((nmT k).2.1 = false → to = []) ∧ ((nmT k).2.2.1 = false → val = []) ∧ ((nmT k).2.2.2.1 = false → was = [] ∧ no = false) ∧ ((nmT k).2.2.2.2 = false → most = 0) := by
    have hl : ∀ {l : List UInt8}, l.length = 0 → l = [] := fun {l} h => by cases l <;> simp_all
    have h1 : k = 1 ∨ k = 2 ∨ k = 3 ∨ k = 4 ∨ k = 5 := by omega
    rcases h1 with rfl | rfl | rfl | rfl | rfl <;> simp [mayAk, le, keyB] at h <;> refine ⟨?_, ?_, ?_, ?_⟩ <;> intro hn <;> simp [nmT] at hn <;> simp_all
  rw [rdAk]
  simp only [akW, List.append_assoc, Int.toNat_natCast]
  rw [rdSm_back zo zo]; simp only []
  rw [rdRw_back g3 zq]; simp only []
  have e2 : (if (nmT k).2.1 = true then rdRw 24 (optW (nmT k).2.1 (wBytes to) ++ (optW (nmT k).2.2.1 (wBytes val) ++ (optW (nmT k).2.2.2.1 (wBytes was ++ wFlag no) ++ (optW (nmT k).2.2.2.2 (wNum most) ++ r)))) else some ([], optW (nmT k).2.1 (wBytes to) ++ (optW (nmT k).2.2.1 (wBytes val) ++ (optW (nmT k).2.2.2.1 (wBytes was ++ wFlag no) ++ (optW (nmT k).2.2.2.2 (wNum most) ++ r))))) = some (to, optW (nmT k).2.2.1 (wBytes val) ++ (optW (nmT k).2.2.2.1 (wBytes was ++ wFlag no) ++ (optW (nmT k).2.2.2.2 (wNum most) ++ r))) := by
    cases hc : (nmT k).2.1 with
    | true => rw [if_pos rfl, optW, if_pos rfl, rdRw_back g4 zq]
    | false => rw [if_neg zq, optW, if_neg zq, hz.1 hc]; rfl
  rw [e2]; simp only []
  have e3 : (if (nmT k).2.2.1 = true then rdRw 40 (optW (nmT k).2.2.1 (wBytes val) ++ (optW (nmT k).2.2.2.1 (wBytes was ++ wFlag no) ++ (optW (nmT k).2.2.2.2 (wNum most) ++ r))) else some ([], optW (nmT k).2.2.1 (wBytes val) ++ (optW (nmT k).2.2.2.1 (wBytes was ++ wFlag no) ++ (optW (nmT k).2.2.2.2 (wNum most) ++ r)))) = some (val, optW (nmT k).2.2.2.1 (wBytes was ++ wFlag no) ++ (optW (nmT k).2.2.2.2 (wNum most) ++ r)) := by
    cases hc : (nmT k).2.2.1 with
    | true => rw [if_pos rfl, optW, if_pos rfl, rdRw_back g5 zq]
    | false => rw [if_neg zq, optW, if_neg zq, hz.2.1 hc]; rfl
  rw [e3]; simp only []
  have e6 : (if (nmT k).2.2.2.2 = true then rdSm 32 (optW (nmT k).2.2.2.2 (wNum most) ++ r) else some (0, optW (nmT k).2.2.2.2 (wNum most) ++ r)) = some (most, r) := by
    cases hc : (nmT k).2.2.2.2 with
    | true => rw [if_pos rfl, optW, if_pos rfl, rdSm_back zo zo]
    | false => rw [if_neg zq, optW, if_neg zq, hz.2.2.2 hc]; rfl
  cases hc : (nmT k).2.2.2.1 with
  | true =>
    simp only [if_true, optW, List.append_assoc]
    rw [rdRw_back g6 zq]; simp only []
    rw [rdFlag_back]; simp only []
    have := e6; simp only [optW] at this
    rw [this]
  | false =>
    obtain ⟨rfl, rfl⟩ := hz.2.2.1 hc
    simp only [Bool.false_eq_true, if_false, optW, List.nil_append]
    have := e6; simp only [optW] at this
    rw [this]
/-- the command that bytes begin with; L: how many bytes there are in all -/
def rdCm (L : Nat) (l : List UInt8) : Option (CmV × List UInt8) := match rdSm 10 l with
  | none => none
  | some (k, l1) =>
    if k = 2 then (match rdSm 4 l1 with
      | none => none
      | some (c, l2) => match rdSm 2147483647 l2 with
        | none => none
        | some (n, l3) => match rdAk l3 with
          | none => none
          | some (a, l4) => some ((2, ((c : Int), (n : Int), a), mv0, [], [], [], 0), l4))
    else if k = 3 ∨ k = 5 ∨ k = 9 ∨ k = 10 then (match rdMv l1 with
      | none => none
      | some (m, l2) => some (((k : Int), rq0, m, [], [], [], 0), l2))
    else if k = 4 then (match rdMv l1 with
      | none => none
      | some (m, l2) => match rdRw L l2 with
        | none => none
        | some (x, l3) => match rdLs x with
          | none => none
          | some en => match rdRw 524288 l3 with
            | none => none
            | some (an, l4) => some ((4, rq0, m, en, an, [], 0), l4))
    else if k = 6 ∨ k = 7 then (match rdRw 24 l1 with
      | none => none
      | some (key, l2) => some (((k : Int), rq0, mv0, [], [], key, 0), l2))
    else if k = 8 then (match rdRw 24 l1 with
      | none => none
      | some (key, l2) => match rdSm 5 l2 with
        | none => none
        | some (g, l3) => some ((8, rq0, mv0, [], [], key, (g : Int)), l3))
    else some (((k : Int), rq0, mv0, [], [], [], 0), l1)
/-- the command that bytes are, or none -/
def rdAll (l : List UInt8) : Option CmV := match rdCm l.length l with
  | some (c, []) => if mayCm c = true then some c else none
  | _ => none
theorem rdRw_back2 {m : Nat} {x r : List UInt8} (h : x.length ≤ m) (hx : x.length < 18446744073709551616) : rdRw m (wBytes x ++ r) = some (x, r) := by
  unfold rdRw
  rw [rdBytes, tryRd, wBytes, List.append_assoc, rdNum_wNum hx]
  simp only [h, if_true]
  rw [rdSome, if_pos (by simp)]
  simp
theorem rdCm_ok {L : Nat} {l : List UInt8} {c : CmV} {r : List UInt8} (h : rdCm L l = some (c, r)) : l = cmW c ++ r := by
  rw [rdCm] at h
  rcases h0 : rdSm 10 l with _ | ⟨k, l1⟩
  · rw [h0] at h; cases h
  rw [h0] at h; simp only [] at h
  have b0 := (rdSm_ok h0).1
  split at h
  · next hk =>
    subst hk
    rcases h1 : rdSm 4 l1 with _ | ⟨rc, l2⟩
    · rw [h1] at h; cases h
    rw [h1] at h; simp only [] at h
    rcases h2 : rdSm 2147483647 l2 with _ | ⟨rn, l3⟩
    · rw [h2] at h; cases h
    rw [h2] at h; simp only [] at h
    rcases h3 : rdAk l3 with _ | ⟨a, l4⟩
    · rw [h3] at h; cases h
    rw [h3] at h; cases h
    rw [b0, (rdSm_ok h1).1, (rdSm_ok h2).1, (rdAk_ok h3).1]; simp [cmW]
  · next hk2 =>
    split at h
    · next hk =>
      rcases h1 : rdMv l1 with _ | ⟨m, l2⟩
      · rw [h1] at h; cases h
      rw [h1] at h; cases h
      rw [b0, (rdMv_ok h1).1]
      rcases hk with rfl | rfl | rfl | rfl <;> simp [cmW]
    · next hk3 =>
      split at h
      · next hk =>
        subst hk
        rcases h1 : rdMv l1 with _ | ⟨m, l2⟩
        · rw [h1] at h; cases h
        rw [h1] at h; simp only [] at h
        rcases h2 : rdRw L l2 with _ | ⟨x, l3⟩
        · rw [h2] at h; cases h
        rw [h2] at h; simp only [] at h
        rcases h3 : rdLs x with _ | en
        · rw [h3] at h; cases h
        rw [h3] at h; simp only [] at h
        rcases h4 : rdRw 524288 l3 with _ | ⟨an, l4⟩
        · rw [h4] at h; cases h
        rw [h4] at h; cases h
        rw [b0, (rdMv_ok h1).1, (rdRw_ok h2).1, (rdRw_ok h4).1, ← (rdLs_ok h3).2.2]; simp [cmW]
      · next hk4 =>
        split at h
        · next hk =>
          rcases h1 : rdRw 24 l1 with _ | ⟨key, l2⟩
          · rw [h1] at h; cases h
          rw [h1] at h; cases h
          rw [b0, (rdRw_ok h1).1]
          rcases hk with rfl | rfl <;> simp [cmW]
        · next hk6 =>
          split at h
          · next hk =>
            subst hk
            rcases h1 : rdRw 24 l1 with _ | ⟨key, l2⟩
            · rw [h1] at h; cases h
            rw [h1] at h; simp only [] at h
            rcases h2 : rdSm 5 l2 with _ | ⟨g, l3⟩
            · rw [h2] at h; cases h
            rw [h2] at h; cases h
            rw [b0, (rdRw_ok h1).1, (rdSm_ok h2).1]; simp [cmW]
          · next hk8 =>
            cases h
            rw [b0]
            have e1 : ¬ ((k : Int) = 2) := by omega
            have e2 : ¬ ((k : Int) = 3 ∨ (k : Int) = 5 ∨ (k : Int) = 9 ∨ (k : Int) = 10) := by omega
            have e3 : ¬ ((k : Int) = 4) := by omega
            have e4 : ¬ ((k : Int) = 6 ∨ (k : Int) = 7) := by omega
            have e5 : ¬ ((k : Int) = 8) := by omega
            simp only [cmW, if_neg e1, if_neg e2, if_neg e3, if_neg e4, if_neg e5, List.append_nil, Int.toNat_natCast]
theorem rdAll_ok {l : List UInt8} {c : CmV} (h : rdAll l = some c) : mayCm c = true ∧ cmW c = l := by
  rw [rdAll] at h
  split at h
  · next c' hq =>
    split at h
    · next hm => cases h; exact ⟨hm, by rw [rdCm_ok hq, List.append_nil]⟩
    · cases h
  · cases h
theorem rdAll_back {c : CmV} (hm : mayCm c = true) : rdAll (cmW c) = some c := by
  have key : rdCm (cmW c).length (cmW c) = some (c, []) := by
    obtain ⟨k, ⟨rc, rn, ra⟩, mv, en, an, key, g⟩ := c
    obtain ⟨m1, m2, mrq, mmv, min, mke, mgr⟩ := mayCm_k hm
    have hz : (nmdC (k, (rc, rn, ra), mv, en, an, key, g)).1 = (k, (rc, rn, ra), mv, en, an, key, g) := by
      have := (Bool.and_eq_true _ _ ▸ hm : _ ∧ _).2
      simpa using this
    generalize hL : (cmW (k, (rc, rn, ra), mv, en, an, key, g)).length = L
    obtain ⟨k, rfl⟩ := Int.eq_ofNat_of_zero_le (show 0 ≤ k by omega)
    have hk : k = 1 ∨ k = 2 ∨ (k = 3 ∨ k = 5 ∨ k = 9 ∨ k = 10) ∨ k = 4 ∨ (k = 6 ∨ k = 7) ∨ k = 8 := by omega
    rcases hk with rfl | rfl | hk | rfl | hk | rfl
    · simp [nmdC] at hz
      obtain ⟨h1, h2, h3, h4, h5, h6⟩ := hz
      rw [← h1, ← h2, h3, h4, h5, ← h6]
      simp only [cmW]
      rw [rdCm, show (if ((1 : Nat) : Int) = 2 then wNum rq0.1.toNat ++ wNum rq0.2.1.toNat ++ akW rq0.2.2 else if ((1 : Nat) : Int) = 3 ∨ ((1 : Nat) : Int) = 5 ∨ ((1 : Nat) : Int) = 9 ∨ ((1 : Nat) : Int) = 10 then mvW mv0 else if ((1 : Nat) : Int) = 4 then mvW mv0 ++ wBytes (wList spI []) ++ wBytes [] else if ((1 : Nat) : Int) = 6 ∨ ((1 : Nat) : Int) = 7 then wBytes [] else if ((1 : Nat) : Int) = 8 then wBytes [] ++ wNum (0 : Int).toNat else []) = [] from rfl, Int.toNat_natCast, rdSm_back zo zo]
      rfl
    · simp [nmdC] at hz
      obtain ⟨h2, h3, h4, h5, h6⟩ := hz
      have hq := mrq rfl
      simp only [mayRq, nmB, Bool.and_eq_true, decide_eq_true_eq] at hq
      obtain ⟨⟨⟨r1, r2⟩, r3, r4⟩, r5⟩ := hq
      obtain ⟨rc, rfl⟩ := Int.eq_ofNat_of_zero_le (show 0 ≤ rc by omega)
      obtain ⟨rn, rfl⟩ := Int.eq_ofNat_of_zero_le (show 0 ≤ rn by omega)
      rw [← h2, h3, h4, h5, ← h6]
      have hw : cmW (((2 : Nat) : Int), ((rc : Int), (rn : Int), ra), mv0, [], [], [], 0) = wNum 2 ++ (wNum rc ++ (wNum rn ++ (akW ra ++ []))) := by simp [cmW]
      rw [hw, rdCm, rdSm_back zo zo]; simp only []
      rw [if_pos zq, rdSm_back zo zo]; simp only []
      rw [rdSm_back zo zo]; simp only []
      rw [rdAk_back r5]
      rfl
    · have hmv := mmv zo
      rcases hk with rfl | rfl | rfl | rfl
      · simp [nmdC] at hz
        obtain ⟨h1, h3, h4, h5, h6⟩ := hz
        rw [← h1, h3, h4, h5, ← h6]
        have hw : cmW (((3 : Nat) : Int), rq0, mv, [], [], [], 0) = wNum 3 ++ (mvW mv ++ []) := by simp [cmW]
        rw [hw, rdCm, rdSm_back zo zo]; simp only []
        rw [if_neg zq, if_pos zq, rdMv_back hmv]
      · simp [nmdC] at hz
        obtain ⟨h1, h3, h4, h5, h6⟩ := hz
        rw [← h1, h3, h4, h5, ← h6]
        have hw : cmW (((5 : Nat) : Int), rq0, mv, [], [], [], 0) = wNum 5 ++ (mvW mv ++ []) := by simp [cmW]
        rw [hw, rdCm, rdSm_back zo zo]; simp only []
        rw [if_neg zq, if_pos zq, rdMv_back hmv]
      · simp [nmdC] at hz
        obtain ⟨h1, h3, h4, h5, h6⟩ := hz
        rw [← h1, h3, h4, h5, ← h6]
        have hw : cmW (((9 : Nat) : Int), rq0, mv, [], [], [], 0) = wNum 9 ++ (mvW mv ++ []) := by simp [cmW]
        rw [hw, rdCm, rdSm_back zo zo]; simp only []
        rw [if_neg zq, if_pos zq, rdMv_back hmv]
      · simp [nmdC] at hz
        obtain ⟨h1, h3, h4, h5, h6⟩ := hz
        rw [← h1, h3, h4, h5, ← h6]
        have hw : cmW (((10 : Nat) : Int), rq0, mv, [], [], [], 0) = wNum 10 ++ (mvW mv ++ []) := by simp [cmW]
        rw [hw, rdCm, rdSm_back zo zo]; simp only []
        rw [if_neg zq, if_pos zq, rdMv_back hmv]
    · obtain ⟨hmv, hre, hel, hal⟩ := min rfl
      simp [nmdC] at hz
      obtain ⟨h1, h5, h6⟩ := hz
      rw [← h1, h5, ← h6] at hL ⊢
      have hw : cmW (((4 : Nat) : Int), rq0, mv, en, an, [], 0) = wNum 4 ++ (mvW mv ++ (wBytes (wList spI en) ++ (wBytes an ++ []))) := by simp [cmW]
      have hem := risE_may hre
      have hlw := lsW_le hem hel
      have hLx : (wList spI en).length ≤ L := by
        rw [hw] at hL
        simp only [List.length_append, wBytes] at hL
        omega
      rw [hw, rdCm, rdSm_back zo zo]; simp only []
      rw [if_neg zq, if_neg zq, if_pos zq, rdMv_back hmv]; simp only []
      rw [rdRw_back2 hLx zo]; simp only []
      rw [rdLs_back hem hel]; simp only []
      rw [rdRw_back hal zq]
      rfl
    · obtain ⟨hk1, hk2⟩ := mke zo
      rcases hk with rfl | rfl
      · simp [nmdC] at hz
        obtain ⟨h1, h2, h3, h4, h6⟩ := hz
        rw [← h1, ← h2, h3, h4, ← h6]
        have hw : cmW (((6 : Nat) : Int), rq0, mv0, [], [], key, 0) = wNum 6 ++ (wBytes key ++ []) := by simp [cmW]
        rw [hw, rdCm, rdSm_back zo zo]; simp only []
        rw [if_neg zq, if_neg zq, if_neg zq, if_pos zq, rdRw_back hk2 zq]
      · simp [nmdC] at hz
        obtain ⟨h1, h2, h3, h4, h6⟩ := hz
        rw [← h1, ← h2, h3, h4, ← h6]
        have hw : cmW (((7 : Nat) : Int), rq0, mv0, [], [], key, 0) = wNum 7 ++ (wBytes key ++ []) := by simp [cmW]
        rw [hw, rdCm, rdSm_back zo zo]; simp only []
        rw [if_neg zq, if_neg zq, if_neg zq, if_pos zq, rdRw_back hk2 zq]
    · obtain ⟨hk1, hg1, hg2⟩ := mgr rfl
      simp [nmdC] at hz
      obtain ⟨h1, h2, h3, h4⟩ := hz
      obtain ⟨g, rfl⟩ := Int.eq_ofNat_of_zero_le (show 0 ≤ g by omega)
      rw [← h1, ← h2, h3, h4]
      have hw : cmW (((8 : Nat) : Int), rq0, mv0, [], [], key, (g : Int)) = wNum 8 ++ (wBytes key ++ (wNum g ++ [])) := by simp [cmW]
      rw [hw, rdCm, rdSm_back zo zo]; simp only []
      rw [if_neg zq, if_neg zq, if_neg zq, if_neg zq, if_pos zq, rdRw_back hk1 zq]; simp only []
      rw [rdSm_back zo zo]
      rfl
  rw [rdAll, key]
  exact if_pos hm
end Go.Proofs.YtogafjlbpodgjaaGreat
