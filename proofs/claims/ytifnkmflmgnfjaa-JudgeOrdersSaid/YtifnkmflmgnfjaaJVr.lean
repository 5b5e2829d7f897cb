/- A part of the proof: steps and lemmas for the walks through the given program. -/
import Derived.Test.YtifnkmflmgnfjaaJVn
import Derived.Test.YtifnkmflmgnfjaaJv
namespace Go.Vc
set_option linter.unusedVariables false
set_option linter.unusedSimpArgs false
/-! ### the document's table of texts that were tried in vain -/
structure VnR (r : List JdV) (e : TypeId) (w : World) (n1 : Nat) (V : Nat → Prop) (vs : List Value) (S : Nat → List (List UInt8)) : Prop where
  len : vs.length = 1024
  own : ∀ k v, vs[k]? = some v → OwV tStr e w n1 NoK v (S k)
  fp : ∀ b, V b ↔ ∃ (k : Nat) (v : Value), vs[k]? = some v ∧ v.ownBlock = some b
  dis : ∀ (j k : Nat) (v u : Value) (b : Nat), vs[j]? = some v → vs[k]? = some u → v.ownBlock = some b → u.ownBlock = some b → j = k
  nd : ∀ k, (S k).Nodup
  ok : ∀ k s, s ∈ S k → VnT r s
section
variable {r : List JdV} {e : TypeId} {w w' : World} {n1 : Nat} {V K : Nat → Prop} {vs : List Value} {S : Nat → List (List UInt8)}
theorem VnR.keep (h : VnR r e w n1 V vs S) (k : Keep K w w') (hk : ∀ b, b < w.heap.size → V b → ¬ K b) : VnR r e w' n1 V vs S :=
  ⟨h.len, fun j v hv => (h.own j v hv).keep k (fun b hb => hk b ((h.own j v hv).own_lt hb).2 ((h.fp b).2 ⟨j, v, hv, hb⟩)) (fun b _ hb => hb.elim), h.fp, h.dis, h.nd, h.ok⟩
theorem VnR.ext (h : VnR r e w n1 V vs S) (k : Ext w w') : VnR r e w' n1 V vs S := h.keep k (fun _ _ _ x => x)
theorem VnR.rng (h : VnR r e w n1 V vs S) {b : Nat} (hb : V b) : n1 ≤ b ∧ b < w.heap.size := by
  obtain ⟨k, v, hv, ho⟩ := (h.fp b).1 hb
  exact (h.own k v hv).own_lt ho
theorem VnR.at (h : VnR r e w n1 V vs S) {k : Nat} (hk : k < 1024) : ∃ a c, vs[k]? = some (.slice a (S k).length c) ∧ OwV tStr e w n1 NoK (.slice a (S k).length c) (S k) ∧ ∀ b, (Value.slice a (S k).length c).ownBlock = some b → V b := by
  have hlt : k < vs.length := by rw [h.len]; exact hk
  have hv : vs[k]? = some vs[k] := List.getElem?_eq_getElem hlt
  have ho := h.own k _ hv
  obtain ⟨a, c, hs⟩ := ho.shape
  rw [hs] at hv ho
  exact ⟨a, c, hv, ho, fun b hb => (h.fp b).2 ⟨k, _, hv, hb⟩⟩
theorem VnR.le (h : VnR r e w n1 V vs S) (hr : RP r) (k : Nat) : (S k).length ≤ 4398046511104 := vain_le hr (h.nd k) (h.ok k)
theorem VnR.put (h : VnR r e w n1 V vs S) {k : Nat} {vk u : Value} {s : List UInt8} (hv : vs[k]? = some vk) (kp : Keep (fun b => vk.ownBlock = some b) w w') (hu : OwV tStr e w' n1 NoK u (S k ++ [s])) (ho : ∀ b, u.ownBlock = some b → vk.ownBlock = some b ∨ w.heap.size ≤ b) (hs : VnT r s) (hn : s ∉ S k) :
    ∃ V', VnR r e w' n1 V' (vs.set k u) (fun j => if j = k then S k ++ [s] else S j) ∧ ∀ b, V' b → V b ∨ w.heap.size ≤ b := by
  have hkl : k < vs.length := (List.getElem?_eq_some_iff.1 hv).1
  have hg : ∀ j v, (vs.set k u)[j]? = some v → (j = k ∧ v = u) ∨ (j ≠ k ∧ vs[j]? = some v) := fun j v hj => by
    by_cases hjk : k = j
    · subst hjk
      rw [List.getElem?_set_self hkl] at hj
      cases hj
      exact .inl ⟨rfl, rfl⟩
    · rw [List.getElem?_set_ne hjk] at hj
      exact .inr ⟨fun e => hjk e.symm, hj⟩
  have hold : ∀ (j : Nat) (v : Value) (b : Nat), vs[j]? = some v → v.ownBlock = some b → n1 ≤ b ∧ b < w.heap.size := fun j v b hj hb => (h.own j v hj).own_lt hb
  refine ⟨fun b => ∃ (j : Nat) (v : Value), (vs.set k u)[j]? = some v ∧ v.ownBlock = some b, ⟨by rw [List.length_set]; exact h.len, ?_, fun b => Iff.rfl, ?_, ?_, ?_⟩, ?_⟩
  · intro j v hj
    rcases hg j v hj with ⟨rfl, rfl⟩ | ⟨hne, hj⟩
    · rw [if_pos rfl]; exact hu
    · rw [if_neg hne]
      exact (h.own j v hj).keep kp (fun b hb hk => hne (h.dis j k v vk b hj hv hb hk)) (fun b _ hb => hb.elim)
  · intro i j v x b hi hj hb hb2
    rcases hg i v hi with ⟨e1, e2⟩ | ⟨hne, hi2⟩
    · rcases hg j x hj with ⟨e3, e4⟩ | ⟨hne2, hj2⟩
      · rw [e1, e3]
      · rw [e2] at hb
        rcases ho b hb with h1 | h1
        · rw [e1]; exact h.dis _ _ _ _ b hv hj2 h1 hb2
        · have := hold _ _ _ hj2 hb2; omega
    · rcases hg j x hj with ⟨e3, e4⟩ | ⟨hne2, hj2⟩
      · rw [e4] at hb2
        rcases ho b hb2 with h1 | h1
        · rw [e3]; exact h.dis _ _ _ _ b hi2 hv hb h1
        · have := hold _ _ _ hi2 hb; omega
      · exact h.dis _ _ _ _ b hi2 hj2 hb hb2
  · intro j
    split
    · rename_i hj
      rw [List.nodup_append]
      refine ⟨h.nd k, by simp, ?_⟩
      intro a ha b hb
      rw [List.mem_singleton] at hb
      subst hb
      intro he; subst he; exact hn ha
    · exact h.nd j
  · intro j t ht
    split at ht
    · rcases List.mem_append.1 ht with ht | ht
      · exact h.ok k t ht
      · rw [List.mem_singleton] at ht; subst ht; exact hs
    · exact h.ok j t ht
  · rintro b ⟨j, v, hj, hb⟩
    rcases hg j v hj with ⟨rfl, rfl⟩ | ⟨hne, hj⟩
    · rcases ho b hb with h1 | h1
      · exact .inl ((h.fp b).2 ⟨_, _, hv, h1⟩)
      · exact .inr h1
    · exact .inl ((h.fp b).2 ⟨j, v, hj, hb⟩)
theorem VnR.start : VnR r e w n1 (fun _ => False) (List.replicate 1024 (.slice none 0 0)) (fun _ => []) := by
  have hg : ∀ (k : Nat) v, (List.replicate 1024 (Value.slice none 0 0))[k]? = some v → v = .slice none 0 0 := fun k v h => by
    rw [List.getElem?_replicate] at h
    split at h
    · cases h; rfl
    · cases h
  refine ⟨List.length_replicate, fun k v hv => ?_, fun b => ⟨fun h => h.elim, ?_⟩, ?_, fun k => List.nodup_nil, fun k s h => by cases h⟩
  · rw [hg k v hv]; exact OwV.nil _ _ _ _ _
  · rintro ⟨k, v, hv, hb⟩
    rw [hg k v hv] at hb; cases hb
  · intro j k v u b hv hu hb
    rw [hg j v hv] at hb; cases hb
end
/-- a cell of the table of texts -/
theorem tr_pv {w : World} {tb k : Nat} {c0 c1 c2 v : Value} {vs : List Value} {T : TypeId} (hb : Blk w tb (c0 :: c1 :: c2 :: vs) T) (hv : vs[k]? = some v) : Pv w (((⟨tb, 0, none⟩ : Addr).add 3).add (k * 1)) [v] := by
  intro j u hu
  have : j = 0 := by
    cases j with
    | zero => rfl
    | succ j => simp at hu
  subst this
  simp only [List.getElem?_cons_zero, Option.some.injEq] at hu
  subst hu
  have h2 : (c0 :: c1 :: c2 :: vs)[k + 3]? = some v := by simpa using hv
  have := hb.cell h2
  rw [add_lit, add_lit, add_zero, Nat.mul_one, show 0 + 3 + k = k + 3 by omega]
  exact this
theorem tr_ad (tb k : Nat) : (((⟨tb, 0, none⟩ : Addr).add 3).add (k * 1)) = ⟨tb, k + 3, none⟩ := by
  rw [add_lit, add_lit, Nat.mul_one, show 0 + 3 + k = k + 3 by omega]
end Go.Vc
