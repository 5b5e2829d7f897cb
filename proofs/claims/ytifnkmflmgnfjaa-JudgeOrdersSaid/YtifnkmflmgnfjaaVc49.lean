/- A part of the proof: steps and lemmas for the walks through the given program. -/
import Derived.Test.YtifnkmflmgnfjaaGd
import Derived.Lib.ConvBytes
namespace Go.Vc
set_option linter.unusedVariables false
set_option linter.unusedSimpArgs false
/-! ### the bytes of a string, in a slice -/
section
variable {P : Program} {d : Option Tmp} {ty : TypeId} {p : String} {af : Array Edge} {g : Option (Nat × Bool)} {e : Nat → Value} {w : World} {x y : Operand} {K : Value → World → Prop}
theorem to_s2b {src dst et : TypeId} {l : List UInt8} (hs : P.underlying src = some .string) (hd : kSlice P dst et = true) (he : P.underlying et = some (.int .u8)) (hx : ev e x = .string ⟨l.toArray⟩) (hl : l.length ≤ maxLen)
    (k : ∀ b c w', b = w.heap.size → SlV tU8 w' (fun i => i = b) (.slice (some ⟨b, 0, none⟩) l.length c) l → Ext w w' → w'.heap.size = b + 1 → K (.slice (some ⟨b, 0, none⟩) l.length c) w') : OpTo P ⟨d, .convert src dst x, ty, p, af, g⟩ e w K := by
  have hr : (execOp (ev e) ⟨d, .convert src dst x, ty, p, af, g⟩).run P w = .ok (.value (.slice (some ⟨w.heap.size, 0, none⟩) (ByteArray.mk l.toArray).size (grownCap w (ByteArray.mk l.toArray).size 0 et))) (Lib.bytesWorld w et ⟨l.toArray⟩) := by
    have h := Lib.run_convert_string_bytes (P := P) w src dst et ⟨l.toArray⟩ hs (kSlice_of hd) he
    simp only [execOp, hx, Sem.run_bind, h, Result.andThen_ok, Sem.run_pure]
  unfold OpTo
  rw [hr]
  have hsz : (ByteArray.mk l.toArray).size = l.length := by simp [ByteArray.size]
  rw [hsz]
  have hE : Ext w (Lib.bytesWorld w et ⟨l.toArray⟩) := by
    have h1 : Ext w (w.drew.alloc (.cells (Lib.bytesCells w et ⟨l.toArray⟩) et)) := (Keep.drawn w _).trans (Ext.alloc _ _)
    exact h1.step (freeze_keep _ _ _).1 fun i hi h => by have h : i = w.heap.size := h; omega
  refine k _ _ _ rfl ⟨some ⟨w.heap.size, 0, none⟩, _, rfl, grownCap_ge w _ 0 et, grownCap_le_maxLen w _ 0 et hl, (fun h => by cases h), fun i u hu => ?_⟩ hE (Lib.bytesWorld_size w et _)
  have hil := (List.getElem?_eq_some_iff.1 hu).1
  refine ⟨_, [.int .u8 u.toNat], rfl, rfl, fun j v hv => ?_, rfl⟩
  have hj : j = 0 := by
    rcases j with _ | j
    · rfl
    · simp at hv
  subst hj
  obtain rfl : v = .int .u8 u.toNat := by simpa using hv.symm
  have h2 := Lib.bytesWorld_cell w et ⟨l.toArray⟩ i (by rw [hsz]; exact hil)
  have h3 : ((ByteArray.mk l.toArray).data.toList.getD i 0) = u := by
    show l.getD i 0 = u
    rw [List.getD_eq_getElem?_getD, hu]; rfl
  rw [h3] at h2
  have e1 : (((⟨w.heap.size, 0, none⟩ : Addr).add (i * tU8.sz)).add 0) = ⟨w.heap.size, i, none⟩ := by simp [add_lit, tU8]
  rw [e1]; exact h2
end
end Go.Vc
