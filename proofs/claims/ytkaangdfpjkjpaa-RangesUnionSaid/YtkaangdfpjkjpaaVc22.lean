/- A part of the proof: steps and lemmas for the walks through the given program. -/
import Derived.Test.YtkaangdfpjkjpaaVc21
import Derived.Lib.AppendZerosOnto
namespace Go.Vc
set_option linter.unusedVariables false
set_option linter.unusedSimpArgs false
/-- the address of a part of a slice -/
def slA (a : Option Addr) (c l sz : Nat) : Option Addr := if c = l then a else a.map (·.add (l * sz))
theorem SlV.sub {α : Type} {t : Ty α} {w : World} {F : Nat → Prop} {a : Option Addr} {n c l h : Nat} {xs : List α} (hv : SlV t w F (.slice a n c) xs) (hlh : l ≤ h) (hhx : h ≤ xs.length) : SlV t w F (.slice (slA a c l t.sz) (h - l) (c - l)) ((xs.take h).drop l) := by
  obtain ⟨a', c', hv', h1, h2, h3, h4⟩ := hv
  cases hv'
  have hlen : ((xs.take h).drop l).length = h - l := by simp; omega
  refine ⟨_, _, by rw [hlen], by rw [hlen]; omega, by omega, ?_, ?_⟩
  · intro hn
    unfold slA at hn
    split at hn
    · have := h3 hn; omega
    · have : a = none := by cases a <;> simp_all
      have := h3 this; omega
  · intro i y hy
    have hi : i < h - l := by have := (List.getElem?_eq_some_iff.1 hy).1; rw [hlen] at this; exact this
    rw [List.getElem?_drop, List.getElem?_take, if_pos (by omega)] at hy
    obtain ⟨q, cs, ha, hF, hp, hr⟩ := h4 _ _ hy
    have hne : ¬ c = l := by omega
    refine ⟨q.add (l * t.sz), cs, by unfold slA; rw [if_neg hne, ha]; rfl, by rw [add_block]; exact hF, ?_, hr⟩
    rw [add_add, ← Nat.add_mul]; exact hp
section
variable {P : Program} {d : Option Tmp} {ty : TypeId} {p : String} {af : Array Edge} {g : Option (Nat × Bool)} {e : Nat → Value} {w : World} {x y : Operand} {K : Value → World → Prop} {α : Type}
/-- 's[lo:hi]': its value -/
theorem v_slice {T et sz n c l h : Nat} {a : Option Addr} {lo hi : Option Operand} (hk : kSlice P T et = true) (hs : kSize P et sz = true) (hx : ev e x = .slice a n c)
    (hl : match lo with | some o => ∃ k, ev e o = .int k (l : Nat) | none => l = 0) (hh : match hi with | some o => ∃ k, ev e o = .int k (h : Nat) | none => h = n) (hlh : l ≤ h) (hhc : h ≤ c) :
    OpVat P ⟨d, .slice T x lo hi none, ty, p, af, g⟩ e w (.slice (slA a c l sz) (h - l) (c - l)) := by
  have hlo : ∀ (y : Nat), l ≤ y → (match lo.map (ev e) with | some v => Instr.sliceBound v y .sliceB | none => pure 0).run P w = .ok l w := by
    intro y hy
    cases lo with
    | none => simp at hl; subst hl; rfl
    | some o =>
      obtain ⟨kk, ho⟩ := hl
      simp [ho, Instr.sliceBound, asIntOf]
      have : ¬ (y : Int) < (l : Int) := by omega
      omega
  have hi' : (match hi.map (ev e) with | some v => Instr.sliceBound v c .sliceAcap | none => pure n).run P w = .ok h w := by
    cases hi with
    | none => simp at hh; subst hh; rfl
    | some o =>
      obtain ⟨kk, ho⟩ := hh
      simp [ho, Instr.sliceBound, asIntOf]
      omega
  have hb : (Instr.sliceBounds true n c (lo.map (ev e)) (hi.map (ev e)) none).run P w = .ok (l, h, c) w := by
    unfold Instr.sliceBounds
    cases hi with
    | none =>
      simp only [Option.map_none] at hi' ⊢
      have := hlo h hlh
      cases lo with
      | none => simp at this hi' ⊢; exact ⟨this, hi'⟩
      | some o => simp at this hi' ⊢; rw [hi']; simp [this]
    | some oh =>
      simp only [Option.map_some] at hi' ⊢
      have := hlo h hlh
      cases lo with
      | none => simp at this hi' ⊢; rw [hi']; simp [this]
      | some o => simp at this hi' ⊢; rw [hi']; simp [this]
  simp [OpVat, execOp, hx, Instr.sliceAt, Instr.slice, run_underlying (kSlice_of hk), hb, run_sizeOf hs, slA]
theorem v_cap {T et n c : Nat} {a : Option Addr} (ht : kSlice P T et = true) (hx : ev e x = .slice a n c) : OpVat P ⟨d, .call { callee := .builtin .cap, args := #[x], argTypes := #[T] }, ty, p, af, g⟩ e w (.int .i64 c) := by
  simp [OpVat, execOp, hx, resolve, invoke, builtin, Builtin.cap_, run_underlying (kSlice_of ht), goInt]
/-- 'append(nil, make([]T, k)...)', cut to nothing: room -/
theorem to_appendZ {t : Ty α} {T tn et bytes k : Nat} {kq kn : IntKind} (hk : kElem P T et t.sz bytes = true) (htn : P.underlying tn = some (.int kn)) (hx : ev e x = .slice none 0 0) (hy : ev e y = .int kq (k : Nat)) (h0 : 0 < k) (hb : k * bytes ≤ 140737488355328) (hm : k ≤ maxLen)
    (r : ∀ b cc w', b = w.heap.size → OwV t et w' b NoK (.slice (some ⟨b, 0, none⟩) 0 cc) [] → Ext w w' → w'.heap.size = b + 1 → K (.slice (some ⟨b, 0, none⟩) k cc) w') :
    OpTo P ⟨d, .call { callee := .builtin .append, args := #[x, y], argTypes := #[T, tn] }, ty, p, af, g⟩ e w K := by
  obtain ⟨ht, i, z, hi, hz, hzs, his, hib⟩ := kElem_of hk
  have hold : (Builtin.firstCells i.size 0 (.slice none 0 0)).run P w.drew = .ok (([] : List Value).toArray) w.drew := by
    simp [Builtin.firstCells]
  have hr := Lib.run_append_grow_zeros (P := P) w T tn ty et i z kq kn ht htn hi hz none 0 0 [] hold k h0 (by rw [his]; exact t.pos) (by omega) (by simp only [maxLen] at hm; omega) (by rw [hib]; omega) (by
    have : Builtin.nextslicecap (0 + k) 0 = k := by
      unfold Builtin.nextslicecap
      rw [if_pos (by omega), Nat.zero_add]
    rw [this, hib]; omega)
  have hr' : (execOp (ev e) ⟨d, .call { callee := .builtin .append, args := #[x, y], argTypes := #[T, tn] }, ty, p, af, g⟩).run P w = .ok (.value (.slice (some ⟨w.heap.size, 0, none⟩) (0 + k) (grownCap w (0 + k) 0 et))) (w.drew.alloc (.cells (([] : List Value).toArray ++ Builtin.zeroCells z.cells k ++ Builtin.zeroCells z.cells (grownCap w (0 + k) 0 et - (0 + k))) et)) := by
    simp [execOp, resolve, hx, hy, invoke, builtin, hr]
  have hge := grownCap_ge w (0 + k) 0 et
  have hle := grownCap_le_maxLen w (0 + k) 0 et (by omega)
  unfold OpTo
  rw [hr', Nat.zero_add]
  rw [Nat.zero_add] at hge hle
  refine r w.heap.size _ _ rfl ?_ ((Keep.drawn w _).trans (Ext.alloc _ _)) (by rw [World.size_alloc]; rfl)
  refine ⟨[], ⟨by simp, .inr ⟨w.heap.size, _, _, rfl, Nat.le_refl _, heap_alloc_new w.drew _, by simp, hle, ?_, by simp⟩⟩, fun i x hx => by simp at hx⟩
  simp only [Builtin.zeroCells, Array.size_append, Array.size_map, Array.size_range, List.size_toArray, List.length_nil, Nat.zero_add]
  rw [hzs]
  rw [← Nat.add_mul]
  congr 1
  omega
end
theorem parts2 {e : Nat → Value} {i0 i1 : Nat} {x0 x1 : Operand} {v0 v1 : Value} (h0 : ev e x0 = v0) (h1 : ev e x1 = v1) : (#[(i0, x0), (i1, x1)] : Array (Nat × Operand)).toList.map (fun x => (x.1, ev e x.2)) = [(i0, v0), (i1, v1)] := by simp [h0, h1]
theorem parts3 {e : Nat → Value} {i0 i1 i2 : Nat} {x0 x1 x2 : Operand} {v0 v1 v2 : Value} (h0 : ev e x0 = v0) (h1 : ev e x1 = v1) (h2 : ev e x2 = v2) : (#[(i0, x0), (i1, x1), (i2, x2)] : Array (Nat × Operand)).toList.map (fun x => (x.1, ev e x.2)) = [(i0, v0), (i1, v1), (i2, v2)] := by simp [h0, h1, h2]
theorem one_cells {v : Value} (h : v.oneCell' = true) : v.cells = #[v] := by cases v <;> first | rfl | simp [Value.oneCell'] at h
theorem reps2 {α : Type} {t : Ty α} {w : World} {F : Nat → Prop} {c1 c2 : List Value} {x1 x2 : α} (h1 : t.rep w F c1 x1) (h2 : t.rep w F c2 x2) : ∀ i x, [x1, x2][i]? = some x → t.rep w F (((c1 ++ c2).drop (i * t.sz)).take t.sz) x := by
  intro i x hx
  have l1 := t.len h1
  have l2 := t.len h2
  match i, hx with
  | 0, hx => cases hx; rw [Nat.zero_mul, List.drop_zero, ← l1, List.take_left' rfl]; exact h1
  | 1, hx => cases hx; rw [Nat.one_mul, ← l1, List.drop_left' rfl, l1, ← l2, List.take_length]; exact h2
/-- '[]T{x, y, z}', each one cell -/
theorem to_slice3c {P : Program} {d : Option Tmp} {ty : TypeId} {p : String} {af : Array Edge} {g : Option (Nat × Bool)} {e : Nat → Value} {w : World} {K : Value → World → Prop} {α : Type} {t : Ty α} {T et bytes : Nat} {x0 x1 x2 : Operand} {v0 v1 v2 z : Value} {F : Nat → Prop} {y0 y1 y2 : α} (hk : kElem P T et t.sz bytes = true) (hsz : t.sz = 1) (hz : kZeros P et 3 [z, z, z])
    (h0 : ev e x0 = v0) (h1 : ev e x1 = v1) (h2 : ev e x2 = v2) (c0 : v0.oneCell' = true) (c1 : v1.oneCell' = true) (c2 : v2.oneCell' = true) (r0 : t.rep w F [v0] y0) (r1 : t.rep w F [v1] y1) (r2 : t.rep w F [v2] y2)
    (k : ∀ b w', b = w.heap.size → OwV t et w' b (fun b => F b ∧ b < w.heap.size) (.slice (some ⟨b, 0, none⟩) 3 3) [y0, y1, y2] → Ext w w' → w'.heap.size = b + 1 → K (.slice (some ⟨b, 0, none⟩) 3 3) w') :
    OpTo P ⟨d, .buildSlice T 3 #[(0, x0), (1, x1), (2, x2)], ty, p, af, g⟩ e w K := by
  refine to_sliceN (t := t) (xs := [y0, y1, y2]) (cells := [v0, v1, v2]) hk (by decide) (by rw [hsz]; decide) hz (parts3 h0 h1 h2) ?_ (by rw [hsz]; rfl) rfl ?_ k
  · simp [fillL, one_cells c0, one_cells c1, one_cells c2, setAt, hsz]
  · intro i x hx
    rw [hsz]
    match i, hx with
    | 0, hx => cases hx; exact r0
    | 1, hx => cases hx; exact r1
    | 2, hx => cases hx; exact r2
end Go.Vc
