/- A part of the proof: steps and lemmas for the walks through the given program. -/
import Derived.Test.YtkaangdfpjkjpaaVc9
namespace Go.Vc
set_option linter.unusedVariables false
set_option linter.unusedSimpArgs false

def setAt (l : List Value) (o : Nat) (cs : List Value) : List Value := l.take o ++ cs ++ l.drop (o + cs.length)
theorem foldl_zip (cs arr : Array Value) (o : Nat) (h : o + cs.size ≤ arr.size) : (cs.zipIdx.foldl (fun a (c, j) => a.setIfInBounds (o + j) c) arr).toList = setAt arr.toList o cs.toList := by
  have key : ∀ (l : List Value) (k : Nat) (a : Array Value), o + k + l.length ≤ a.size → ((l.zipIdx k).foldl (fun a x => a.setIfInBounds (o + x.2) x.1) a).toList = setAt a.toList (o + k) l := by
    intro l
    induction l with
    | nil => intro k a _; simp [setAt]
    | cons y l ih =>
      intro k a hk
      simp only [List.length_cons] at hk
      simp only [List.zipIdx_cons, List.foldl_cons]
      rw [ih (k + 1) _ (by simp; omega)]
      have ho : o + k < a.toList.length := by simp; omega
      simp only [setAt, Array.toList_setIfInBounds, List.length_cons]
      rw [show o + (k + 1) = (o + k) + 1 by omega]
      rw [List.take_set, List.drop_set]
      rw [if_pos (by omega)]
      rw [List.take_succ_eq_append_getElem ho]
      rw [List.set_append_right _ _ (by simp; omega)]
      have e1 : (o + k - (List.take (o + k) a.toList).length) = 0 := by simp; omega
      rw [e1]
      simp only [List.set_cons_zero, List.append_assoc, List.cons_append, List.nil_append]
      rw [show o + k + 1 + l.length = o + k + (l.length + 1) by omega]
  rw [← Array.foldl_toList]
  have e3 : cs.zipIdx.toList = cs.toList.zipIdx 0 := by simp
  rw [e3]
  have := key cs.toList 0 arr (by simpa using h)
  rw [Nat.add_zero] at this
  exact this
def fillL (place : Nat → Option (Nat × Nat)) : List Value → List (Nat × Value) → Option (List Value)
  | l, [] => some l
  | l, (i, v) :: rest => match place i with
    | none => none
    | some (off, size) => if v.cells.toList.length = size ∧ off + size ≤ l.length then fillL place (setAt l off v.cells.toList) rest else none
theorem fill_list (place : Nat → Option (Nat × Nat)) : ∀ (ps : List (Nat × Value)) (l r : List Value), fillL place l ps = some r → Instr.fill place l.toArray ps = some r.toArray
  | [], l, r, h => by simp [fillL] at h; subst h; rfl
  | (i, v) :: rest, l, r, h => by
    simp only [fillL] at h
    simp only [Instr.fill]
    cases hp : place i with
    | none => simp [hp] at h
    | some os =>
      obtain ⟨off, size⟩ := os
      simp only [hp] at h ⊢
      split at h
      · rename_i hc
        have h1 : v.cells.size = size := by simpa using hc.1
        have h2 : ¬ (v.cells.size ≠ size || decide (off + v.cells.size > l.toArray.size)) = true := by
          have := hc.2
          simp [h1]; omega
        rw [if_neg h2]
        have hz := foldl_zip v.cells l.toArray off (by rw [h1]; simpa using hc.2)
        have := fill_list place rest _ r h
        rw [show setAt l off v.cells.toList = setAt l.toArray.toList off v.cells.toList from rfl, ← hz] at this
        simpa using this
      · cases h
/-- where a struct's fields lie -/
def placesOf (P : Program) (t : TypeId) : Option (List (Nat × Nat)) := match P.underlying t with
  | some (.struct fs) => fs.toList.mapM fun f => (P.info? f.type).map fun i => (f.offset, i.size)
  | _ => none
theorem run_places {P : Program} : ∀ (l : List Field) (pl : List (Nat × Nat)) (w : World), l.mapM (fun f => (P.info? f.type).map fun i => (f.offset, i.size)) = some pl → (l.mapM (fun f => (do pure (f.offset, ← sizeOf f.type) : Sem (Nat × Nat)))).run P w = .ok pl w
  | [], pl, w, h => by simp at h; subst h; rfl
  | f :: l, pl, w, h => by
    simp only [List.mapM_cons] at h ⊢
    cases hi : P.info? f.type with
    | none => simp [hi] at h
    | some i =>
      simp only [hi, Option.map_some] at h
      cases hl : l.mapM (fun f => (P.info? f.type).map fun i => (f.offset, i.size)) with
      | none => simp [hl] at h
      | some pl' =>
        simp [hl] at h
        subst h
        have ih := run_places l pl' w hl
        simp only [Sem.run_bind, Sem.run_pure, sizeOf, typeInfo, hi, program, Sem.run, Result.andThen] at ih ⊢
        simp [sizeOf, typeInfo, hi, Sem.run] at ih ⊢
        rw [ih]
section
variable {P : Program} {d : Option Tmp} {ty : TypeId} {p : String} {af : Array Edge} {g : Option (Nat × Bool)} {e : Nat → Value} {w : World} {K : Value → World → Prop} {α : Type}
theorem v_build {t : TypeId} {parts : Array (Nat × Operand)} {z : Value} {pl : List (Nat × Nat)} {zl cells : List Value} {ps : List (Nat × Value)} (hpl : placesOf P t = some pl) (hz : kZero P t z) (hzl : z.cells.toList = zl) (hps : parts.toList.map (fun x => (x.1, ev e x.2)) = ps) (hf : fillL (pl[·]?) zl ps = some cells) :
    OpVat P ⟨d, .build t parts, ty, p, af, g⟩ e w (.agg cells.toArray) := by
  unfold placesOf at hpl
  split at hpl
  · rename_i fs hu
    have hpr := run_places (P := P) fs.toList pl w hpl
    have hfill := fill_list _ _ _ _ hf
    subst hzl
    unfold kZero at hz
    cases hi : P.info? t with
    | none => simp [hi] at hz
    | some i =>
      simp [hi] at hz
      have hpa : (fs.mapM (fun f => (do pure (f.offset, ← sizeOf f.type) : Sem (Nat × Nat)))).run P w = .ok pl.toArray w := by
        rw [Array.mapM_eq_mapM_toList, Sem.run_map, hpr]
        rfl
      simp only [OpVat, execOp, Instr.build]
      simp [zeroValue, typeInfo, hi, hz, run_underlying hu]
      have hpa' := hpa
      simp at hpa'
      rw [hpa']
      simp
      rw [hps]
      have : Instr.fill (fun x => pl[x]?) z.cells ps = some cells.toArray := by simpa using hfill
      rw [this]
      rfl
  · cases hpl

def kZeros (P : Program) (et n : Nat) (zl : List Value) : Prop := (P.info? et).bind (fun i => i.zero.map fun z => ((Array.range (n * i.size)).map (z.cells[· % z.cells.size]!)).toList) = some zl
theorem kZeros_of {P : Program} {et n : Nat} {zl : List Value} (h : kZeros P et n zl) : ∃ i z, P.info? et = some i ∧ i.zero = some z ∧ ((Array.range (n * i.size)).map (z.cells[· % z.cells.size]!)).toList = zl := by
  unfold kZeros at h
  cases hi : P.info? et with
  | none => simp [hi] at h
  | some i =>
    rw [hi] at h
    simp only [Option.bind_some] at h
    cases hz : i.zero with
    | none => simp [hz] at h
    | some z => rw [hz] at h; exact ⟨i, z, rfl, hz, Option.some.inj h⟩
/-- '[]T{x, y, ..}': a new row -/
theorem to_sliceN {t : Ty α} {T et bytes n : Nat} {parts : Array (Nat × Operand)} {ps : List (Nat × Value)} {zl cells : List Value} {F : Nat → Prop} {xs : List α} (hk : kElem P T et t.sz bytes = true) (hn : 0 < n) (hsz : n * t.sz ≤ 16777216) (hz : kZeros P et n zl)
    (hps : parts.toList.map (fun x => (x.1, ev e x.2)) = ps) (hf : fillL (fun i => some (i * t.sz, t.sz)) zl ps = some cells) (hlen : cells.length = n * t.sz) (hxs : xs.length = n) (hrep : ∀ i x, xs[i]? = some x → t.rep w F ((cells.drop (i * t.sz)).take t.sz) x)
    (k : ∀ b w', b = w.heap.size → OwV t et w' b (fun b => F b ∧ b < w.heap.size) (.slice (some ⟨b, 0, none⟩) n n) xs → Ext w w' → w'.heap.size = b + 1 → K (.slice (some ⟨b, 0, none⟩) n n) w') :
    OpTo P ⟨d, .buildSlice T n parts, ty, p, af, g⟩ e w K := by
  obtain ⟨ht, i, z, hi, hzz, hzs, his, hib⟩ := kElem_of hk
  obtain ⟨i', z', hi', hz', hzl⟩ := kZeros_of hz
  rw [hi] at hi'; cases hi'
  rw [hzz] at hz'; cases hz'
  have hfill := fill_list _ _ _ _ hf
  have hpos := t.pos
  have hr' : (execOp (ev e) ⟨d, .buildSlice T n parts, ty, p, af, g⟩).run P w = .ok (.value (.slice (some ⟨w.heap.size, 0, none⟩) n n)) (w.alloc (.cells cells.toArray et)) := by
    have hs2 : ¬ (n * t.sz = 0) := by
      intro h0
      rcases Nat.mul_eq_zero.1 h0 with h | h <;> omega
    have hs1 : ¬ (16777216 < n * t.sz) := by omega
    simp only [execOp, Instr.buildSlice]
    simp [run_underlying ht, sizeOf, typeInfo, zeroValue, hi, hzz, his, hs1, hs2, newRow, newObj]
    rw [his] at hzl
    have hza : (Array.range (n * t.sz)).map (fun x => z.cells[x % z.cells.size]!) = zl.toArray := by rw [← hzl]
    rw [hza, hps, hfill]
    simp [Sem.run]
  unfold OpTo
  rw [hr']
  refine k _ _ rfl ⟨cells, ⟨by rw [hlen, hxs], .inr ⟨w.heap.size, n, cells.toArray, by rw [hxs], Nat.le_refl _, heap_alloc_new w _, by rw [hxs]; exact Nat.le_refl _, ?_, by simp [hlen], ?_⟩⟩, fun j y hy => ?_⟩ (Ext.alloc _ _) (by simp)
  · have : n ≤ n * t.sz := Nat.le_mul_of_pos_right n hpos
    simp only [maxLen]; omega
  · rw [List.take_of_length_le]; rw [hxs]; simp [hlen]
  · refine t.mono (t.keep (K := NoK) (t.mono (hrep j y hy) fun b hb hF => (⟨hF, hb⟩ : F b ∧ b < w.heap.size)) (Ext.alloc _ _) fun _ _ _ x => x) fun b hb hF => ⟨hF, ?_⟩
    simp only [Value.ownBlock]
    intro h
    have := Option.some.inj h
    omega
/-- '[]T{}' -/
theorem to_slice0 {t : Ty α} {T et bytes : Nat} (hk : kElem P T et t.sz bytes = true)
    (k : ∀ b w', b = w.heap.size → OwV t et w' b NoK (.slice (some ⟨b, 0, none⟩) 0 0) [] → Ext w w' → w'.heap.size = b + 1 → K (.slice (some ⟨b, 0, none⟩) 0 0) w') :
    OpTo P ⟨d, .buildSlice T 0 #[], ty, p, af, g⟩ e w K := by
  obtain ⟨ht, i, z, hi, hzz, hzs, his, hib⟩ := kElem_of hk
  have hr' : (execOp (ev e) ⟨d, .buildSlice T 0 #[], ty, p, af, g⟩).run P w = .ok (.value (.slice (some ⟨w.heap.size, 0, none⟩) 0 0)) (w.alloc (.cells #[] et)) := by
    simp only [execOp, Instr.buildSlice]
    simp [run_underlying ht, sizeOf, typeInfo, zeroValue, hi, hzz, his, newRow, newObj, Instr.fill, Sem.run]
    congr 2
    apply Array.ext <;> simp
  unfold OpTo
  rw [hr']
  exact k _ _ rfl ⟨[], ⟨by simp, .inr ⟨w.heap.size, 0, #[], rfl, Nat.le_refl _, heap_alloc_new w _, Nat.le_refl _, by simp [maxLen], by simp, by simp⟩⟩, fun j y hy => by simp at hy⟩ (Ext.alloc _ _) (by simp)
end
end Go.Vc
