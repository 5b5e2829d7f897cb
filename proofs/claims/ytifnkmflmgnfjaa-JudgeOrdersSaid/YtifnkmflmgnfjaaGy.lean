/- A part of the proof: steps and lemmas for the walks through the given program. -/
import Derived.Test.YtifnkmflmgnfjaaGd
import Derived.Test.YtifnkmflmgnfjaaVc36
import Derived.Test.YtifnkmflmgnfjaaGx
namespace Go.Vc
set_option linter.unusedVariables false
set_option linter.unusedSimpArgs false
end Go.Vc

namespace Go.Vc
set_option linter.unusedVariables false
set_option linter.unusedSectionVars false
set_option linter.unusedSimpArgs false
/-! ### maps -/
/-- what a map's keys are -/
structure KeyT (κ : Type) where
  kk : TypeDesc
  enc : κ → Value
  same : ∀ a b, Instr.sameNow kk (enc a) (enc b) = some true ↔ a = b
  some_ : ∀ a b, ∃ c, Instr.sameNow kk (enc a) (enc b) = some c
  bits : ∀ a, Instr.sameBits 10000 (enc a) (enc a) = true
  key : ∀ (P : Program) (w : World) (t : TypeId) (e : Bool) (a : κ), P.underlying t = some kk → (Instr.checkKey e 10000 t (enc a)).run P w = .ok () w
def kInt : KeyT Int where
  kk := .int .i64
  enc := fun x => .int .i64 x
  same := by intro a b; simp [Instr.sameNow]
  some_ := by intro a b; exact ⟨_, rfl⟩
  bits := by intro a; simp [Instr.sameBits]
  key := by
    intro P w t e a h
    have : ∀ n, (Instr.checkKey e (n + 1) t (.int .i64 a)).run P w = .ok () w := fun n => by
      simp only [Instr.checkKey, Sem.run_bind, run_underlying h, Result.andThen]; rfl
    exact this 9999
theorem ba_beq {a b : ByteArray} : (a == b) = true ↔ a = b := by
  constructor
  · intro h
    have h1 : (a.data == b.data) = true := h
    exact ByteArray.ext (eq_of_beq h1)
  · rintro rfl; exact (beq_self_eq_true a.data : (a.data == a.data) = true)
def kStr : KeyT (List UInt8) where
  kk := .string
  enc := fun x => .string ⟨x.toArray⟩
  same := by
    intro a b
    simp only [Instr.sameNow, Option.some.injEq, beq_iff_eq]
    constructor
    · intro h
      have := congrArg ByteArray.data (ba_beq.1 h)
      simpa using this
    · rintro rfl; exact ba_beq.2 rfl
  some_ := by intro a b; exact ⟨_, rfl⟩
  bits := by intro a; exact ba_beq.2 rfl
  key := by
    intro P w t e a h
    have : ∀ n, (Instr.checkKey e (n + 1) t (.string ⟨a.toArray⟩)).run P w = .ok () w := fun n => by
      simp only [Instr.checkKey, Sem.run_bind, run_underlying h, Result.andThen]; rfl
    exact this 9999
section
variable {κ : Type} [DecidableEq κ]
def MpB (kt : KeyT κ) (w : World) (b : Nat) (l : List (κ × Value)) : Prop := ∃ es clock, w.heap[b]? = some (Obj.map es clock) ∧ es.toList.map (fun e => (e.key, e.val)) = l.map (fun p => (kt.enc p.1, p.2))
theorem MpB.lt {kt : KeyT κ} {w : World} {b : Nat} {l : List (κ × Value)} (h : MpB kt w b l) : b < w.heap.size := by
  obtain ⟨es, c, h, _⟩ := h
  exact (Array.getElem?_eq_some_iff.1 h).1
theorem MpB.keep {kt : KeyT κ} {w w' : World} {K : Nat → Prop} {b : Nat} {l : List (κ × Value)} (h : MpB kt w b l) (k : Keep K w w') (hk : ¬ K b) : MpB kt w' b l := by
  have hlt := h.lt
  obtain ⟨es, c, h, h2⟩ := h
  exact ⟨es, c, by rw [k.block b hlt hk]; exact h, h2⟩
theorem MpB.ext {kt : KeyT κ} {w w' : World} {b : Nat} {l : List (κ × Value)} (h : MpB kt w b l) (k : Ext w w') : MpB kt w' b l := h.keep k (fun x => x)
theorem MpB.turn {kt : KeyT κ} {B : Nat} {w w' : World} {b : Nat} {l : List (κ × Value)} (h : MpB kt w b l) (t : Turn B w w') (hb : b < B) : MpB kt w' b l := by
  obtain ⟨K, k, hK⟩ := t
  exact h.keep k (fun hk => by have := (hK b h.lt hk).1; omega)
def mpGet (l : List (κ × Value)) (k : κ) : Option Value := (l.find? (fun p => decide (p.1 = k))).map (·.2)
def mpSet : List (κ × Value) → κ → Value → List (κ × Value)
  | [], k, v => [(k, v)]
  | p :: l, k, v => if p.1 = k then (k, v) :: l else p :: mpSet l k v
theorem findNow_get {kt : KeyT κ} (k : κ) : ∀ (es : List MapEntry) (l : List (κ × Value)) (i : Nat), es.map (fun e => (e.key, e.val)) = l.map (fun p => (kt.enc p.1, p.2)) →
    Instr.findNow kt.kk (kt.enc k) es i = some ((l.findIdx? (fun p => decide (p.1 = k))).bind fun j => (l[j]?).map fun p => (i + j, p.2))
  | [], [], i, _ => rfl
  | [], _ :: _, i, h => by cases h
  | _ :: _, [], i, h => by cases h
  | e :: es, p :: l, i, h => by
    simp only [List.map_cons, List.cons.injEq, Prod.mk.injEq] at h
    obtain ⟨⟨h1, h2⟩, h3⟩ := h
    rw [Instr.findNow, h1]
    obtain ⟨c, hc⟩ := kt.some_ k p.1
    rw [hc]
    cases c
    · have hne : ¬ p.1 = k := fun he => by
        have := (kt.same k p.1).2 he.symm
        rw [hc] at this; cases this
      have ih := findNow_get k es l (i + 1) h3
      simp only [ih, List.findIdx?_cons, decide_eq_false hne, Bool.false_eq_true, if_false]
      congr 1
      cases hq : l.findIdx? (fun p => decide (p.1 = k)) with
      | none => simp
      | some j =>
        simp only [Option.bind_some, Option.map_some, List.getElem?_cons_succ]
        congr 1
        funext q
        rw [Nat.add_assoc, Nat.add_comm 1 j]
    · have he : p.1 = k := ((kt.same k p.1).1 hc).symm
      simp [List.findIdx?_cons, he, h2]
theorem find_idx (k : κ) : ∀ (l : List (κ × Value)), ((l.findIdx? (fun p => decide (p.1 = k))).bind fun j => (l[j]?).map fun p => (0 + j, p.2)).map (·.2) = mpGet l k
  | [] => rfl
  | p :: l => by
    have ih := find_idx k l
    unfold mpGet at ih ⊢
    by_cases h : p.1 = k
    · simp [List.findIdx?_cons, h]
    · simp only [List.findIdx?_cons, decide_eq_false h, Bool.false_eq_true, if_false, List.find?_cons]
      rw [← ih]
      cases hq : l.findIdx? (fun p => decide (p.1 = k)) with
      | none => simp
      | some j => simp; cases l[j]? <;> simp
theorem run_getObj' {P : Program} {w : World} {b : Nat} {es : Array MapEntry} {c : Nat} (h : w.heap[b]? = some (Obj.map es c)) : (getObj b).run P w = .ok (Obj.map es c) w := by
  simp [getObj, Sem.run, h]
def kMap (P : Program) (T : TypeId) (kd : TypeDesc) (el : TypeId) : Prop := ∃ kt, P.underlying T = some (.map kt el) ∧ P.underlying kt = some kd
theorem run_lookup {kt : KeyT κ} {P : Program} {w : World} {T el : TypeId} {b : Nat} {l : List (κ × Value)} {k : κ} {z : Value} (hT : kMap P T kt.kk el) (hz : kZero P el z) (hm : MpB kt w b l) (ok : Bool) :
    (Instr.lookup T (.map (some b)) (kt.enc k) ok).run P w = .ok (if ok then .tuple #[(mpGet l k).getD z, .bool (mpGet l k).isSome] else (mpGet l k).getD z) w := by
  obtain ⟨kT, h1, h2⟩ := hT
  obtain ⟨es, c, h3, h4⟩ := hm
  have h5 := findNow_get (kt := kt) k es.toList l 0 h4
  have h6 := find_idx k l
  have hz' : (zeroValue el).run P w = .ok z w := by
    unfold kZero at hz
    cases hi : P.info? el with
    | none => rw [hi] at hz; cases hz
    | some i =>
      rw [hi] at hz
      simp only [Option.bind_some] at hz
      simp [zeroValue, typeInfo, hi, hz]
  simp only [Instr.lookup, Sem.run_bind, run_underlying h1, Result.andThen, run_getObj' h3]
  have hck := kt.key P w kT es.isEmpty k h2
  simp only [Sem.run_pure, Sem.run_bind, Result.andThen]
  rw [hck]
  simp only [Instr.findKey, Sem.run_bind, run_underlying h2, Result.andThen, h5]
  cases hq : (List.findIdx? (fun p => decide (p.1 = k)) l).bind fun j => Option.map (fun p => (0 + j, p.2)) l[j]? with
  | none =>
    rw [hq] at h6
    simp only [Option.map_none] at h6
    rw [← h6]
    cases ok <;> simp [hz']
  | some q =>
    rw [hq] at h6
    simp only [Option.map_some] at h6
    rw [← h6]
    cases ok <;> simp
theorem keep_setObj (w : World) (b : Nat) (o : Obj) : Keep (fun k => k = b) w { w with heap := w.heap.setIfInBounds b o } := by
  refine ⟨rfl, rfl, rfl, by simp, fun k hk hn => ?_⟩
  simp only [Array.getElem?_setIfInBounds]
  rw [if_neg (fun h => hn h.symm)]
theorem set_list {kt : KeyT κ} {k : κ} {v : Value} {clock : Nat} : ∀ (es : List MapEntry) (l : List (κ × Value)), es.map (fun e => (e.key, e.val)) = l.map (fun p => (kt.enc p.1, p.2)) →
    (match l.findIdx? (fun p => decide (p.1 = k)) with
      | some i => es.modify i fun e => { e with key := kt.enc k, val := v }
      | none => es ++ [{ key := kt.enc k, val := v, born := clock }] : List MapEntry).map (fun e => (e.key, e.val)) = (mpSet l k v).map (fun p => (kt.enc p.1, p.2))
  | [], [], _ => rfl
  | [], _ :: _, h => by cases h
  | _ :: _, [], h => by cases h
  | e :: es, p :: l, h => by
    simp only [List.map_cons, List.cons.injEq, Prod.mk.injEq] at h
    obtain ⟨⟨h1, h2⟩, h3⟩ := h
    have ih := set_list (kt := kt) (k := k) (v := v) (clock := clock) es l h3
    by_cases hp : p.1 = k
    · simp [List.findIdx?_cons, hp, mpSet, h3]
    · simp only [List.findIdx?_cons, decide_eq_false hp, Bool.false_eq_true, if_false, mpSet, hp, List.map_cons]
      rw [← ih]
      cases hq : l.findIdx? (fun p => decide (p.1 = k)) with
      | none => simp [h1, h2]
      | some j => simp [h1, h2]
theorem mpSet_key {kt : KeyT κ} {k : κ} : ∀ (es : List MapEntry) (l : List (κ × Value)) (i : Nat), es.map (fun e => (e.key, e.val)) = l.map (fun p => (kt.enc p.1, p.2)) → l.findIdx? (fun p => decide (p.1 = k)) = some i → (es[i]?).map (·.key) = some (kt.enc k)
  | [], [], i, _, h => by cases h
  | [], _ :: _, i, h, _ => by cases h
  | _ :: _, [], i, h, _ => by cases h
  | e :: es, p :: l, i, h, hi => by
    simp only [List.map_cons, List.cons.injEq, Prod.mk.injEq] at h
    obtain ⟨⟨h1, h2⟩, h3⟩ := h
    by_cases hp : p.1 = k
    · simp [List.findIdx?_cons, hp] at hi
      subst hi
      simp [h1, hp]
    · simp only [List.findIdx?_cons, decide_eq_false hp, Bool.false_eq_true, if_false] at hi
      cases hq : l.findIdx? (fun p => decide (p.1 = k)) with
      | none => rw [hq] at hi; cases hi
      | some j =>
        rw [hq] at hi
        cases hi
        simpa using mpSet_key es l j h3 hq
theorem run_mapUpdate {kt : KeyT κ} {P : Program} {w : World} {T el : TypeId} {b : Nat} {l : List (κ × Value)} {k : κ} {v : Value} (hT : kMap P T kt.kk el) (hm : MpB kt w b l) :
    ∃ w', (Instr.mapUpdate T (.map (some b)) (kt.enc k) v).run P w = .ok () w' ∧ MpB kt w' b (mpSet l k v) ∧ Keep (fun i => i = b) w w' ∧ w'.heap.size = w.heap.size := by
  have hlt := hm.lt
  obtain ⟨kT, h1, h2⟩ := hT
  obtain ⟨es, c, h3, h4⟩ := hm
  have h5 := findNow_get (kt := kt) k es.toList l 0 h4
  have h6 := set_list (kt := kt) (k := k) (v := v) (clock := c) es.toList l h4
  simp only [Instr.mapUpdate, Sem.run_bind, run_underlying h1, Result.andThen, run_getObj' h3, kt.key P w kT false k h2]
  simp only [Instr.findKey, Sem.run_bind, run_underlying h2, Result.andThen, h5]
  cases hq : l.findIdx? (fun p => decide (p.1 = k)) with
  | none =>
    rw [hq] at h6
    simp only [Option.bind_none]
    refine ⟨{ w with heap := w.heap.setIfInBounds b (Obj.map (es.push { key := kt.enc k, val := v, born := c }) (c + 1)) }, ?_, ⟨es.push { key := kt.enc k, val := v, born := c }, c + 1, ?_, ?_⟩, keep_setObj _ _ _, by simp⟩
    · have hw : w.heap[b] = Obj.map es c := by
        have h9 := h3
        rw [Array.getElem?_eq_getElem hlt] at h9
        exact Option.some.inj h9
      simp [setObj, Sem.run, hlt, hw]
    · simp [Array.getElem?_setIfInBounds, hlt]
    · simpa using h6
  | some i =>
    rw [hq] at h6
    have hil : i < l.length := (List.findIdx?_eq_some_iff_getElem.1 hq).1
    have hk := mpSet_key (kt := kt) es.toList l i h4 hq
    have hk2 : ((es[i]?).map (·.key)).getD (kt.enc k) = kt.enc k := by
      rw [Array.getElem?_toList] at hk
      rw [hk]; rfl
    obtain ⟨p, hp⟩ : ∃ p, l[i]? = some p := ⟨_, List.getElem?_eq_getElem hil⟩
    simp only [Option.bind_some, hp, Option.map_some, Nat.zero_add]
    refine ⟨{ w with heap := w.heap.setIfInBounds b (Obj.map (es.modify i fun e => { e with key := kt.enc k, val := v }) c) }, ?_, ⟨es.modify i fun e => { e with key := kt.enc k, val := v }, c, ?_, ?_⟩, keep_setObj _ _ _, by simp⟩
    · have hw : w.heap[b] = Obj.map es c := by
        have h9 := h3
        rw [Array.getElem?_eq_getElem hlt] at h9
        exact Option.some.inj h9
      simp [Instr.keyThatStays, hk2, kt.bits, setObj, Sem.run, hlt, hw]
    · simp [Array.getElem?_setIfInBounds, hlt]
    · simpa using h6
section
variable {P : Program} {d : Option Tmp} {ty : TypeId} {p : String} {af : Array Edge} {g : Option (Nat × Bool)} {e : Nat → Value} {w : World} {x y c : Operand} {K : Value → World → Prop}
theorem v_lookup {T el : TypeId} {b : Nat} {l : List (κ × Value)} {k : κ} {z kv : Value} (kt : KeyT κ) (hT : kMap P T kt.kk el) (hz : kZero P el z) (hx : ev e x = .map (some b)) (hy : ev e y = kv) (hk : kv = kt.enc k) (hm : MpB kt w b l) : OpVat P ⟨d, .lookup T x y false, ty, p, af, g⟩ e w ((mpGet l k).getD z) := by
  subst hk
  simp [OpVat, execOp, hx, hy, run_lookup (k := k) hT hz hm]
theorem v_lookup2 {T el : TypeId} {b : Nat} {l : List (κ × Value)} {k : κ} {z kv : Value} (kt : KeyT κ) (hT : kMap P T kt.kk el) (hz : kZero P el z) (hx : ev e x = .map (some b)) (hy : ev e y = kv) (hk : kv = kt.enc k) (hm : MpB kt w b l) : OpVat P ⟨d, .lookup T x y true, ty, p, af, g⟩ e w (.tuple #[(mpGet l k).getD z, .bool (mpGet l k).isSome]) := by
  subst hk
  simp [OpVat, execOp, hx, hy, run_lookup (k := k) hT hz hm]
theorem v_lookupE {T el : TypeId} {b : Nat} {l : List (κ × Value)} {k : κ} {z kv v : Value} (kt : KeyT κ) (hT : kMap P T kt.kk el) (hz : kZero P el z) (hx : ev e x = .map (some b)) (hy : ev e y = kv) (hk : kv = kt.enc k) (hm : MpB kt w b l) (hv : (mpGet l k).getD z = v) : OpVat P ⟨d, .lookup T x y false, ty, p, af, g⟩ e w v := hv ▸ v_lookup kt hT hz hx hy hk hm
theorem v_lookup2E {T el : TypeId} {b : Nat} {l : List (κ × Value)} {k : κ} {z kv v : Value} {is : Bool} (kt : KeyT κ) (hT : kMap P T kt.kk el) (hz : kZero P el z) (hx : ev e x = .map (some b)) (hy : ev e y = kv) (hk : kv = kt.enc k) (hm : MpB kt w b l) (hv : (mpGet l k).getD z = v) (hi : (mpGet l k).isSome = is) : OpVat P ⟨d, .lookup T x y true, ty, p, af, g⟩ e w (.tuple #[v, .bool is]) := hv ▸ hi ▸ v_lookup2 kt hT hz hx hy hk hm
theorem to_mapUpdate {T el : TypeId} {b : Nat} {l : List (κ × Value)} {k : κ} {v kv : Value} (kt : KeyT κ) (hT : kMap P T kt.kk el) (hx : ev e x = .map (some b)) (hy : ev e y = kv) (hk : kv = kt.enc k) (hv : ev e c = v) (hm : MpB kt w b l) (r : ∀ w', MpB kt w' b (mpSet l k v) → Keep (fun i => i = b) w w' → w'.heap.size = w.heap.size → K undef w') : OpTo P ⟨d, .mapUpdate T x y c, ty, p, af, g⟩ e w K := by
  subst hk
  obtain ⟨w', h1, h2, h3, h4⟩ := run_mapUpdate (k := k) (v := v) hT hm
  have hrun : (execOp (ev e) ⟨d, .mapUpdate T x y c, ty, p, af, g⟩).run P w = .ok .skip w' := by
    simp [execOp, hx, hy, hv, h1]
  unfold OpTo
  rw [hrun]
  exact r w' h2 h3 h4
theorem to_insert {T el : TypeId} {b : Nat} {l : List (κ × Value)} {k : κ} {v kv : Value} (kt : KeyT κ) (hT : kMap P T kt.kk el) (hx : ev e x = .map (some b)) (hy : ev e y = kv) (hk : kv = kt.enc k) (hv : ev e c = v) (hm : MpB kt w b l) (r : ∀ w', MpB kt w' b (mpSet l k v) → Keep (fun i => i = b) w w' → w'.heap.size = w.heap.size → K undef w') : OpTo P ⟨d, .insert T x y c, ty, p, af, g⟩ e w K := by
  subst hk
  obtain ⟨w', h1, h2, h3, h4⟩ := run_mapUpdate (k := k) (v := v) hT hm
  have hrun : (execOp (ev e) ⟨d, .insert T x y c, ty, p, af, g⟩).run P w = .ok .skip w' := by
    simp [execOp, hx, hy, hv, h1]
  unfold OpTo
  rw [hrun]
  exact r w' h2 h3 h4
theorem to_makeMap {T : TypeId} (kt : KeyT κ) (r : ∀ b w', b = w.heap.size → MpB kt w' b [] → Ext w w' → w'.heap.size = b + 1 → K (.map (some b)) w') : OpTo P ⟨d, .makeMap T none, ty, p, af, g⟩ e w K := by
  have hrun : (execOp (ev e) ⟨d, .makeMap T none, ty, p, af, g⟩).run P w = .ok (.value (.map (some w.heap.size))) (w.alloc (.map #[] 0)) := by
    simp [execOp, Instr.makeMap, newObj, Sem.run]
  unfold OpTo
  rw [hrun]
  exact r _ _ rfl ⟨#[], 0, heap_alloc_new w _, rfl⟩ (Ext.alloc w _) (by simp)
end
end
end Go.Vc

namespace Go.Vc
set_option linter.unusedVariables false
set_option linter.unusedSimpArgs false
section
variable {P : Program} {N : Nat} {fn : Func} {e : Nat → Value} {w : World} {R : Value → World → Prop} {v2 v3 : Value}
end
end Go.Vc

namespace Go.Vc
set_option linter.unusedVariables false
set_option linter.unusedSimpArgs false
end Go.Vc
