/- A part of the proof: steps and lemmas for the walks through the given program. -/
import Derived.Test.YteehplloacefmaaGb
import Derived.Test.YteehplloacefmaaVc24
namespace Go.Vc
set_option linter.unusedVariables false
set_option linter.unusedSimpArgs false
open Go.ChangeShapes Go.WideShapes Go.ChangeAt Go.RowKit
/-- a type's values of which something more is known -/
def tWith {α : Type} (t : Ty α) (R : α → Prop) : Ty α where
  sz := t.sz
  pos := t.pos
  rep := fun w F cs x => t.rep w F cs x ∧ R x
  len := fun h => t.len h.1
  one := fun h => t.one h.1
  keep := fun h k hk => ⟨t.keep h.1 k hk, h.2⟩
  mono := fun h hf => ⟨t.mono h.1 hf, h.2⟩
/-- whatever is read as a value of type T, its lengths within the form's reach, lies in its cells as t says -/
def OpensR (P : Program) (T : TypeId) {α : Type} (t : Ty α) : Prop := ∀ {H : Type} (enc : TypeId × Value → H) (w : World) (base : Nat) (spare : Nat → Bool) (held : Bool) (fuel : Nat) (cs : List Value) (d : DataW H) (ps : List MemPlace),
  DataW.trod enc P w base spare held fuel T cs = some (d, ps) → (∀ n ∈ d.weights P T, n ≤ reachBytes) → ∃ x, t.rep w (fun b => b < w.heap.size) cs x
theorem opensR_of {P : Program} {T : TypeId} {α : Type} {t : Ty α} (h : Opens P T t) : OpensR P T t := fun enc w base spare held fuel cs d ps h1 _ => h enc w base spare held fuel cs d ps h1
theorem weights_all_mem {H : Type} {P : Program} {e : TypeId} : ∀ {ds : List (DataW H)} {i : Nat} {d : DataW H}, ds[i]? = some d → ∀ n ∈ d.weights P e, n ∈ DataW.weightsAll P e ds
  | d0 :: ds, 0, d, hd, n, hn => by
    simp only [List.getElem?_cons_zero, Option.some.injEq] at hd
    subst hd
    simp only [DataW.weightsAll, List.mem_append]; exact Or.inl hn
  | d0 :: ds, i + 1, d, hd, n, hn => by
    simp only [List.getElem?_cons_succ] at hd
    simp only [DataW.weightsAll, List.mem_append]; exact Or.inr (weights_all_mem hd n hn)
  | [], i, d, hd, n, hn => by simp at hd
theorem opensR_slice {P : Program} {T E : TypeId} {α : Type} {t : Ty α} (hu : P.underlying T = some (.slice E)) (hz : P.cellsOf E = t.sz) (h : OpensR P E t) : OpensR P T (tSl t) := by
  intro H enc w base spare held fuel cs d ps h1 hr
  rcases DataW.trod_slice hu h1 with ⟨rfl, _⟩ | ⟨a, len, cap, elems, rest, n, rfl, rfl, hd, hb, hl, hc, hlen, hel, _⟩
  · exact ⟨[], _, rfl, SlV.nil _ _ _⟩
  · have hd1 : d = .slice (elems.map (·.1)) (rest.map (·.1)) := congrArg Prod.fst hd
    subst hd1
    have key : ∀ i, i < len → ∃ x : α, ∃ cs, Pv w (a.add (i * t.sz)) cs ∧ t.rep w (fun b => b < w.heap.size) cs x := by
      intro i hi
      have h2 := hel i hi
      have h3 : elems[i]? = some (elems[i]'zo) := by simp [hlen, hi]
      rw [h3] at h2
      obtain ⟨c1, hc1, hc2⟩ := Option.bind_eq_some_iff.1 h2
      obtain ⟨x, hx⟩ := h enc w base spare held n c1 _ _ hc2 fun q hq => hr q (by
        simp only [DataW.weights, hu, List.mem_cons, List.mem_append]
        exact .inr (.inl (weights_all_mem (i := i) (d := (elems[i]'zo).1) (by rw [List.getElem?_map, h3]; rfl) q hq)))
      obtain ⟨_, hl1, hc3⟩ := World.cells?_some hc1
      refine ⟨x, c1, fun j u hu => ?_, hx⟩
      have hj : j < P.cellsOf E := by rw [← hl1]; exact (List.getElem?_eq_some_iff.1 hu).1
      rw [← hz, hc3 j hj]; exact hu
    let xs : List α := List.ofFn fun i : Fin len => (key i.1 i.2).choose
    have hxl : xs.length = len := by simp [xs]
    refine ⟨xs, _, rfl, some a, cap, by rw [hxl], by omega, hc, by simp, fun i x hx => ?_⟩
    have hi : i < len := by rw [← hxl]; exact (List.getElem?_eq_some_iff.1 hx).1
    have hxi : x = (key i hi).choose := by
      simp only [xs, List.getElem?_ofFn, hi, dif_pos] at hx
      exact (Option.some.inj hx).symm
    obtain ⟨c1, hp, hr2⟩ := (key i hi).choose_spec
    rw [← hxi] at hr2
    have hlt := rep_lt hp hr2
    rw [add_block] at hlt
    exact ⟨a, c1, rfl, hlt, hp, hr2⟩
/-- fields from a place on -/
def OpensRL (P : Program) (fs : List (TypeId × Nat)) (off : Nat) {α : Type} (t : Ty α) : Prop := ∀ {H : Type} (enc : TypeId × Value → H) (w : World) (base : Nat) (spare : Nat → Bool) (held : Bool) (fuel : Nat) (cs : List Value),
  cs.length = off + t.sz → (∀ f ∈ fs, ∃ y, DataW.trod enc P w base spare held fuel f.1 ((cs.drop f.2).take (P.cellsOf f.1)) = some y ∧ ∀ n ∈ y.1.weights P f.1, n ≤ reachBytes) → ∃ x, t.rep w (fun b => b < w.heap.size) (cs.drop off) x
theorem opensR_last {P : Program} {T : TypeId} {off : Nat} {α : Type} {t : Ty α} (hz : P.cellsOf T = t.sz) (h : OpensR P T t) : OpensRL P [(T, off)] off t := by
  intro H enc w base spare held fuel cs hl hf
  obtain ⟨y, hy, hr⟩ := hf _ (List.mem_singleton.2 rfl)
  rw [List.take_of_length_le (by simp [hl, hz])] at hy
  exact h enc w base spare held fuel _ y.1 y.2 hy hr
theorem opensR_next {P : Program} {T : TypeId} {off : Nat} {fs : List (TypeId × Nat)} {α β : Type} {s : Ty α} {t : Ty β} (hz : P.cellsOf T = s.sz) (h : OpensR P T s) (h2 : OpensRL P fs (off + s.sz) t) : OpensRL P ((T, off) :: fs) off (tPair s t) := by
  intro H enc w base spare held fuel cs hl hf
  obtain ⟨y, hy, hr⟩ := hf _ List.mem_cons_self
  obtain ⟨x, hx⟩ := h enc w base spare held fuel _ y.1 y.2 hy hr
  obtain ⟨z, hzz⟩ := h2 enc w base spare held fuel cs (by rw [hl]; show off + (s.sz + t.sz) = _; omega) (fun f hm => hf f (List.mem_cons_of_mem _ hm))
  refine ⟨(x, z), _, _, ?_, hx, hzz⟩
  simp only [hz]
  rw [← List.drop_drop]
  exact (List.take_append_drop _ _).symm
theorem opensR_struct {P : Program} {T : TypeId} {fs : Array Field} {l : List (TypeId × Nat)} {α : Type} {t : Ty α} (hu : P.underlying T = some (.struct fs)) (hf : fs.toList.map (fun f => (f.type, f.offset)) = l) (hz : P.cellsOf T = t.sz) (h : OpensRL P l 0 t) : OpensR P T t := by
  intro H enc w base spare held fuel cs d ps h1 hr
  obtain ⟨xs, n, rfl, hd, hl, hxl, hx⟩ := DataW.trod_struct hu h1
  have hd1 : d = .agg (xs.map (·.1)) := congrArg Prod.fst hd
  subst hd1
  obtain ⟨x, hr⟩ := h enc w base spare held n cs (by rw [hl, hz]; omega) (fun f hm => by
    subst hf
    obtain ⟨g, hg, rfl⟩ := List.mem_map.1 hm
    obtain ⟨i, hi, rfl⟩ := List.mem_iff_getElem.1 hg
    have hi' : i < fs.size := by simpa using hi
    have := hx i fs[i] (by simp [hi'])
    have h3 : xs[i]? = some (xs[i]'zo) := by simp [hxl, hi']
    refine ⟨_, by rw [h3] at this; simpa using this, fun q hq => hr q ?_⟩
    simp only [DataW.weights, hu]
    refine DataW.weights_mem_each (j := i) (t := fs.toList[i].type) ?_ (d := (xs[i]'zo).1) ?_ q hq
    · rw [List.getElem?_map, List.getElem?_eq_getElem hi]; rfl
    · rw [List.getElem?_map, h3]; rfl)
  exact ⟨x, by simpa using hr⟩
theorem opensR_arg {P : Program} {T : TypeId} {α : Type} {t : Ty α} (h : OpensR P T t) {H : Type} {enc : TypeId × Value → H} {w : World} {base : Nat} {spare : Nat → Bool} {held : Bool} {v : Value} {d : DataW H} {ps : List MemPlace} (k : DataW.Trod enc P w base spare held T v d ps) (hr : ∀ n ∈ d.weights P T, n ≤ reachBytes) :
    ∃ x, t.rep w (fun b => b < w.heap.size) v.cells.toList x := by
  obtain ⟨n, hn⟩ := k
  exact h enc w base spare held n _ d ps hn hr
end Go.Vc
