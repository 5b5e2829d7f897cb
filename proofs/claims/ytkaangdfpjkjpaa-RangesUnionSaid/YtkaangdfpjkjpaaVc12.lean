/- A part of the proof: steps and lemmas for the walks through the given program. -/
import Derived.Test.YtkaangdfpjkjpaaVc11
import Derived.ProofKit
import Derived.OpenShut
import Derived.ShutString
import Derived.ChangeOld
import Derived.Below
namespace Go.Vc
set_option linter.unusedVariables false
set_option linter.unusedSimpArgs false
open Go.ChangeShapes Go.WideShapes Go.ChangeAt Go.RowKit

/-- whatever is read as a value of type T lies in its cells as t says -/
def Opens (P : Program) (T : TypeId) {α : Type} (t : Ty α) : Prop := ∀ {H : Type} (enc : TypeId × Value → H) (w : World) (base : Nat) (spare : Nat → Bool) (held : Bool) (fuel : Nat) (cs : List Value) (d : DataW H) (ps : List MemPlace),
  DataW.trod enc P w base spare held fuel T cs = some (d, ps) → ∃ x, t.rep w (fun b => b < w.heap.size) cs x

theorem opens_int {P : Program} {T : TypeId} {k : IntKind} (hu : P.underlying T = some (.int k)) : Opens P T (tInt k) := by
  intro H enc w base spare held fuel cs d ps h
  obtain ⟨n, rfl, _, hw⟩ := DataW.trod_int hu h
  exact ⟨n, rfl, hw⟩
theorem opens_bool {P : Program} {T : TypeId} (hu : P.underlying T = some .bool) : Opens P T tBool := by
  intro H enc w base spare held fuel cs d ps h
  obtain ⟨n, rfl, _⟩ := DataW.trod_bool hu h
  exact ⟨n, rfl⟩
theorem opens_u8 {P : Program} {T : TypeId} (hu : P.underlying T = some (.int .u8)) : Opens P T tU8 := by
  intro H enc w base spare held fuel cs d ps h
  obtain ⟨n, rfl, _, hw⟩ := DataW.trod_int hu h
  simp [Lit.wf, IntKind.min, IntKind.max, IntKind.signed, IntKind.bits] at hw
  refine ⟨UInt8.ofNat n.toNat, ?_⟩
  show [Value.int .u8 n] = [Value.int .u8 ((UInt8.ofNat n.toNat).toNat : Int)]
  have : ((UInt8.ofNat n.toNat).toNat : Int) = n := by
    simp [UInt8.toNat_ofNat']; omega
  rw [this]
theorem opens_map {P : Program} {T : TypeId} {α β : Type} {t : Ty α} {f : β → α} (g : α → β) (h : Opens P T t) (hfg : ∀ x, f (g x) = x) : Opens P T (tMap t f) := by
  intro H enc w base spare held fuel cs d ps h1
  obtain ⟨x, hx⟩ := h enc w base spare held fuel cs d ps h1
  exact ⟨g x, by show t.rep _ _ _ (f (g x)); rw [hfg]; exact hx⟩
theorem opens_slice {P : Program} {T E : TypeId} {α : Type} {t : Ty α} (hu : P.underlying T = some (.slice E)) (hz : P.cellsOf E = t.sz) (h : Opens P E t) : Opens P T (tSl t) := by
  intro H enc w base spare held fuel cs d ps h1
  rcases DataW.trod_slice hu h1 with ⟨rfl, _⟩ | ⟨a, len, cap, elems, rest, n, rfl, rfl, _, hb, hl, hc, hlen, hel, _⟩
  · exact ⟨[], _, rfl, SlV.nil _ _ _⟩
  · have key : ∀ i, i < len → ∃ x : α, ∃ cs, Pv w (a.add (i * t.sz)) cs ∧ t.rep w (fun b => b < w.heap.size) cs x := by
      intro i hi
      have h2 := hel i hi
      have h3 : elems[i]? = some elems[i] := by simp [hlen, hi]
      rw [h3] at h2
      obtain ⟨c1, hc1, hc2⟩ := Option.bind_eq_some_iff.1 h2
      obtain ⟨x, hx⟩ := h enc w base spare held n c1 _ _ hc2
      obtain ⟨_, hl1, hc3⟩ := World.cells?_some hc1
      refine ⟨x, c1, fun j u hu => ?_, hx⟩
      have hj : j < P.cellsOf E := by rw [← hl1]; exact (List.getElem?_eq_some_iff.1 hu).1
      rw [← hz, hc3 j hj]; exact hu
    let xs : List α := List.ofFn fun i : Fin len => (key i.1 i.2).choose
    have hxl : xs.length = len := by simp [xs]
    refine ⟨xs, _, rfl, some a, cap, by rw [hxl], by omega, hc, by simp, fun i x hx => ?_⟩
    have hi : i < len := by rw [← hxl]; exact (List.getElem?_eq_some_iff.1 hx).1
    have hxi : x = (key i hi).choose := by
      simp only [xs, List.getElem?_ofFn, hi, dif_pos] at hx
      exact (Option.some.inj hx).symm
    obtain ⟨c1, hp, hr⟩ := (key i hi).choose_spec
    rw [← hxi] at hr
    have hlt := rep_lt hp hr
    rw [add_block] at hlt
    exact ⟨a, c1, rfl, hlt, hp, hr⟩

/-- fields from a place on -/
def OpensL (P : Program) (fs : List (TypeId × Nat)) (off : Nat) {α : Type} (t : Ty α) : Prop := ∀ {H : Type} (enc : TypeId × Value → H) (w : World) (base : Nat) (spare : Nat → Bool) (held : Bool) (fuel : Nat) (cs : List Value),
  cs.length = off + t.sz → (∀ f ∈ fs, ∃ y, DataW.trod enc P w base spare held fuel f.1 ((cs.drop f.2).take (P.cellsOf f.1)) = some y) → ∃ x, t.rep w (fun b => b < w.heap.size) (cs.drop off) x
theorem opens_last {P : Program} {T : TypeId} {off : Nat} {α : Type} {t : Ty α} (hz : P.cellsOf T = t.sz) (h : Opens P T t) : OpensL P [(T, off)] off t := by
  intro H enc w base spare held fuel cs hl hf
  obtain ⟨y, hy⟩ := hf _ (List.mem_singleton.2 rfl)
  rw [List.take_of_length_le (by simp [hl, hz])] at hy
  exact h enc w base spare held fuel _ y.1 y.2 hy
theorem opens_next {P : Program} {T : TypeId} {off : Nat} {fs : List (TypeId × Nat)} {α β : Type} {s : Ty α} {t : Ty β} (hz : P.cellsOf T = s.sz) (h : Opens P T s) (h2 : OpensL P fs (off + s.sz) t) : OpensL P ((T, off) :: fs) off (tPair s t) := by
  intro H enc w base spare held fuel cs hl hf
  obtain ⟨y, hy⟩ := hf _ List.mem_cons_self
  obtain ⟨x, hx⟩ := h enc w base spare held fuel _ y.1 y.2 hy
  obtain ⟨z, hzz⟩ := h2 enc w base spare held fuel cs (by rw [hl]; show off + (s.sz + t.sz) = _; omega) (fun f hm => hf f (List.mem_cons_of_mem _ hm))
  refine ⟨(x, z), _, _, ?_, hx, hzz⟩
  simp only [hz]
  rw [← List.drop_drop]
  exact (List.take_append_drop _ _).symm
theorem opens_struct {P : Program} {T : TypeId} {fs : Array Field} {l : List (TypeId × Nat)} {α : Type} {t : Ty α} (hu : P.underlying T = some (.struct fs)) (hf : fs.toList.map (fun f => (f.type, f.offset)) = l) (hz : P.cellsOf T = t.sz) (h : OpensL P l 0 t) : Opens P T t := by
  intro H enc w base spare held fuel cs d ps h1
  obtain ⟨xs, n, rfl, _, hl, hxl, hx⟩ := DataW.trod_struct hu h1
  obtain ⟨x, hr⟩ := h enc w base spare held n cs (by rw [hl, hz]; omega) (fun f hm => by
    subst hf
    obtain ⟨g, hg, rfl⟩ := List.mem_map.1 hm
    obtain ⟨i, hi, rfl⟩ := List.mem_iff_getElem.1 hg
    have hi' : i < fs.size := by simpa using hi
    have := hx i fs[i] (by simp [hi'])
    have h3 : xs[i]? = some (xs[i]'(by omega)) := by simp [hxl, hi']
    exact ⟨_, by rw [h3] at this; simpa using this⟩)
  exact ⟨x, by simpa using hr⟩
theorem opens_array2 {P : Program} {T E : TypeId} {α : Type} {t : Ty α} (hu : P.underlying T = some (.array 2 E)) (hz : P.cellsOf T = (tPair t t).sz) (hz2 : P.cellsOf E = t.sz) (h : Opens P E t) : Opens P T (tPair t t) := by
  intro H enc w base spare held fuel cs d ps h1
  obtain ⟨xs, n, rfl, _, hl, hxl, hx⟩ := DataW.trod_array hu h1
  have h0 : OpensL P [(E, 0), (E, 0 + t.sz)] 0 (tPair t t) := opens_next hz2 h (opens_last hz2 h)
  obtain ⟨x, hr⟩ := h0 enc w base spare held n cs (by rw [hl, hz]; omega) (fun f hm => by
    have g : ∀ i, i < 2 → ∃ y, DataW.trod enc P w base spare held n E ((cs.drop (i * P.cellsOf E)).take (P.cellsOf E)) = some y := by
      intro i hi
      have := hx i hi
      have h3 : xs[i]? = some (xs[i]'(by omega)) := by simp [hxl, hi]
      exact ⟨_, by rw [h3] at this; exact this⟩
    rcases List.mem_cons.1 hm with rfl | hm
    · simpa using g 0 (by omega)
    · rw [List.mem_singleton.1 hm]
      have := g 1 (by omega)
      simpa [hz2] using this)
  exact ⟨x, by simpa using hr⟩

/-- an argument -/
theorem opens_arg {P : Program} {T : TypeId} {α : Type} {t : Ty α} (h : Opens P T t) {H : Type} {enc : TypeId × Value → H} {w : World} {base : Nat} {spare : Nat → Bool} {held : Bool} {v : Value} {d : DataW H} {ps : List MemPlace} (k : DataW.Trod enc P w base spare held T v d ps) :
    ∃ x, t.rep w (fun b => b < w.heap.size) v.cells.toList x := by
  obtain ⟨n, hn⟩ := k
  exact h enc w base spare held n _ d ps hn
theorem trod_lt1 {P : Program} {T : TypeId} {H : Type} {enc : TypeId × Value → H} {w : World} {base : Nat} {spare : Nat → Bool} {held : Bool} {v : Value} {d : DataW H} {ps : List MemPlace} (k : DataW.Trod enc P w base spare held T v d ps) : ∀ x ∈ ps, x.block < w.heap.size := by
  obtain ⟨m, hm⟩ := k; exact DataW.trod_lt m _ _ _ hm
theorem arg_slice {P : Program} {T E : TypeId} {α : Type} {t : Ty α} {w w' : World} {F : Nat → Prop} {r : Reach} {base : Nat} {v : Value} {xs : List α} (hu : P.underlying T = some (.slice E)) (ho : Value.okWide P w' r base T v) (h : (tSl t).rep w F v.cells.toList xs) : SlV t w F v xs := by
  obtain ⟨a, l, c, rfl⟩ := okWide_slice hu ho
  obtain ⟨u, hu, h⟩ := h
  simp [Value.cells] at hu
  subst hu
  exact h
theorem wf_i64 {n : Int} (h : (Lit.int .i64 n).wf = true) : -9223372036854775808 ≤ n ∧ n ≤ 9223372036854775807 := by
  simp [Lit.wf, IntKind.min, IntKind.max, IntKind.signed, IntKind.bits] at h; omega
theorem wf_u64 {n : Int} (h : (Lit.int .u64 n).wf = true) : 0 ≤ n ∧ n ≤ 18446744073709551615 := by
  simp [Lit.wf, IntKind.min, IntKind.max, IntKind.signed, IntKind.bits] at h; omega
theorem wf_u8 {n : Int} (h : (Lit.int .u8 n).wf = true) : 0 ≤ n ∧ n ≤ 255 := by
  simp [Lit.wf, IntKind.min, IntKind.max, IntKind.signed, IntKind.bits] at h; omega
end Go.Vc
