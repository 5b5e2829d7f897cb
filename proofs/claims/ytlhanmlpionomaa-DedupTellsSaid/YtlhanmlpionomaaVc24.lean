/- A part of the proof: steps and lemmas for the walks through the given program. -/
import Derived.Test.YtlhanmlpionomaaGb
import Derived.Test.YtlhanmlpionomaaGe
import Derived.SizedLaws
namespace Go.Vc
set_option linter.unusedVariables false
set_option linter.unusedSimpArgs false
open Go.ChangeShapes Go.WideShapes Go.ChangeAt Go.RowKit
/-! ### lengths within the form's reach -/
theorem len_reach {P : Program} {T E : TypeId} {H : Type} {enc : TypeId × Value → H} {w : World} {base : Nat} {spare : Nat → Bool} {held : Bool} {fuel : Nat} {a : Option Addr} {n c : Nat} {y : DataW H × List MemPlace}
    (hu : P.underlying T = some (.slice E)) (hb : P.bytesOf E = 1) (h : DataW.trod enc P w base spare held fuel T [.slice a n c] = some y) (hr : ∀ m ∈ y.1.weights P T, m ≤ reachBytes) : n ≤ reachBytes := by
  rcases DataW.trod_slice hu h with ⟨he, _⟩ | ⟨q, len, cap, elems, rest, k, _, he, rfl, _, _, _, hlen, _⟩
  · simp only [List.cons.injEq, Value.slice.injEq, and_true] at he
    omega
  · simp only [List.cons.injEq, Value.slice.injEq, and_true] at he
    have := hr ((elems.length + rest.length) * P.bytesOf E) (by simp [DataW.weights, hu])
    rw [hb] at this
    omega
theorem rg_reach {P : Program} {T B Bo I E : TypeId} {fs : Array Field} {H : Type} {enc : TypeId × Value → H} {w w' : World} {base : Nat} {spare : Nat → Bool} {held : Bool} {F : Nat → Prop} {x : RgV} {v : Value} {d : DataW H} {ps : List MemPlace}
    (hu : P.underlying T = some (.struct fs)) (hf : fs.toList.map (fun f => (f.type, f.offset)) = [(B, 0), (B, 1), (Bo, 2), (I, 3)]) (hB : P.underlying B = some (.slice E)) (hc : P.cellsOf B = 1) (hE : P.bytesOf E = 1)
    (k : DataW.Trod enc P w base spare held T v d ps) (hr : ∀ n ∈ d.weights P T, n ≤ reachBytes) (hx : tRg.rep w' F v.cells.toList x) : x.1.length ≤ 140737488355328 ∧ x.2.1.length ≤ 140737488355328 := by
  obtain ⟨n, hn⟩ := k
  obtain ⟨a1, c1, a2, c2, hcs, _, _, _⟩ := tRg_cells hx
  obtain ⟨xs, m, _, hd, _, hxl, hh⟩ := DataW.trod_struct hu hn
  have hd1 : d = .agg (xs.map (·.1)) := congrArg Prod.fst hd
  subst hd1
  have hsz : fs.size = 4 := by have := congrArg List.length hf; simpa using this
  have hty : fs.toList.map (·.type) = [B, B, Bo, I] := by
    have := congrArg (List.map Prod.fst) hf
    simpa [List.map_map, Function.comp_def] using this
  have key : ∀ i, i < 2 → ∀ a l c, (v.cells.toList.drop i).take 1 = [.slice a l c] → l ≤ reachBytes := by
    intro i hi a l c he
    have hfi : fs[i]? = some (fs[i]'(by omega)) := by simp [hsz]
    have hp : ((fs[i]'(by omega)).type, (fs[i]'(by omega)).offset) = (B, i) := by
      have h1 : (fs.toList.map (fun f => (f.type, f.offset)))[i]? = some ((fs[i]'(by omega)).type, (fs[i]'(by omega)).offset) := by
        rw [List.getElem?_map, Array.getElem?_toList, hfi]; rfl
      rw [hf] at h1
      match i, hi, h1 with
      | 0, _, h1 => exact (Option.some.inj h1).symm
      | 1, _, h1 => exact (Option.some.inj h1).symm
    have h2 := hh i _ hfi
    rw [(Prod.mk.inj hp).1, (Prod.mk.inj hp).2, hc, he] at h2
    have h3 : xs[i]? = some (xs[i]'(by omega)) := by simp [hxl, hsz]
    rw [h3] at h2
    refine len_reach hB hE h2 fun q hq => hr q ?_
    simp only [DataW.weights, hu]
    refine DataW.weights_mem_each (j := i) (t := B) ?_ (d := (xs[i]'(by omega)).1) ?_ q hq
    · rw [hty]
      match i, hi with
      | 0, _ => rfl
      | 1, _ => rfl
    · rw [List.getElem?_map, h3]; rfl
  have hlt := reachBytes_lt
  have h1 := key 0 (by omega) a1 x.1.length c1 (by rw [hcs]; rfl)
  have h2 := key 1 (by omega) a2 x.2.1.length c2 (by rw [hcs]; rfl)
  omega
end Go.Vc
