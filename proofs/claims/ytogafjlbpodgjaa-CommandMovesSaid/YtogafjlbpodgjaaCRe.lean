/- A part of the proof: steps and lemmas for the walks through the given program. -/
import Derived.Test.YtogafjlbpodgjaaVc24
import Derived.Test.YtogafjlbpodgjaaCz
namespace Go.Vc
set_option linter.unusedVariables false
set_option linter.unusedSimpArgs false
open Go.ChangeShapes Go.WideShapes Go.ChangeAt Go.RowKit
/-! ### a move's lengths within the form's reach -/
theorem mv_reach {P : Program} {T N B Bo I E : TypeId} {fs : Array Field} {H : Type} {enc : TypeId × Value → H} {w w' : World} {base : Nat} {spare : Nat → Bool} {held : Bool} {F : Nat → Prop} {x : MvV} {v : Value} {d : DataW H} {ps : List MemPlace}
    (hu : P.underlying T = some (.struct fs)) (hf : fs.toList.map (fun f => (f.type, f.offset)) = [(N, 0), (B, 1), (B, 2), (Bo, 3), (I, 4), (I, 5)]) (hB : P.underlying B = some (.slice E)) (hc : P.cellsOf B = 1) (hE : P.bytesOf E = 1)
    (k : DataW.Trod enc P w base spare held T v d ps) (hr : ∀ n ∈ d.weights P T, n ≤ reachBytes) (hx : tMv.rep w' F v.cells.toList x) : x.2.1.length ≤ 140737488355328 ∧ x.2.2.1.length ≤ 140737488355328 := by
  obtain ⟨n, hn⟩ := k
  obtain ⟨a1, c1, a2, c2, hcs, _, _, _⟩ := tMv_cells hx
  obtain ⟨xs, m, _, hd, _, hxl, hh⟩ := DataW.trod_struct hu hn
  have hd1 : d = .agg (xs.map (·.1)) := congrArg Prod.fst hd
  subst hd1
  have hsz : fs.size = 6 := by have := congrArg List.length hf; simpa using this
  have hty : fs.toList.map (·.type) = [N, B, B, Bo, I, I] := by
    have := congrArg (List.map Prod.fst) hf
    simpa [List.map_map, Function.comp_def] using this
  have key : ∀ i, 1 ≤ i → i < 3 → ∀ a l c, (v.cells.toList.drop i).take 1 = [.slice a l c] → l ≤ reachBytes := by
    intro i hi0 hi a l c he
    have hfi : fs[i]? = some (fs[i]'(by omega)) := by rw [Array.getElem?_eq_getElem (by omega)]
    have hp : ((fs[i]'(by omega)).type, (fs[i]'(by omega)).offset) = (B, i) := by
      have h1 : (fs.toList.map (fun f => (f.type, f.offset)))[i]? = some ((fs[i]'(by omega)).type, (fs[i]'(by omega)).offset) := by
        rw [List.getElem?_map, Array.getElem?_toList, hfi]; rfl
      rw [hf] at h1
      match i, hi0, hi, h1 with
      | 1, _, _, h1 => exact (Option.some.inj h1).symm
      | 2, _, _, h1 => exact (Option.some.inj h1).symm
    have h2 := hh i _ hfi
    rw [(Prod.mk.inj hp).1, (Prod.mk.inj hp).2, hc, he] at h2
    have h3 : xs[i]? = some (xs[i]'(by omega)) := by rw [List.getElem?_eq_getElem (by omega)]
    rw [h3] at h2
    refine len_reach hB hE h2 fun q hq => hr q ?_
    simp only [DataW.weights, hu]
    refine DataW.weights_mem_each (j := i) (t := B) ?_ (d := (xs[i]'(by omega)).1) ?_ q hq
    · rw [hty]
      match i, hi0, hi with
      | 1, _, _ => rfl
      | 2, _, _ => rfl
    · rw [List.getElem?_map, h3]; rfl
  have hlt := reachBytes_lt
  have h1 := key 1 (by omega) (by omega) a1 x.2.1.length c1 (by rw [hcs]; rfl)
  have h2 := key 2 (by omega) (by omega) a2 x.2.2.1.length c2 (by rw [hcs]; rfl)
  omega
end Go.Vc
