/- A part of the proof: steps and lemmas for the walks through the given program. -/
import Derived.Test.YtifnkmflmgnfjaaGe
import Derived.Test.YtifnkmflmgnfjaaGx
import Derived.Test.YtifnkmflmgnfjaaGc
import Derived.Test.YtifnkmflmgnfjaaGd
import Derived.Test.YtifnkmflmgnfjaaVc24
import Derived.Test.YtifnkmflmgnfjaaVcR
namespace Go.Vc
set_option linter.unusedVariables false
set_option linter.unusedSimpArgs false
/-! ### net: what a message is -/
abbrev EnV := Int × List UInt8
abbrev tEn : Ty EnV := tPair (tInt .i64) tBy
structure Ms where
  kind : Int
  fr : Int
  to : Int
  grp : Int
  term : Int
  idx : Int
  lt : Int
  com : Int
  ents : List EnV
  ok : Bool
  snap : List UInt8
abbrev MsT := Int × Int × Int × Int × Int × Int × Int × Int × List EnV × Bool × List UInt8
abbrev tMsT : Ty MsT := tPair (tInt .i64) (tPair (tInt .i64) (tPair (tInt .i64) (tPair (tInt .i64) (tPair (tInt .i64) (tPair (tInt .i64) (tPair (tInt .i64) (tPair (tInt .i64) (tPair (tSl tEn) (tPair tBool tBy)))))))))
def Ms.tup (m : Ms) : MsT := (m.kind, m.fr, m.to, m.grp, m.term, m.idx, m.lt, m.com, m.ents, m.ok, m.snap)
def msOf (x : MsT) : Ms := ⟨x.1, x.2.1, x.2.2.1, x.2.2.2.1, x.2.2.2.2.1, x.2.2.2.2.2.1, x.2.2.2.2.2.2.1, x.2.2.2.2.2.2.2.1, x.2.2.2.2.2.2.2.2.1, x.2.2.2.2.2.2.2.2.2.1, x.2.2.2.2.2.2.2.2.2.2⟩
abbrev tMs : Ty Ms := tMap tMsT Ms.tup
/-- an int64 -/
abbrev I64 (n : Int) : Prop := -9223372036854775808 ≤ n ∧ n ≤ 9223372036854775807
structure Ms.Wf (m : Ms) : Prop where
  kind : I64 m.kind
  fr : I64 m.fr
  to : I64 m.to
  grp : I64 m.grp
  term : I64 m.term
  idx : I64 m.idx
  lt : I64 m.lt
  com : I64 m.com
theorem tMs_cells {w : World} {F : Nat → Prop} {cs : List Value} {m : Ms} (h : tMs.rep w F cs m) : ∃ a1 c1 a2 c2, cs = [.int .i64 m.kind, .int .i64 m.fr, .int .i64 m.to, .int .i64 m.grp, .int .i64 m.term, .int .i64 m.idx, .int .i64 m.lt, .int .i64 m.com, .slice a1 m.ents.length c1, .bool m.ok, .slice a2 m.snap.length c2] ∧ SlV tEn w F (.slice a1 m.ents.length c1) m.ents ∧ Bv w F (.slice a2 m.snap.length c2) m.snap ∧ m.Wf := by
  obtain ⟨_, _, rfl, ⟨rfl, h1⟩, _, _, rfl, ⟨rfl, h2⟩, _, _, rfl, ⟨rfl, h3⟩, _, _, rfl, ⟨rfl, h4⟩, _, _, rfl, ⟨rfl, h5⟩, _, _, rfl, ⟨rfl, h6⟩, _, _, rfl, ⟨rfl, h7⟩, _, _, rfl, ⟨rfl, h8⟩, _, _, rfl, ⟨v1, rfl, g1⟩, k5, k6, rfl, h9, h10⟩ := h
  obtain ⟨a1, c1, rfl⟩ := g1.shape
  obtain ⟨a2, c2, rfl, g2⟩ := tBy_cells h10
  obtain rfl : k5 = [.bool m.ok] := h9
  exact ⟨a1, c1, a2, c2, rfl, g1, g2, wf_i64 h1, wf_i64 h2, wf_i64 h3, wf_i64 h4, wf_i64 h5, wf_i64 h6, wf_i64 h7, wf_i64 h8⟩
theorem AgV.ms {w : World} {F : Nat → Prop} {v : Value} {m : Ms} (h : AgV tMs w F v m) : ∃ a1 c1 a2 c2, v = .agg #[.int .i64 m.kind, .int .i64 m.fr, .int .i64 m.to, .int .i64 m.grp, .int .i64 m.term, .int .i64 m.idx, .int .i64 m.lt, .int .i64 m.com, .slice a1 m.ents.length c1, .bool m.ok, .slice a2 m.snap.length c2] ∧ SlV tEn w F (.slice a1 m.ents.length c1) m.ents ∧ Bv w F (.slice a2 m.snap.length c2) m.snap ∧ m.Wf := by
  obtain ⟨cs, rfl, hr⟩ := h
  obtain ⟨a1, c1, a2, c2, rfl, h⟩ := tMs_cells hr
  exact ⟨a1, c1, a2, c2, rfl, h⟩
theorem tEn_cells {w : World} {F : Nat → Prop} {cs : List Value} {r : EnV} (h : tEn.rep w F cs r) : ∃ a c, cs = [.int .i64 r.1, .slice a r.2.length c] ∧ Bv w F (.slice a r.2.length c) r.2 ∧ I64 r.1 := by
  obtain ⟨_, _, rfl, ⟨rfl, h1⟩, h2⟩ := h
  obtain ⟨a, c, rfl, g⟩ := tBy_cells h2
  exact ⟨a, c, rfl, g, wf_i64 h1⟩
theorem AgV.en {w : World} {F : Nat → Prop} {v : Value} {r : EnV} (h : AgV tEn w F v r) : ∃ a c, v = .agg #[.int .i64 r.1, .slice a r.2.length c] ∧ Bv w F (.slice a r.2.length c) r.2 ∧ I64 r.1 := by
  obtain ⟨cs, rfl, hr⟩ := h
  obtain ⟨a, c, rfl, h⟩ := tEn_cells hr
  exact ⟨a, c, rfl, h⟩
end Go.Vc
namespace Go.Vc
deriving instance DecidableEq for Ms
end Go.Vc
namespace Go.Vc
end Go.Vc

namespace Go.Vc
set_option linter.unusedVariables false
set_option linter.unusedSimpArgs false
end Go.Vc
namespace Go.Vc
def idxP {α : Type} (p : α → Bool) : List α → Nat → Int
  | [], _ => -1
  | x :: l, i => if p x = true then (i : Int) else idxP p l (i + 1)
theorem idxP_any {α : Type} (p : α → Bool) : ∀ (l : List α) (i : Nat), decide (0 ≤ idxP p l i) = l.any p
  | [], i => rfl
  | x :: l, i => by
    rw [idxP, List.any_cons]
    cases h : p x
    · rw [if_neg (by simp), idxP_any p l]; rfl
    · rw [if_pos rfl]; simp
end Go.Vc
namespace Go.Vc
end Go.Vc
namespace Go.Vc
end Go.Vc
namespace Go.Vc
end Go.Vc

namespace Go.Vc
set_option linter.unusedVariables false
set_option linter.unusedSimpArgs false
end Go.Vc

namespace Go.Vc
set_option linter.unusedVariables false
set_option linter.unusedSimpArgs false
end Go.Vc
namespace Go.Vc
end Go.Vc

namespace Go.Vc
set_option linter.unusedVariables false
set_option linter.unusedSimpArgs false
theorem SlV.cap {α : Type} {t : Ty α} {w : World} {F : Nat → Prop} {a : Option Addr} {n c : Nat} {xs : List α} (h : SlV t w F (.slice a n c) xs) : n ≤ c ∧ c ≤ 9223372036854775807 := by
  obtain ⟨a', c', hv, h1, h2, h3, h4⟩ := h
  cases hv
  exact ⟨h1, by simpa [maxLen] using h2⟩
end Go.Vc

namespace Go.Vc
set_option linter.unusedVariables false
set_option linter.unusedSimpArgs false
theorem OwV.ne_blk {α : Type} {t : Ty α} {e T : TypeId} {w : World} {B n c b : Nat} {F : Nat → Prop} {q : Addr} {xs : List α} {cs : List Value} (h : OwV t e w B F (.slice (some q) n c) xs) (hb : Blk w b cs T) (hne : e ≠ T) : q.block ≠ b := by
  obtain ⟨cells, ⟨_, h1⟩, _⟩ := h
  rcases h1 with ⟨h0, _⟩ | ⟨g, cap, cur, hv, _, hg, _⟩
  · cases h0
  · simp only [Value.slice.injEq, Option.some.injEq] at hv
    obtain ⟨rfl, _, rfl⟩ := hv
    intro he
    dsimp only at he
    subst he
    have hb' : Blk w g cur.toList e := by unfold Blk; simpa using hg
    rw [Blk] at hb hb'
    rw [hb] at hb'
    simp only [Option.some.injEq, Obj.cells.injEq] at hb'
    exact hne hb'.2.1.symm
end Go.Vc

namespace Go.Vc
set_option linter.unusedVariables false
set_option linter.unusedSimpArgs false
end Go.Vc

namespace Go.Vc
set_option linter.unusedVariables false
set_option linter.unusedSimpArgs false
set_option maxRecDepth 100000
end Go.Vc

namespace Go.Vc
set_option linter.unusedVariables false
set_option linter.unusedSimpArgs false
open Go.ChangeShapes Go.WideShapes Go.ChangeAt Go.RowKit
end Go.Vc
namespace Go.Vc
end Go.Vc

namespace Go.Vc
set_option linter.unusedVariables false
set_option linter.unusedSimpArgs false
open Go.ChangeShapes Go.WideShapes Go.ChangeAt Go.RowKit
end Go.Vc
namespace Go.Vc
theorem inL_all {m m2 : List Nat} (h : m2.all (inL m) = true) {i : Nat} (hi : inL m2 i = true) : inL m i = true := by
  unfold inL at hi
  rw [List.any_eq_true] at hi
  obtain ⟨x, hx, he⟩ := hi
  have := List.all_eq_true.1 h x hx
  have hxi : i = x := Nat.eq_of_beq_eq_true he
  rw [hxi]; exact this
theorem Off.overs {m m2 : List Nat} {e e' : Nat → Value} (h : Off m e e') (hs : m2.all (inL m) = true) (j : Nat → Value) : Off m e (Vc.over e' m2 j) := fun i hi => by
  cases h2 : inL m2 i with
  | true => rw [inL_all hs h2] at hi; cases hi
  | false => simp only [Vc.over, h2, cond_false]; exact h i hi
end Go.Vc
