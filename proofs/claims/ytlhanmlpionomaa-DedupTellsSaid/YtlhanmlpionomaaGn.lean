/- A part of the proof: steps and lemmas for the walks through the given program. -/
import Derived.Test.YtlhanmlpionomaaGe
import Derived.Test.YtlhanmlpionomaaGx
import Derived.Test.YtlhanmlpionomaaGc
import Derived.Test.YtlhanmlpionomaaGd
import Derived.Test.YtlhanmlpionomaaVc24
import Derived.Test.YtlhanmlpionomaaVcR
namespace Go.Vc
set_option linter.unusedVariables false
set_option linter.unusedSimpArgs false
/-! ### net: what a message is -/
abbrev EnV := Int × List UInt8
abbrev tEn : Ty EnV := tPair (tInt .i64) tBy
structure Ms where
  kind : Int
  fr : Int
  to : Int
  grp : Int
  term : Int
  idx : Int
  lt : Int
  com : Int
  ents : List EnV
  ok : Bool
  snap : List UInt8
abbrev MsT := Int × Int × Int × Int × Int × Int × Int × Int × List EnV × Bool × List UInt8
abbrev tMsT : Ty MsT := tPair (tInt .i64) (tPair (tInt .i64) (tPair (tInt .i64) (tPair (tInt .i64) (tPair (tInt .i64) (tPair (tInt .i64) (tPair (tInt .i64) (tPair (tInt .i64) (tPair (tSl tEn) (tPair tBool tBy)))))))))
def Ms.tup (m : Ms) : MsT := (m.kind, m.fr, m.to, m.grp, m.term, m.idx, m.lt, m.com, m.ents, m.ok, m.snap)
def msOf (x : MsT) : Ms := ⟨x.1, x.2.1, x.2.2.1, x.2.2.2.1, x.2.2.2.2.1, x.2.2.2.2.2.1, x.2.2.2.2.2.2.1, x.2.2.2.2.2.2.2.1, x.2.2.2.2.2.2.2.2.1, x.2.2.2.2.2.2.2.2.2.1, x.2.2.2.2.2.2.2.2.2.2⟩
abbrev tMs : Ty Ms := tMap tMsT Ms.tup
/-- an int64 -/
abbrev I64 (n : Int) : Prop := -9223372036854775808 ≤ n ∧ n ≤ 9223372036854775807
structure Ms.Wf (m : Ms) : Prop where
  kind : I64 m.kind
  fr : I64 m.fr
  to : I64 m.to
  grp : I64 m.grp
  term : I64 m.term
  idx : I64 m.idx
  lt : I64 m.lt
  com : I64 m.com
def msCells (m : Ms) (v1 v2 : Value) : List Value := [.int .i64 m.kind, .int .i64 m.fr, .int .i64 m.to, .int .i64 m.grp, .int .i64 m.term, .int .i64 m.idx, .int .i64 m.lt, .int .i64 m.com, v1, .bool m.ok, v2]
theorem tMs_cells {w : World} {F : Nat → Prop} {cs : List Value} {m : Ms} (h : tMs.rep w F cs m) : ∃ a1 c1 a2 c2, cs = [.int .i64 m.kind, .int .i64 m.fr, .int .i64 m.to, .int .i64 m.grp, .int .i64 m.term, .int .i64 m.idx, .int .i64 m.lt, .int .i64 m.com, .slice a1 m.ents.length c1, .bool m.ok, .slice a2 m.snap.length c2] ∧ SlV tEn w F (.slice a1 m.ents.length c1) m.ents ∧ Bv w F (.slice a2 m.snap.length c2) m.snap ∧ m.Wf := by
  obtain ⟨_, _, rfl, ⟨rfl, h1⟩, _, _, rfl, ⟨rfl, h2⟩, _, _, rfl, ⟨rfl, h3⟩, _, _, rfl, ⟨rfl, h4⟩, _, _, rfl, ⟨rfl, h5⟩, _, _, rfl, ⟨rfl, h6⟩, _, _, rfl, ⟨rfl, h7⟩, _, _, rfl, ⟨rfl, h8⟩, _, _, rfl, ⟨v1, rfl, g1⟩, k5, k6, rfl, h9, h10⟩ := h
  obtain ⟨a1, c1, rfl⟩ := g1.shape
  obtain ⟨a2, c2, rfl, g2⟩ := tBy_cells h10
  obtain rfl : k5 = [.bool m.ok] := h9
  exact ⟨a1, c1, a2, c2, rfl, g1, g2, wf_i64 h1, wf_i64 h2, wf_i64 h3, wf_i64 h4, wf_i64 h5, wf_i64 h6, wf_i64 h7, wf_i64 h8⟩
theorem tMs_mk {w : World} {F : Nat → Prop} {v1 v2 : Value} {m : Ms} (h1 : SlV tEn w F v1 m.ents) (h2 : Bv w F v2 m.snap) (hw : m.Wf) : tMs.rep w F (msCells m v1 v2) m :=
  ⟨[_], _, rfl, ⟨rfl, wf_of_i64 hw.kind⟩, [_], _, rfl, ⟨rfl, wf_of_i64 hw.fr⟩, [_], _, rfl, ⟨rfl, wf_of_i64 hw.to⟩, [_], _, rfl, ⟨rfl, wf_of_i64 hw.grp⟩, [_], _, rfl, ⟨rfl, wf_of_i64 hw.term⟩, [_], _, rfl, ⟨rfl, wf_of_i64 hw.idx⟩, [_], _, rfl, ⟨rfl, wf_of_i64 hw.lt⟩, [_], _, rfl, ⟨rfl, wf_of_i64 hw.com⟩, [v1], _, rfl, ⟨v1, rfl, h1⟩, [.bool m.ok], [v2], rfl, rfl, v2, rfl, h2⟩
theorem AgV.ms {w : World} {F : Nat → Prop} {v : Value} {m : Ms} (h : AgV tMs w F v m) : ∃ a1 c1 a2 c2, v = .agg #[.int .i64 m.kind, .int .i64 m.fr, .int .i64 m.to, .int .i64 m.grp, .int .i64 m.term, .int .i64 m.idx, .int .i64 m.lt, .int .i64 m.com, .slice a1 m.ents.length c1, .bool m.ok, .slice a2 m.snap.length c2] ∧ SlV tEn w F (.slice a1 m.ents.length c1) m.ents ∧ Bv w F (.slice a2 m.snap.length c2) m.snap ∧ m.Wf := by
  obtain ⟨cs, rfl, hr⟩ := h
  obtain ⟨a1, c1, a2, c2, rfl, h⟩ := tMs_cells hr
  exact ⟨a1, c1, a2, c2, rfl, h⟩
theorem AgV.mkMs {w : World} {F : Nat → Prop} {v1 v2 : Value} {m : Ms} (h1 : SlV tEn w F v1 m.ents) (h2 : Bv w F v2 m.snap) (hw : m.Wf) : AgV tMs w F (.agg #[.int .i64 m.kind, .int .i64 m.fr, .int .i64 m.to, .int .i64 m.grp, .int .i64 m.term, .int .i64 m.idx, .int .i64 m.lt, .int .i64 m.com, v1, .bool m.ok, v2]) m := ⟨_, rfl, tMs_mk h1 h2 hw⟩
theorem tEn_cells {w : World} {F : Nat → Prop} {cs : List Value} {r : EnV} (h : tEn.rep w F cs r) : ∃ a c, cs = [.int .i64 r.1, .slice a r.2.length c] ∧ Bv w F (.slice a r.2.length c) r.2 ∧ I64 r.1 := by
  obtain ⟨_, _, rfl, ⟨rfl, h1⟩, h2⟩ := h
  obtain ⟨a, c, rfl, g⟩ := tBy_cells h2
  exact ⟨a, c, rfl, g, wf_i64 h1⟩
theorem AgV.en {w : World} {F : Nat → Prop} {v : Value} {r : EnV} (h : AgV tEn w F v r) : ∃ a c, v = .agg #[.int .i64 r.1, .slice a r.2.length c] ∧ Bv w F (.slice a r.2.length c) r.2 ∧ I64 r.1 := by
  obtain ⟨cs, rfl, hr⟩ := h
  obtain ⟨a, c, rfl, h⟩ := tEn_cells hr
  exact ⟨a, c, rfl, h⟩
theorem AgV.mkEn {w : World} {F : Nat → Prop} {v : Value} {t : Int} {d : List UInt8} (h : Bv w F v d) (ht : I64 t) : AgV tEn w F (.agg #[.int .i64 t, v]) (t, d) := ⟨_, rfl, [_], [v], rfl, ⟨rfl, wf_of_i64 ht⟩, v, rfl, h⟩
/-! ### what the chapter says -/
/-- what a kind names: index, logTerm, commit, entries, ok, snapshot -/
def kRows : List (List Bool) := [[false, false, false, false, false, false], [true, true, false, false, false, false], [false, false, false, false, true, false], [true, true, true, true, false, false], [true, false, false, false, true, false], [true, true, true, false, false, true], [false, false, false, true, false, false], [false, false, false, true, false, false]]
def kNm (k : Int) (i : Nat) : Bool := (kRows.getD k.toNat []).getD i false
def wiB (n a b : Int) : Bool := decide (a ≤ n) && decide (n ≤ b)
def numB (named : Bool) (x : Int) : Bool := decide (x = 0) || (named && wiB x 1 2147483647)
def badE (e : EnV) : Bool := !wiB e.1 1 2147483647 || decide (1048576 < e.2.length)
def mayN (m : Ms) : Bool :=
  decide (1 ≤ m.kind) && decide (m.kind ≤ 7) && !decide (m.fr = m.to) && (wiB m.fr 0 4 && wiB m.to 0 4 && wiB m.grp 0 4) &&
  (wiB m.term 1 2147483647 && numB (kNm m.kind 0) m.idx && numB (kNm m.kind 1) m.lt && numB (kNm m.kind 2) m.com) &&
  ((kNm m.kind 4 || !m.ok) && (kNm m.kind 3 || m.ents.isEmpty) && (kNm m.kind 5 || m.snap.isEmpty)) &&
  (decide (m.ents.length ≤ 64) && decide (m.snap.length ≤ 1048576) && !m.ents.any badE) && (decide (m.kind < 6) || decide (m.ents.length = 1))
def sameE (a b : EnV) : Bool := decide (a.1 = b.1) && decide (a.2 = b.2)
end Go.Vc
namespace Go.Vc
deriving instance DecidableEq for Ms
theorem sameE_iff {a b : EnV} : sameE a b = true ↔ a = b := by
  obtain ⟨a1, a2⟩ := a; obtain ⟨b1, b2⟩ := b
  simp [sameE]
theorem ms_eq (a b : Ms) : decide (a = b) = (decide (a.kind = b.kind) && decide (a.fr = b.fr) && decide (a.to = b.to) && decide (a.grp = b.grp) && decide (a.term = b.term) && (decide (a.idx = b.idx) && decide (a.lt = b.lt) && decide (a.com = b.com) && (a.ok == b.ok)) && decide (a.ents = b.ents) && decide (a.snap = b.snap)) := by
  rw [Bool.eq_iff_iff]
  cases a; cases b
  simp [and_assoc]
  grind
/-- a message's size, about -/
def sizeL : Nat → List EnV → Nat
  | n, [] => n
  | n, e :: l => if n < 2097152 then sizeL (n + min e.2.length 2097152) l else n
def sizeN (m : Ms) : Nat := sizeL (m.snap.length + m.ents.length) m.ents
theorem sizeL_ge : ∀ (l : List EnV) (n : Nat), n ≤ sizeL n l
  | [], n => Nat.le_refl _
  | e :: l, n => by
    rw [sizeL]; split
    · have := sizeL_ge l (n + min e.2.length 2097152); omega
    · exact Nat.le_refl _
theorem sizeL_mem : ∀ (l : List EnV) (n : Nat), sizeL n l ≤ 2000000 → ∀ e ∈ l, n + e.2.length ≤ sizeL n l
  | [], n, _ => by simp
  | e :: l, n, h => by
    rw [sizeL] at h ⊢
    split at h
    · rename_i h1
      rw [if_pos h1]
      have h2 := sizeL_ge l (n + min e.2.length 2097152)
      intro x hx
      rcases List.mem_cons.1 hx with rfl | hx
      · omega
      · have := sizeL_mem l _ h x hx; omega
    · omega
theorem sizeN_le {m : Ms} (h : sizeN m ≤ 60000) : m.snap.length + m.ents.length ≤ 60000 ∧ ∀ e ∈ m.ents, e.2.length ≤ 60000 := by
  rw [sizeN] at h
  have h1 := sizeL_ge m.ents (m.snap.length + m.ents.length)
  exact ⟨by omega, fun e he => by have := sizeL_mem m.ents (m.snap.length + m.ents.length) (by omega) e he; omega⟩
end Go.Vc
namespace Go.Vc
theorem ref_ne {m n : Ms} (h : (!decide (m.kind = n.kind) || !decide (m.fr = n.fr) || !decide (m.to = n.to) || !decide (m.grp = n.grp) || !decide (m.term = n.term) || !decide (m.idx = n.idx) || !decide (m.lt = n.lt) || !decide (m.com = n.com) || !m.ok == n.ok || !decide (m.snap = n.snap) || !decide ((m.ents.length : Int) = n.ents.length)) = true) : decide (m = n) = false := by
  rw [decide_eq_false_iff_not]; rintro rfl; simp at h
theorem ref_go {m n : Ms} (h : (!decide (m.kind = n.kind) || !decide (m.fr = n.fr) || !decide (m.to = n.to) || !decide (m.grp = n.grp) || !decide (m.term = n.term) || !decide (m.idx = n.idx) || !decide (m.lt = n.lt) || !decide (m.com = n.com) || !m.ok == n.ok || !decide (m.snap = n.snap) || !decide ((m.ents.length : Int) = n.ents.length)) = false) : m.ents.length = n.ents.length ∧ (m.ents = n.ents → m = n) := by
  simp at h
  obtain ⟨⟨⟨⟨⟨⟨⟨⟨⟨⟨h1, h2⟩, h3⟩, h4⟩, h5⟩, h6⟩, h7⟩, h8⟩, h9⟩, h10⟩, h11⟩ := h
  refine ⟨by omega, fun he => ?_⟩
  cases m; cases n
  simp_all
end Go.Vc

namespace Go.Vc
set_option linter.unusedVariables false
set_option linter.unusedSimpArgs false
/-- the cells of all kinds' -/
def kCells : Array Value := (kRows.flatten.map Value.bool).toArray
theorem kinds_ex {k : Int} (h1 : 0 ≤ k) (h2 : k ≤ 7) : kCells.extract (k.toNat * 6) (k.toNat * 6 + 6) = #[.bool (kNm k 0), .bool (kNm k 1), .bool (kNm k 2), .bool (kNm k 3), .bool (kNm k 4), .bool (kNm k 5)] := by
  have h : k = 0 ∨ k = 1 ∨ k = 2 ∨ k = 3 ∨ k = 4 ∨ k = 5 ∨ k = 6 ∨ k = 7 := by omega
  rcases h with rfl | rfl | rfl | rfl | rfl | rfl | rfl | rfl <;> rfl
end Go.Vc
namespace Go.Vc
def idxP {α : Type} (p : α → Bool) : List α → Nat → Int
  | [], _ => -1
  | x :: l, i => if p x = true then (i : Int) else idxP p l (i + 1)
theorem idxP_any {α : Type} (p : α → Bool) : ∀ (l : List α) (i : Nat), decide (0 ≤ idxP p l i) = l.any p
  | [], i => rfl
  | x :: l, i => by
    rw [idxP, List.any_cons]
    cases h : p x
    · rw [if_neg (by simp), idxP_any p l]; rfl
    · rw [if_pos rfl]; simp
end Go.Vc
namespace Go.Vc
theorem may_hd (m : Ms) : (decide (1 ≤ m.kind) && decide (m.kind ≤ 7) && !decide (m.fr = m.to)) = !(decide (m.kind < 1) || decide (7 < m.kind) || decide (m.fr = m.to)) := by
  have h1 : decide (1 ≤ m.kind) = !decide (m.kind < 1) := by rw [← decide_not]; exact decide_eq_decide.2 (by omega)
  have h2 : decide (m.kind ≤ 7) = !decide (7 < m.kind) := by rw [← decide_not]; exact decide_eq_decide.2 (by omega)
  rw [h1, h2]; cases decide (m.kind < 1) <;> cases decide (7 < m.kind) <;> cases decide (m.fr = m.to) <;> rfl
theorem mayN_no {m : Ms} (h : (decide (m.kind < 1) || decide (7 < m.kind) || decide (m.fr = m.to)) = true) : mayN m = false := by
  rw [mayN, may_hd, h]; rfl
theorem mayN_go {m : Ms} (h : (decide (m.kind < 1) || decide (7 < m.kind) || decide (m.fr = m.to)) = false) : mayN m = (wiB m.fr 0 4 && wiB m.to 0 4 && wiB m.grp 0 4 &&
              (wiB m.term 1 2147483647 && numB (kNm m.kind 0) m.idx && numB (kNm m.kind 1) m.lt && numB (kNm m.kind 2) m.com) &&
            ((kNm m.kind 4 || !m.ok) && (kNm m.kind 3 || decide ((m.ents.length : Int) = 0)) && (kNm m.kind 5 || decide ((m.snap.length : Int) = 0))) &&
          (decide ((m.ents.length : Int) ≤ 64) && decide ((m.snap.length : Int) ≤ 1048576) && !m.ents.any fun r => badE r) &&
        (decide (m.kind < 6) || decide ((m.ents.length : Int) = 1))) := by
  rw [mayN, may_hd, h]
  have h3 : decide ((m.ents.length : Int) ≤ 64) = decide (m.ents.length ≤ 64) := decide_eq_decide.2 (by omega)
  have h4 : decide ((m.snap.length : Int) ≤ 1048576) = decide (m.snap.length ≤ 1048576) := decide_eq_decide.2 (by omega)
  have h5 : decide ((m.ents.length : Int) = 1) = decide (m.ents.length = 1) := decide_eq_decide.2 (by omega)
  rw [isE_len, isE_len, h3, h4, h5]; rfl
theorem may_kr {m : Ms} (h : (decide (m.kind < 1) || decide (7 < m.kind) || decide (m.fr = m.to)) = false) : 1 ≤ m.kind ∧ m.kind ≤ 7 := by
  simp at h; omega
end Go.Vc
namespace Go.Vc
/-- what its kind names of a message -/
def bareM (m : Ms) : Ms := ⟨m.kind, m.fr, m.to, m.grp, m.term, if kNm m.kind 0 = true then m.idx else 0, if kNm m.kind 1 = true then m.lt else 0, if kNm m.kind 2 = true then m.com else 0, if kNm m.kind 3 = true then m.ents else [], kNm m.kind 4 && m.ok, if kNm m.kind 5 = true then m.snap else []⟩
def bareV (m : Ms) (v1 v2 : Value) : Value := .agg #[.int .i64 m.kind, .int .i64 m.fr, .int .i64 m.to, .int .i64 m.grp, .int .i64 m.term, .int .i64 (bareM m).idx, .int .i64 (bareM m).lt, .int .i64 (bareM m).com, if kNm m.kind 3 = true then v1 else .slice none 0 0, .bool (bareM m).ok, if kNm m.kind 5 = true then v2 else .slice none 0 0]
theorem i64_0 : I64 0 := by unfold I64; omega
theorem bare_wf {m : Ms} (h : m.Wf) : (bareM m).Wf := ⟨h.kind, h.fr, h.to, h.grp, h.term, by dsimp only [bareM]; split; exact h.idx; exact i64_0, by dsimp only [bareM]; split; exact h.lt; exact i64_0, by dsimp only [bareM]; split; exact h.com; exact i64_0⟩
theorem AgV.bare {w : World} {F : Nat → Prop} {v1 v2 : Value} {m : Ms} (h1 : SlV tEn w F v1 m.ents) (h2 : Bv w F v2 m.snap) (hw : m.Wf) : AgV tMs w F (bareV m v1 v2) (bareM m) := by
  refine AgV.mkMs (m := bareM m) ?_ ?_ (bare_wf hw)
  · dsimp only [bareM]; split; exact h1; exact SlV.nil _ _ _
  · dsimp only [bareM]; split; exact h2; exact SlV.nil _ _ _
end Go.Vc
namespace Go.Vc
theorem bareV1 {m : Ms} {v1 v2 : Value} (h : m.kind = 1) : .agg #[.int .i64 m.kind, .int .i64 m.fr, .int .i64 m.to, .int .i64 m.grp, .int .i64 m.term, .int .i64 m.idx, .int .i64 m.lt, .int .i64 0, .slice none 0 0, .bool false, .slice none 0 0] = bareV m v1 v2 := by
  simp [bareV, bareM, h, kNm, kRows]
theorem bareV2 {m : Ms} {v1 v2 : Value} (h : m.kind = 2) : .agg #[.int .i64 m.kind, .int .i64 m.fr, .int .i64 m.to, .int .i64 m.grp, .int .i64 m.term, .int .i64 0, .int .i64 0, .int .i64 0, .slice none 0 0, .bool m.ok, .slice none 0 0] = bareV m v1 v2 := by
  simp [bareV, bareM, h, kNm, kRows]
theorem bareV3 {m : Ms} {v1 v2 : Value} (h : m.kind = 3) : .agg #[.int .i64 m.kind, .int .i64 m.fr, .int .i64 m.to, .int .i64 m.grp, .int .i64 m.term, .int .i64 m.idx, .int .i64 m.lt, .int .i64 m.com, v1, .bool false, .slice none 0 0] = bareV m v1 v2 := by
  simp [bareV, bareM, h, kNm, kRows]
theorem bareV4 {m : Ms} {v1 v2 : Value} (h : m.kind = 4) : .agg #[.int .i64 m.kind, .int .i64 m.fr, .int .i64 m.to, .int .i64 m.grp, .int .i64 m.term, .int .i64 m.idx, .int .i64 0, .int .i64 0, .slice none 0 0, .bool m.ok, .slice none 0 0] = bareV m v1 v2 := by
  simp [bareV, bareM, h, kNm, kRows]
theorem bareV5 {m : Ms} {v1 v2 : Value} (h : m.kind = 5) : .agg #[.int .i64 m.kind, .int .i64 m.fr, .int .i64 m.to, .int .i64 m.grp, .int .i64 m.term, .int .i64 m.idx, .int .i64 m.lt, .int .i64 m.com, .slice none 0 0, .bool false, v2] = bareV m v1 v2 := by
  simp [bareV, bareM, h, kNm, kRows]
theorem bareV6 {m : Ms} {v1 v2 : Value} (h : m.kind = 6) : .agg #[.int .i64 m.kind, .int .i64 m.fr, .int .i64 m.to, .int .i64 m.grp, .int .i64 m.term, .int .i64 0, .int .i64 0, .int .i64 0, v1, .bool false, .slice none 0 0] = bareV m v1 v2 := by
  simp [bareV, bareM, h, kNm, kRows]
theorem bareV7 {m : Ms} {v1 v2 : Value} (h : m.kind = 7) : .agg #[.int .i64 m.kind, .int .i64 m.fr, .int .i64 m.to, .int .i64 m.grp, .int .i64 m.term, .int .i64 0, .int .i64 0, .int .i64 0, v1, .bool false, .slice none 0 0] = bareV m v1 v2 := by
  simp [bareV, bareM, h, kNm, kRows]
theorem kNm_no {k : Int} (h : k ≤ 0 ∨ 7 < k) (i : Nat) : kNm k i = false := by
  unfold kNm
  rcases h with h | h
  · rw [Int.toNat_eq_zero.2 h]
    match i with
    | 0 => rfl
    | 1 => rfl
    | 2 => rfl
    | 3 => rfl
    | 4 => rfl
    | 5 => rfl
    | i + 6 => rfl
  · obtain ⟨n, hn⟩ : ∃ n, k.toNat = n + 8 := ⟨k.toNat - 8, by omega⟩
    rw [hn]; rfl
theorem bareV0 {m : Ms} {v1 v2 : Value} (h1 : ¬ m.kind = 1) (h2 : ¬ m.kind = 2) (h3 : ¬ m.kind = 3) (h4 : ¬ m.kind = 4) (h5 : ¬ m.kind = 5) (h6 : ¬ m.kind = 6) (h7 : ¬ m.kind = 7) : .agg #[.int .i64 m.kind, .int .i64 m.fr, .int .i64 m.to, .int .i64 m.grp, .int .i64 m.term, .int .i64 0, .int .i64 0, .int .i64 0, .slice none 0 0, .bool false, .slice none 0 0] = bareV m v1 v2 := by
  have h : m.kind ≤ 0 ∨ 7 < m.kind := by omega
  simp [bareV, bareM, kNm_no h]
end Go.Vc

namespace Go.Vc
set_option linter.unusedVariables false
set_option linter.unusedSimpArgs false
theorem wiB_iff {n a b : Int} : wiB n a b = true ↔ a ≤ n ∧ n ≤ b := by simp [wiB]
theorem numB_iff {c : Bool} {x : Int} : numB c x = true ↔ (0 ≤ x ∧ x ≤ 2147483647) ∧ (c = false → x = 0) := by
  cases c <;> simp [numB, wiB] <;> omega
theorem if_self {c : Bool} {α : Type} {x z : α} : ((if c = true then x else z) = x) ↔ (c = false → x = z) := by
  cases c <;> simp [eq_comm]
theorem bare_iff {m : Ms} : bareM m = m ↔ (kNm m.kind 0 = false → m.idx = 0) ∧ (kNm m.kind 1 = false → m.lt = 0) ∧ (kNm m.kind 2 = false → m.com = 0) ∧ (kNm m.kind 3 = false → m.ents = []) ∧ (kNm m.kind 4 = false → m.ok = false) ∧ (kNm m.kind 5 = false → m.snap = []) := by
  have h : bareM m = m ↔ ((if kNm m.kind 0 = true then m.idx else 0) = m.idx) ∧ ((if kNm m.kind 1 = true then m.lt else 0) = m.lt) ∧ ((if kNm m.kind 2 = true then m.com else 0) = m.com) ∧ ((if kNm m.kind 3 = true then m.ents else []) = m.ents) ∧ ((kNm m.kind 4 && m.ok) = m.ok) ∧ ((if kNm m.kind 5 = true then m.snap else []) = m.snap) := by
    obtain ⟨k, f, t, g, te, i, l, c, e, o, s⟩ := m
    simp only [bareM, Ms.mk.injEq, true_and]
  rw [h, if_self, if_self, if_self, if_self, if_self]
  have h4 : ((kNm m.kind 4 && m.ok) = m.ok) ↔ (kNm m.kind 4 = false → m.ok = false) := by cases kNm m.kind 4 <;> cases m.ok <;> simp
  rw [h4]
def mayA (m : Ms) : Prop := (1 ≤ m.kind ∧ m.kind ≤ 7) ∧ (0 ≤ m.fr ∧ m.fr ≤ 4) ∧ (0 ≤ m.to ∧ m.to ≤ 4) ∧ m.fr ≠ m.to ∧ (0 ≤ m.grp ∧ m.grp ≤ 4) ∧ (1 ≤ m.term ∧ m.term ≤ 2147483647)
def mayB (m : Ms) : Prop := (0 ≤ m.idx ∧ m.idx ≤ 2147483647) ∧ (0 ≤ m.lt ∧ m.lt ≤ 2147483647) ∧ (0 ≤ m.com ∧ m.com ≤ 2147483647) ∧ m.snap.length ≤ 1048576 ∧ m.ents.length ≤ 64 ∧ bareM m = m
theorem or_imp' {a b : Bool} : (a || b) = true ↔ (a = false → b = true) := by cases a <;> simp
theorem mayN_iff {m : Ms} : mayN m = true ↔ mayA m ∧ mayB m ∧ m.ents.any badE = false ∧ (m.kind < 6 ∨ m.ents.length = 1) := by
  have hb := bare_iff (m := m)
  have h1 := numB_iff (c := kNm m.kind 0) (x := m.idx)
  have h2 := numB_iff (c := kNm m.kind 1) (x := m.lt)
  have h3 := numB_iff (c := kNm m.kind 2) (x := m.com)
  have h4 : (kNm m.kind 4 || !m.ok) = true ↔ (kNm m.kind 4 = false → m.ok = false) := by rw [or_imp']; simp
  have h5 : (kNm m.kind 3 || m.ents.isEmpty) = true ↔ (kNm m.kind 3 = false → m.ents = []) := by rw [or_imp', List.isEmpty_iff]
  have h6 : (kNm m.kind 5 || m.snap.isEmpty) = true ↔ (kNm m.kind 5 = false → m.snap = []) := by rw [or_imp', List.isEmpty_iff]
  unfold mayN mayA mayB
  simp only [Bool.and_eq_true, decide_eq_true_eq, Bool.not_eq_true', decide_eq_false_iff_not, wiB_iff, h1, h2, h3, h4, h5, h6, hb]
  have h7 : (decide (m.kind < 6) || decide (m.ents.length = 1)) = true ↔ (m.kind < 6 ∨ m.ents.length = 1) := by simp
  rw [h7]
  constructor
  · rintro ⟨⟨⟨⟨⟨⟨⟨a1, a2⟩, a3⟩, ⟨⟨a4, a5⟩, a6⟩⟩, ⟨⟨⟨a7, ⟨a8, a9⟩⟩, ⟨a10, a11⟩⟩, ⟨a12, a13⟩⟩⟩, ⟨⟨a14, a15⟩, a16⟩⟩, ⟨⟨a17, a18⟩, a19⟩⟩, a20⟩
    exact ⟨⟨⟨a1, a2⟩, a4, a5, a3, a6, a7⟩, ⟨a8, a10, a12, a18, a17, a9, a11, a13, a15, a14, a16⟩, a19, a20⟩
  · rintro ⟨⟨⟨a1, a2⟩, a4, a5, a3, a6, a7⟩, ⟨a8, a10, a12, a18, a17, a9, a11, a13, a15, a14, a16⟩, a19, a20⟩
    exact ⟨⟨⟨⟨⟨⟨⟨a1, a2⟩, a3⟩, ⟨⟨a4, a5⟩, a6⟩⟩, ⟨⟨⟨a7, ⟨a8, a9⟩⟩, ⟨a10, a11⟩⟩, ⟨a12, a13⟩⟩⟩, ⟨⟨a14, a15⟩, a16⟩⟩, ⟨⟨a17, a18⟩, a19⟩⟩, a20⟩
theorem mayA_iff {m : Ms} : (decide (m.kind < 1) || decide (7 < m.kind) || decide (m.fr < 0) || decide (5 ≤ m.fr) || decide (m.to < 0) || decide (5 ≤ m.to) || decide (m.fr = m.to) || decide (m.grp < 0) || decide (5 ≤ m.grp) || decide (m.term < 1) || decide (2147483647 < m.term)) = false ↔ mayA m := by
  unfold mayA; simp; omega
theorem mayB_iff {m : Ms} : (!wiB m.idx 0 2147483647 || !wiB m.lt 0 2147483647 || !wiB m.com 0 2147483647 || decide ((1048576 : Int) < m.snap.length) || decide ((64 : Int) < m.ents.length) || !decide (bareM m = m)) = false ↔ mayB m := by
  unfold mayB; simp only [Bool.or_eq_false_iff, Bool.not_eq_false', wiB_iff, decide_eq_false_iff_not, decide_eq_true_eq]
  constructor
  · rintro ⟨⟨⟨⟨⟨a, b⟩, c⟩, d⟩, e⟩, f⟩; exact ⟨a, b, c, by omega, by omega, f⟩
  · rintro ⟨a, b, c, d, e, f⟩; exact ⟨⟨⟨⟨⟨a, b⟩, c⟩, by omega⟩, by omega⟩, f⟩
theorem mayN_f {m : Ms} (h : mayN m = true → False) : mayN m = false := by cases hh : mayN m; rfl; exact (h hh).elim
theorem badE_eq (r : EnV) : (decide (r.1 < 1) || decide (2147483647 < r.1) || decide ((1048576 : Int) < r.2.length)) = badE r := by
  rw [Bool.eq_iff_iff]; simp [badE, wiB]; omega
theorem mayN_last {m : Ms} (h1 : mayA m) (h2 : mayB m) (h3 : m.ents.any badE = false) : mayN m = (decide (m.kind < 6) || decide ((m.ents.length : Int) = 1)) := by
  rw [Bool.eq_iff_iff, mayN_iff]; simp only [Bool.or_eq_true, decide_eq_true_eq]
  constructor
  · rintro ⟨_, _, _, h⟩; omega
  · intro h; exact ⟨h1, h2, h3, by omega⟩
end Go.Vc

namespace Go.Vc
set_option linter.unusedVariables false
set_option linter.unusedSimpArgs false
/-- an entry, and whether what it reaches is new -/
def tEnM (n0 : Nat) : Ty (EnV × Bool) where
  sz := tEn.sz
  pos := tEn.pos
  rep := fun w F cs y => tEn.rep w (fun b => F b ∧ (y.2 = true → n0 ≤ b)) cs y.1
  len := fun h => tEn.len h
  one := fun h => tEn.one h
  keep := fun h k hk => tEn.keep h k (fun b hb hf => hk b hb hf.1)
  mono := fun h hf => tEn.mono h (fun b hb h => ⟨hf b hb h.1, h.2⟩)
def mkM (i : Nat) (l : List EnV) : List (EnV × Bool) := l.mapIdx fun j x => (x, decide (j < i))
theorem mkM_len (i : Nat) (l : List EnV) : (mkM i l).length = l.length := by simp [mkM]
theorem mkM_get (i j : Nat) (l : List EnV) : (mkM i l)[j]? = l[j]?.map fun x => (x, decide (j < i)) := by simp [mkM]
theorem mkM_set {i : Nat} {l : List EnV} {x : EnV} (h : l[i]? = some x) : (mkM i l).set i (x, true) = mkM (i + 1) l := by
  apply List.ext_getElem?
  intro j
  rw [List.getElem?_set, mkM_get, mkM_get, mkM_len]
  by_cases hj : i = j
  · subst hj
    have := (List.getElem?_eq_some_iff.1 h).1
    rw [h]; simp [this]
  · rw [if_neg hj]
    have : decide (j < i) = decide (j < i + 1) := decide_eq_decide.2 (by omega)
    rw [this]
theorem OwV.mark {e : TypeId} {w : World} {B n0 : Nat} {F : Nat → Prop} {v : Value} {l : List EnV} (h : OwV tEn e w B F v l) : OwV (tEnM n0) e w B F v (mkM 0 l) := by
  obtain ⟨cells, h1, h2⟩ := h
  refine ⟨cells, by rw [mkM_len]; exact h1, fun i x hx => ?_⟩
  rw [mkM_get] at hx
  cases hl : l[i]? with
  | none => rw [hl] at hx; cases hx
  | some y =>
    rw [hl] at hx; simp only [Option.map_some, Option.some.injEq] at hx
    subst hx
    have := h2 i y hl
    exact tEn.mono this fun b _ hb => ⟨hb, fun h => by simp at h⟩
theorem OwV.unmark {e : TypeId} {w : World} {B n0 : Nat} {F : Nat → Prop} {v : Value} {l : List EnV} (h : OwV (tEnM n0) e w B F v (mkM l.length l)) (hB : n0 ≤ B) : SlV tEn w (fun b => n0 ≤ b) v l := by
  obtain ⟨a, c, hv⟩ := h.shape
  subst hv
  have hw := h.view
  rw [mkM_len] at h hw ⊢
  obtain ⟨a', c', hv', h1, h2, h3, h4⟩ := hw
  rw [mkM_len] at hv' h1
  cases hv'
  refine ⟨_, _, rfl, h1, h2, h3, fun i x hx => ?_⟩
  have hlt := (List.getElem?_eq_some_iff.1 hx).1
  obtain ⟨q, cs, ha, _, hp, hr⟩ := h4 i (x, true) (by rw [mkM_get, hx]; simp [hlt])
  obtain ⟨b, hb, hb1, _⟩ := OwV.addr h (by intro h0; rw [← List.length_eq_zero_iff, mkM_len] at h0; omega)
  rw [ha] at hb; cases hb
  exact ⟨_, cs, ha, by dsimp only; omega, hp, tEn.mono hr fun b _ hb => hb.2 rfl⟩
theorem tEnM_set {w : World} {n0 : Nat} {F G : Nat → Prop} {cs : List Value} {r : EnV} {u : Value} (hd : Bv w G u r.2) (hG : ∀ b, b < w.heap.size → G b → F b ∧ n0 ≤ b) (h : (tEnM n0).rep w F cs (r, false)) : (tEnM n0).rep w F (cs.set 1 u) (r, true) := by
  have h' : tEn.rep w (fun b => F b ∧ (false = true → n0 ≤ b)) cs r := h
  obtain ⟨a, c, rfl, _, hr⟩ := tEn_cells h'
  exact ⟨[_], [u], rfl, ⟨rfl, wf_of_i64 hr⟩, u, rfl, hd.mono fun b hb h => ⟨(hG b hb h).1, fun _ => (hG b hb h).2⟩⟩
theorem mayN_lens {m : Ms} (h : mayN m = true) : m.snap.length ≤ 1048576 ∧ m.ents.length ≤ 64 ∧ ∀ e ∈ m.ents, e.2.length ≤ 1048576 ∧ 1 ≤ e.1 ∧ e.1 ≤ 2147483647 := by
  obtain ⟨_, h2, h3, _⟩ := mayN_iff.1 h
  refine ⟨h2.2.2.2.1, h2.2.2.2.2.1, fun e he => ?_⟩
  rw [List.any_eq_false] at h3
  have := h3 e he
  simp [badE, wiB] at this
  omega
end Go.Vc
namespace Go.Vc
/-- the places of those to a node -/
def toL (node : Int) : List Ms → Nat → List Int
  | [], _ => []
  | m :: l, i => if m.to = node then (i : Int) :: toL node l (i + 1) else toL node l (i + 1)
theorem toL_snoc (node : Int) (m : Ms) : ∀ (l : List Ms) (i : Nat), toL node (l ++ [m]) i = toL node l i ++ (if m.to = node then [((i + l.length : Nat) : Int)] else [])
  | [], i => by simp only [List.nil_append, toL, List.length_nil, Nat.add_zero]
  | x :: l, i => by
    rw [List.cons_append, toL, toL, toL_snoc node m l (i + 1)]
    have : i + 1 + l.length = i + (x :: l).length := by simp; omega
    rw [this]
    split <;> simp
theorem toL_len (node : Int) : ∀ (l : List Ms) (i : Nat), (toL node l i).length ≤ l.length
  | [], i => Nat.le_refl _
  | x :: l, i => by
    have := toL_len node l (i + 1)
    rw [toL]; split <;> simp <;> omega
end Go.Vc

namespace Go.Vc
set_option linter.unusedVariables false
set_option linter.unusedSimpArgs false
def sendN (ms ls : List Ms) : Nat := ms.length + ls.length - 256
def sendL (ms ls : List Ms) : List Ms := (ms ++ ls).drop (sendN ms ls)
theorem any_may {ls : List Ms} (h : ∀ m ∈ ls, mayN m = true) : ls.any (fun m => !mayN m) = false := by
  rw [List.any_eq_false]; intro m hm; simp [h m hm]
theorem sendL_len (ms ls : List Ms) : (sendL ms ls).length = ms.length + ls.length - sendN ms ls := by simp [sendL]
theorem sendL_le (ms ls : List Ms) : (sendL ms ls).length ≤ 256 := by rw [sendL_len]; unfold sendN; omega
theorem SlV.full {α : Type} {t : Ty α} {w : World} {F : Nat → Prop} {a : Option Addr} {n c : Nat} {xs : List α} (h : SlV t w F (.slice a n c) xs) : SlV t w F (.slice a n n) xs := by
  obtain ⟨a', c', hv, h1, h2, h3, h4⟩ := h
  cases hv
  exact ⟨a, _, rfl, Nat.le_refl _, by omega, fun h => by have := h3 h; omega, h4⟩
theorem SlV.cap {α : Type} {t : Ty α} {w : World} {F : Nat → Prop} {a : Option Addr} {n c : Nat} {xs : List α} (h : SlV t w F (.slice a n c) xs) : n ≤ c ∧ c ≤ 9223372036854775807 := by
  obtain ⟨a', c', hv, h1, h2, h3, h4⟩ := h
  cases hv
  exact ⟨h1, by simpa [maxLen] using h2⟩
end Go.Vc

namespace Go.Vc
set_option linter.unusedVariables false
set_option linter.unusedSimpArgs false
theorem OwV.ne_blk {α : Type} {t : Ty α} {e T : TypeId} {w : World} {B n c b : Nat} {F : Nat → Prop} {q : Addr} {xs : List α} {cs : List Value} (h : OwV t e w B F (.slice (some q) n c) xs) (hb : Blk w b cs T) (hne : e ≠ T) : q.block ≠ b := by
  obtain ⟨cells, ⟨_, h1⟩, _⟩ := h
  rcases h1 with ⟨h0, _⟩ | ⟨g, cap, cur, hv, _, hg, _⟩
  · cases h0
  · simp only [Value.slice.injEq, Option.some.injEq] at hv
    obtain ⟨rfl, _, rfl⟩ := hv
    intro he
    dsimp only at he
    subst he
    have hb' : Blk w g cur.toList e := by unfold Blk; simpa using hg
    rw [Blk] at hb hb'
    rw [hb] at hb'
    simp only [Option.some.injEq, Obj.cells.injEq] at hb'
    exact hne hb'.2.1.symm
theorem SlV.just {w : World} {F : Nat → Prop} {q : Addr} {n c : Nat} {xs : List UInt8} (h : SlV tU8 w F (.slice (some q) n c) xs) : SlV tU8 w (fun i => i = q.block) (.slice (some q) n c) xs := by
  obtain ⟨a', c', hv, h1, h2, h3, h4⟩ := h
  cases hv
  refine ⟨_, _, rfl, h1, h2, h3, fun i x hx => ?_⟩
  obtain ⟨q', cs, hq, hF, hp, hr⟩ := h4 i x hx
  cases hq
  exact ⟨q, cs, rfl, rfl, hp, hr⟩
def optW (b : Bool) (x : List UInt8) : List UInt8 := if b = true then x else []
def spE (e : EnV) : List UInt8 := wNum e.1.toNat ++ wBytes e.2
def hdW (m : Ms) : List UInt8 := wNum m.kind.toNat ++ wNum m.fr.toNat ++ wNum m.to.toNat ++ wNum m.grp.toNat ++ wNum m.term.toNat
end Go.Vc

namespace Go.Vc
set_option linter.unusedVariables false
set_option linter.unusedSimpArgs false
/-- '[][]byte{..}' of five -/
theorem to_bytes5 {P : Program} {d : Option Tmp} {ty : TypeId} {p : String} {af : Array Edge} {g : Option (Nat × Bool)} {e : Nat → Value} {w : World} {K : Value → World → Prop} {T et bytes : Nat} {x0 x1 x2 x3 x4 : Operand} {v0 v1 v2 v3 v4 z : Value} {F : Nat → Prop} {y0 y1 y2 y3 y4 : List UInt8} (hk : kElem P T et (tSl tU8).sz bytes = true) (hz : kZeros P et 5 [z, z, z, z, z])
    (h0 : ev e x0 = v0) (h1 : ev e x1 = v1) (h2 : ev e x2 = v2) (h3 : ev e x3 = v3) (h4 : ev e x4 = v4) (r0 : Bv w F v0 y0) (r1 : Bv w F v1 y1) (r2 : Bv w F v2 y2) (r3 : Bv w F v3 y3) (r4 : Bv w F v4 y4)
    (k : ∀ b w', b = w.heap.size → OwV (tSl tU8) et w' b (fun b => F b ∧ b < w.heap.size) (.slice (some ⟨b, 0, none⟩) 5 5) [y0, y1, y2, y3, y4] → Ext w w' → w'.heap.size = b + 1 → K (.slice (some ⟨b, 0, none⟩) 5 5) w') :
    OpTo P ⟨d, .buildSlice T 5 #[(0, x0), (1, x1), (2, x2), (3, x3), (4, x4)], ty, p, af, g⟩ e w K := by
  refine to_sliceN (t := tSl tU8) (xs := [y0, y1, y2, y3, y4]) (cells := [v0, v1, v2, v3, v4]) (ps := [(0, v0), (1, v1), (2, v2), (3, v3), (4, v4)]) hk (by decide) (by decide) hz (by simp [h0, h1, h2, h3, h4]) ?_ rfl rfl ?_ k
  · have hsz : (tSl tU8).sz = 1 := rfl
    simp [fillL, one_cells r0.one, one_cells r1.one, one_cells r2.one, one_cells r3.one, one_cells r4.one, setAt, hsz]
  · intro i x hx
    match i, hx with
    | 0, hx => cases hx; exact ⟨_, rfl, r0⟩
    | 1, hx => cases hx; exact ⟨_, rfl, r1⟩
    | 2, hx => cases hx; exact ⟨_, rfl, r2⟩
    | 3, hx => cases hx; exact ⟨_, rfl, r3⟩
    | 4, hx => cases hx; exact ⟨_, rfl, r4⟩
theorem rep_one {w : World} {F : Nat → Prop} {v : Value} {y : List UInt8} (h : Bv w F v y) : (tSl tU8).rep w F v.cells.toList y := by
  rw [one_cells h.one]; exact ⟨_, rfl, h⟩
theorem optF_le {b : Bool} {y : List UInt8} : (optW b [y].flatten).length ≤ y.length := by
  cases b <;> simp [optW]
theorem hdW_le {m : Ms} (hm : mayN m = true) : (hdW m).length ≤ 50 := by
  obtain ⟨⟨h1, h2, h3, _, h5, h6⟩, _⟩ := mayN_iff.1 hm
  have a1 := wNum_len10 (n := m.kind.toNat) (by omega)
  have a2 := wNum_len10 (n := m.fr.toNat) (by omega)
  have a3 := wNum_len10 (n := m.to.toNat) (by omega)
  have a4 := wNum_len10 (n := m.grp.toNat) (by omega)
  have a5 := wNum_len10 (n := m.term.toNat) (by omega)
  simp only [hdW, List.length_append]; omega
end Go.Vc

namespace Go.Vc
set_option linter.unusedVariables false
set_option linter.unusedSimpArgs false
set_option maxRecDepth 100000
def voteM (a b : Int) : Ms := ⟨1, a, b, 0, 1, 0, 0, 0, [], false, []⟩
def msZ : Ms := ⟨0, 0, 0, 0, 0, 0, 0, 0, [], false, []⟩
theorem i64_1 : I64 1 := by unfold I64; decide
theorem vote_ag {w : World} {F : Nat → Prop} {a b : Int} (ha : I64 a) (hb : I64 b) : AgV tMs w F (.agg #[.int .i64 1, .int .i64 a, .int .i64 b, .int .i64 0, .int .i64 1, .int .i64 0, .int .i64 0, .int .i64 0, .slice none 0 0, .bool false, .slice none 0 0]) (voteM a b) :=
  AgV.mkMs (m := voteM a b) (SlV.nil _ _ _) (SlV.nil _ _ _) ⟨i64_1, ha, hb, i64_0, i64_1, i64_0, i64_0, i64_0⟩
theorem vote_rep {w : World} {F : Nat → Prop} {a b : Int} (ha : I64 a) (hb : I64 b) : tMs.rep w F [.int .i64 1, .int .i64 a, .int .i64 b, .int .i64 0, .int .i64 1, .int .i64 0, .int .i64 0, .int .i64 0, .slice none 0 0, .bool false, .slice none 0 0] (voteM a b) := by
  obtain ⟨cs, h, hr⟩ := vote_ag (w := w) (F := F) ha hb
  simp only [Value.agg.injEq] at h
  have := congrArg Array.toList h
  simp only [List.toList_toArray] at this
  rw [this]; exact hr
theorem zero_ag {w : World} {F : Nat → Prop} : AgV tMs w F (.agg #[.int .i64 0, .int .i64 0, .int .i64 0, .int .i64 0, .int .i64 0, .int .i64 0, .int .i64 0, .int .i64 0, .slice none 0 0, .bool false, .slice none 0 0]) msZ :=
  AgV.mkMs (m := msZ) (SlV.nil _ _ _) (SlV.nil _ _ _) ⟨i64_0, i64_0, i64_0, i64_0, i64_0, i64_0, i64_0, i64_0⟩
theorem zero_rep {w : World} {F : Nat → Prop} : tMs.rep w F [.int .i64 0, .int .i64 0, .int .i64 0, .int .i64 0, .int .i64 0, .int .i64 0, .int .i64 0, .int .i64 0, .slice none 0 0, .bool false, .slice none 0 0] msZ := by
  obtain ⟨cs, h, hr⟩ := zero_ag (w := w) (F := F)
  simp only [Value.agg.injEq] at h
  have := congrArg Array.toList h
  simp only [List.toList_toArray] at this
  rw [this]; exact hr
theorem may_vote : mayN (voteM 0 1) = true := by simp [mayN, voteM, wiB, numB, kNm, kRows]
theorem may_v00 : mayN (voteM 0 0) = false := by simp [mayN, voteM, wiB, numB, kNm, kRows]
theorem may2 : ∀ m ∈ [voteM 0 1, voteM 0 1], mayN m = true := by
  intro m hm; simp only [List.mem_cons, List.not_mem_nil, or_false, or_self] at hm; rw [hm]; exact may_vote
theorem may3 : ∀ m ∈ [voteM 0 1, voteM 0 1, voteM 0 1], mayN m = true := by
  intro m hm; simp only [List.mem_cons, List.not_mem_nil, or_false, or_self] at hm; rw [hm]; exact may_vote
theorem mayr (n : Nat) : ∀ m ∈ List.replicate n (voteM 0 1), mayN m = true := by
  intro m hm; rw [List.eq_of_mem_replicate hm]; exact may_vote
theorem mayno : [voteM 0 0].any (fun m => !mayN m) = true := by simp [may_v00]
theorem many_set {i n : Nat} {x z : Ms} (h : i < n) : (List.replicate i x ++ List.replicate (n - i) z).set i x = List.replicate (i + 1) x ++ List.replicate (n - (i + 1)) z := by
  rw [show n - i = (n - (i + 1)) + 1 by omega, List.replicate_succ, List.set_append_right _ _ (by simp)]
  simp only [List.length_replicate, Nat.sub_self, List.set_cons_zero]
  rw [List.replicate_succ' , List.append_assoc]; rfl
theorem send_many' {x : Ms} (l : List Ms) (h : l.length = 256) : sendL [x, x] l = l := by
  have h2 : [x, x].length = 2 := rfl
  have : sendN [x, x] l = 2 := by unfold sendN; omega
  rw [sendL, this]; rfl
theorem send_many {x : Ms} : sendL [x, x] (List.replicate 256 x) = List.replicate 256 x := send_many' _ (List.length_replicate ..)
end Go.Vc

namespace Go.Vc
set_option linter.unusedVariables false
set_option linter.unusedSimpArgs false
open Go.ChangeShapes Go.WideShapes Go.ChangeAt Go.RowKit
theorem len_reachB {P : Program} {T E : TypeId} {H : Type} {enc : TypeId × Value → H} {w : World} {base : Nat} {spare : Nat → Bool} {held : Bool} {fuel : Nat} {a : Option Addr} {n c : Nat} {y : DataW H × List MemPlace}
    (hu : P.underlying T = some (.slice E)) (h : DataW.trod enc P w base spare held fuel T [.slice a n c] = some y) (hr : ∀ m ∈ y.1.weights P T, m ≤ reachBytes) : n * P.bytesOf E ≤ reachBytes := by
  rcases DataW.trod_slice hu h with ⟨he, _⟩ | ⟨q, len, cap, elems, rest, k, _, he, rfl, _, _, _, hlen, _⟩
  · simp only [List.cons.injEq, Value.slice.injEq, and_true] at he
    obtain ⟨_, rfl, _⟩ := he
    omega
  · simp only [List.cons.injEq, Value.slice.injEq, and_true] at he
    have := hr ((elems.length + rest.length) * P.bytesOf E) (by simp [DataW.weights, hu])
    exact Nat.le_trans (Nat.mul_le_mul_right _ (by omega)) this
theorem fld_reach {P : Program} {T B E : TypeId} {fs : Array Field} {L : List (TypeId × Nat)} {H : Type} {enc : TypeId × Value → H} {w : World} {base : Nat} {spare : Nat → Bool} {held : Bool} {v : Value} {d : DataW H} {ps : List MemPlace} {i l c : Nat} {a : Option Addr}
    (hu : P.underlying T = some (.struct fs)) (hf : fs.toList.map (fun f => (f.type, f.offset)) = L) (hi : L[i]? = some (B, i)) (hB : P.underlying B = some (.slice E)) (hc : P.cellsOf B = 1)
    (k : DataW.Trod enc P w base spare held T v d ps) (hr : ∀ n ∈ d.weights P T, n ≤ reachBytes) (he : (v.cells.toList.drop i).take 1 = [.slice a l c]) : l * P.bytesOf E ≤ reachBytes := by
  obtain ⟨n, hn⟩ := k
  obtain ⟨xs, m, _, hd, _, hxl, hh⟩ := DataW.trod_struct hu hn
  have hd1 : d = .agg (xs.map (·.1)) := congrArg Prod.fst hd
  subst hd1
  have hil : i < fs.size := by
    have h1 := (List.getElem?_eq_some_iff.1 hi).1
    rw [← hf] at h1; simpa using h1
  have hfi : fs[i]? = some (fs[i]'hil) := by simp [hil]
  have hp : ((fs[i]'hil).type, (fs[i]'hil).offset) = (B, i) := by
    have h1 : (fs.toList.map (fun f => (f.type, f.offset)))[i]? = some ((fs[i]'hil).type, (fs[i]'hil).offset) := by
      rw [List.getElem?_map, Array.getElem?_toList, hfi]; rfl
    rw [hf, hi] at h1
    exact (Option.some.inj h1).symm
  have h2 := hh i _ hfi
  rw [(Prod.mk.inj hp).1, (Prod.mk.inj hp).2, hc, he] at h2
  have h3 : xs[i]? = some (xs[i]'(by omega)) := by simp [hxl, hil]
  rw [h3] at h2
  refine len_reachB hB h2 fun q hq => hr q ?_
  simp only [DataW.weights, hu]
  refine DataW.weights_mem_each (j := i) (t := B) ?_ (d := (xs[i]'(by omega)).1) ?_ q hq
  · rw [List.getElem?_map, Array.getElem?_toList, hfi]
    simp only [Option.map_some]
    rw [(Prod.mk.inj hp).1]
  · rw [List.getElem?_map, h3]; rfl
/-- a message's lengths are within the form's reach -/
theorem ms_reach {P : Program} {T Be Bs Ee Es : TypeId} {fs : Array Field} {L : List (TypeId × Nat)} {H : Type} {enc : TypeId × Value → H} {w w' : World} {base : Nat} {spare : Nat → Bool} {held : Bool} {F : Nat → Prop} {x : MsT} {v : Value} {d : DataW H} {ps : List MemPlace}
    (hu : P.underlying T = some (.struct fs)) (hf : fs.toList.map (fun f => (f.type, f.offset)) = L) (h8 : L[8]? = some (Be, 8)) (h10 : L[10]? = some (Bs, 10)) (hBe : P.underlying Be = some (.slice Ee)) (hBs : P.underlying Bs = some (.slice Es)) (hce : P.cellsOf Be = 1) (hcs : P.cellsOf Bs = 1) (hee : P.bytesOf Ee = 32) (hes : P.bytesOf Es = 1)
    (k : DataW.Trod enc P w base spare held T v d ps) (hr : ∀ n ∈ d.weights P T, n ≤ reachBytes) (hx : tMsT.rep w' F v.cells.toList x) : (msOf x).snap.length ≤ 140737488355328 ∧ (msOf x).ents.length ≤ 140737488355328 := by
  obtain ⟨a1, c1, a2, c2, hcs', _⟩ := tMs_cells (m := msOf x) (show tMs.rep w' F v.cells.toList (msOf x) from hx)
  have r1 := fld_reach hu hf h8 hBe hce k hr (a := a1) (l := (msOf x).ents.length) (c := c1) (by rw [hcs']; rfl)
  have r2 := fld_reach hu hf h10 hBs hcs k hr (a := a2) (l := (msOf x).snap.length) (c := c2) (by rw [hcs']; rfl)
  rw [hee] at r1; rw [hes] at r2
  have := reachBytes_lt
  omega
end Go.Vc
namespace Go.Vc
theorem ag_ms {w : World} {F : Nat → Prop} {v : Value} {x : MsT} (h : AgV tMsT w F v x) : AgV tMs w F v (msOf x) := by
  obtain ⟨cs, h1, h2⟩ := h
  exact ⟨cs, h1, h2⟩
end Go.Vc

namespace Go.Vc
set_option linter.unusedVariables false
set_option linter.unusedSimpArgs false
open Go.ChangeShapes Go.WideShapes Go.ChangeAt Go.RowKit
def msLen (m : Ms) : Prop := m.snap.length ≤ 140737488355328 ∧ m.ents.length ≤ 140737488355328
/-- a message whose lengths are within the form's reach -/
abbrev tMsB : Ty Ms := tWith tMs msLen
theorem opensR_ms {P : Program} {T Be Bs Ee Es : TypeId} {fs : Array Field} {L : List (TypeId × Nat)} (hop : Opens P T tMsT)
    (hu : P.underlying T = some (.struct fs)) (hf : fs.toList.map (fun f => (f.type, f.offset)) = L) (h8 : L[8]? = some (Be, 8)) (h10 : L[10]? = some (Bs, 10)) (hBe : P.underlying Be = some (.slice Ee)) (hBs : P.underlying Bs = some (.slice Es)) (hce : P.cellsOf Be = 1) (hcs : P.cellsOf Bs = 1) (hee : P.bytesOf Ee = 32) (hes : P.bytesOf Es = 1) : OpensR P T tMsB := by
  intro H enc w base spare held fuel cs d ps h1 hr
  obtain ⟨x, hx⟩ := hop enc w base spare held fuel cs d ps h1
  refine ⟨msOf x, hx, ?_⟩
  exact ms_reach (v := .agg cs.toArray) hu hf h8 h10 hBe hBs hce hcs hee hes ⟨fuel, h1⟩ hr hx
/-- a step: its kind, its number, its messages -/
abbrev StpV := Int × Int × List Ms
abbrev tStp : Ty StpV := tPair (tInt .i64) (tPair (tInt .i64) (tSl tMsB))
theorem SlV.unB {w : World} {F : Nat → Prop} {v : Value} {xs : List Ms} (h : SlV tMsB w F v xs) : SlV tMs w F v xs ∧ ∀ m ∈ xs, msLen m := by
  obtain ⟨a, c, hv, h1, h2, h3, h4⟩ := h
  refine ⟨⟨a, c, hv, h1, h2, h3, fun i x hx => ?_⟩, fun m hm => ?_⟩
  · obtain ⟨q, cs, hq, hF, hp, hr⟩ := h4 i x hx
    exact ⟨q, cs, hq, hF, hp, hr.1⟩
  · obtain ⟨i, hi⟩ := List.mem_iff_getElem?.1 hm
    obtain ⟨q, cs, hq, hF, hp, hr⟩ := h4 i m hi
    exact hr.2
theorem tStp_cells {w : World} {F : Nat → Prop} {cs : List Value} {r : StpV} (h : tStp.rep w F cs r) : ∃ a c, cs = [.int .i64 r.1, .int .i64 r.2.1, .slice a r.2.2.length c] ∧ SlV tMs w F (.slice a r.2.2.length c) r.2.2 ∧ (∀ m ∈ r.2.2, msLen m) ∧ I64 r.1 ∧ I64 r.2.1 := by
  obtain ⟨k1, k2, rfl, ⟨rfl, h1⟩, k3, k4, rfl, ⟨rfl, h2⟩, v, rfl, h4⟩ := h
  obtain ⟨a, c, rfl⟩ := h4.shape
  obtain ⟨g1, g2⟩ := h4.unB
  exact ⟨a, c, rfl, g1, g2, wf_i64 h1, wf_i64 h2⟩
/-- a step that is gone through -/
def stOk (s : StpV) : Prop := s.2.2.length ≤ 600 ∧ ∀ m ∈ s.2.2, sizeN m ≤ 200000
theorem sendL_may {ms ls : List Ms} (h1 : ∀ m ∈ ms, mayN m = true) (h2 : ∀ m ∈ ls, mayN m = true) : ∀ m ∈ sendL ms ls, mayN m = true := by
  intro m hm
  rcases List.mem_append.1 (List.mem_of_mem_drop hm) with h | h
  · exact h1 m h
  · exact h2 m h
theorem erase_may {ms : List Ms} {i : Nat} (h1 : ∀ m ∈ ms, mayN m = true) : ∀ m ∈ ms.eraseIdx i, mayN m = true := fun m hm => h1 m (List.mem_of_mem_eraseIdx hm)
theorem any_may' {ls : List Ms} (h : ¬ ls.any (fun m => !mayN m) = true) : ∀ m ∈ ls, mayN m = true := by
  intro m hm
  have h2 : ls.any (fun m => !mayN m) = false := by revert h; cases ls.any (fun m => !mayN m) <;> simp
  rw [List.any_eq_false] at h2
  have := h2 m hm
  simpa using this
end Go.Vc
namespace Go.Vc
theorem inL_all {m m2 : List Nat} (h : m2.all (inL m) = true) {i : Nat} (hi : inL m2 i = true) : inL m i = true := by
  unfold inL at hi
  rw [List.any_eq_true] at hi
  obtain ⟨x, hx, he⟩ := hi
  have := List.all_eq_true.1 h x hx
  have hxi : i = x := Nat.eq_of_beq_eq_true he
  rw [hxi]; exact this
theorem Off.overs {m m2 : List Nat} {e e' : Nat → Value} (h : Off m e e') (hs : m2.all (inL m) = true) (j : Nat → Value) : Off m e (Vc.over e' m2 j) := fun i hi => by
  cases h2 : inL m2 i with
  | true => rw [inL_all hs h2] at hi; cases hi
  | false => simp only [Vc.over, h2, cond_false]; exact h i hi
end Go.Vc

namespace Go.Vc
set_option linter.unusedVariables false
set_option linter.unusedSimpArgs false
theorem parts4 {e : Nat → Value} {i0 i1 i2 i3 : Nat} {x0 x1 x2 x3 : Operand} {v0 v1 v2 v3 : Value} (h0 : ev e x0 = v0) (h1 : ev e x1 = v1) (h2 : ev e x2 = v2) (h3 : ev e x3 = v3) : (#[(i0, x0), (i1, x1), (i2, x2), (i3, x3)] : Array (Nat × Operand)).toList.map (fun x => (x.1, ev e x.2)) = [(i0, v0), (i1, v1), (i2, v2), (i3, v3)] := by simp [h0, h1, h2, h3]
theorem reps_flat {α : Type} {t : Ty α} {w : World} {F : Nat → Prop} (css : List (List Value)) (xs : List α) (hl : ∀ c ∈ css, c.length = t.sz) (h : ∀ (i : Nat) (x : α), xs[i]? = some x → ∃ c, css[i]? = some c ∧ t.rep w F c x) : ∀ (i : Nat) (x : α), xs[i]? = some x → t.rep w F ((css.flatten.drop (i * t.sz)).take t.sz) x := by
  intro i x hx
  obtain ⟨c, hc, hr⟩ := h i x hx
  rw [flatMap_take_drop css hl i c hc]
  exact hr
/-- cells and what they are, one by one -/
def allRep {α : Type} (t : Ty α) (w : World) (F : Nat → Prop) : List (List Value) → List α → Prop
  | [], [] => True
  | c :: cs, x :: xs => t.rep w F c x ∧ allRep t w F cs xs
  | _, _ => False
theorem allRep.len {α : Type} {t : Ty α} {w : World} {F : Nat → Prop} : ∀ {css : List (List Value)} {xs : List α}, allRep t w F css xs → ∀ c ∈ css, c.length = t.sz
  | [], [], _, c, hc => by simp at hc
  | d :: cs, x :: xs, h, c, hc => by
    rcases List.mem_cons.1 hc with rfl | hc
    · exact t.len h.1
    · exact allRep.len h.2 c hc
theorem allRep.get {α : Type} {t : Ty α} {w : World} {F : Nat → Prop} : ∀ {css : List (List Value)} {xs : List α}, allRep t w F css xs → ∀ (i : Nat) (x : α), xs[i]? = some x → ∃ c, css[i]? = some c ∧ t.rep w F c x
  | [], [], _, i, x, hx => by simp at hx
  | d :: cs, y :: xs, h, 0, x, hx => by simp at hx; subst hx; exact ⟨d, rfl, h.1⟩
  | d :: cs, y :: xs, h, i + 1, x, hx => by
    obtain ⟨c, hc, hr⟩ := allRep.get h.2 i x (by simpa using hx)
    exact ⟨c, by simpa using hc, hr⟩
theorem allRep.reps {α : Type} {t : Ty α} {w : World} {F : Nat → Prop} {css : List (List Value)} {xs : List α} (h : allRep t w F css xs) : ∀ (i : Nat) (x : α), xs[i]? = some x → t.rep w F ((css.flatten.drop (i * t.sz)).take t.sz) x := reps_flat css xs h.len h.get
/-- a message by its fields' cells -/
theorem ms_rep {w : World} {F : Nat → Prop} {k f t g te i l c : Int} {v1 v2 : Value} {es : List EnV} {b : Bool} {sn : List UInt8} (h1 : SlV tEn w F v1 es) (h2 : Bv w F v2 sn) (hw : I64 k ∧ I64 f ∧ I64 t ∧ I64 g ∧ I64 te ∧ I64 i ∧ I64 l ∧ I64 c) : tMs.rep w F [.int .i64 k, .int .i64 f, .int .i64 t, .int .i64 g, .int .i64 te, .int .i64 i, .int .i64 l, .int .i64 c, v1, .bool b, v2] ⟨k, f, t, g, te, i, l, c, es, b, sn⟩ :=
  tMs_mk (m := ⟨k, f, t, g, te, i, l, c, es, b, sn⟩) h1 h2 ⟨hw.1, hw.2.1, hw.2.2.1, hw.2.2.2.1, hw.2.2.2.2.1, hw.2.2.2.2.2.1, hw.2.2.2.2.2.2.1, hw.2.2.2.2.2.2.2⟩
def bM (es : List EnV) (k : Int) : Ms := ⟨k, 1, 0, 0, 1, 0, 0, 0, es, false, []⟩
def bV : Ms := ⟨1, 0, 4, 4, 2147483647, 2147483647, 2147483647, 0, [], false, []⟩
def en1 : EnV := (1, [])
/-- messages beyond their bounds -/
def bL : List Ms := [⟨1, 0, 5, 4, 2147483647, 2147483647, 2147483647, 0, [], false, []⟩, ⟨1, 0, 4, 5, 2147483647, 2147483647, 2147483647, 0, [], false, []⟩, ⟨1, 0, 4, 4, 0, 2147483647, 2147483647, 0, [], false, []⟩, ⟨1, 0, 4, 4, 2147483647, -1, 2147483647, 0, [], false, []⟩, ⟨1, 0, 4, 4, 2147483647, 2147483647, 2147483647, 1, [], false, []⟩, ⟨8, 0, 4, 4, 2147483647, 2147483647, 2147483647, 0, [], false, []⟩, msZ, bM [] 6, bM [(0, [])] 7, bM (List.replicate 65 en1) 3, bM (List.replicate 2 en1) 6]
set_option maxRecDepth 100000 in
theorem bL_no : ∀ m ∈ bL, mayN m = false := by
  intro m hm
  simp only [bL, List.mem_cons, List.not_mem_nil, or_false] at hm
  rcases hm with rfl | rfl | rfl | rfl | rfl | rfl | rfl | rfl | rfl | rfl | rfl <;> simp [mayN, wiB, numB, kNm, kRows, msZ, bM, badE, en1]
theorem bV_may : mayN bV = true := by simp [mayN, wiB, numB, kNm, kRows, bV]
theorem bA_may : mayN (bM (List.replicate 64 en1) 3) = true := by
  rw [mayN_iff]
  refine ⟨by simp [mayA, bM], ⟨by simp [bM], by simp [bM], by simp [bM], by simp [bM], by simp [bM], ?_⟩, ?_, by simp [bM]⟩
  · rw [bare_iff]; simp [bM, kNm, kRows]
  · rw [List.any_eq_false]; intro e he; rw [show (bM (List.replicate 64 en1) 3).ents = List.replicate 64 en1 from rfl] at he; rw [List.eq_of_mem_replicate he]; simp [badE, wiB, en1]
theorem bD_may : mayN (bM (List.replicate 1 en1) 6) = true := by simp [mayN, wiB, numB, kNm, kRows, bM, badE, en1, List.replicate]
end Go.Vc
