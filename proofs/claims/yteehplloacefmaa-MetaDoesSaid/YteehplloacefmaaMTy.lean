/- A part of the proof: steps and lemmas for the walks through the given program. -/
import Derived.Test.YteehplloacefmaaCz
import Derived.Test.YteehplloacefmaaGe
namespace Go.Vc
set_option linter.unusedVariables false
set_option linter.unusedSimpArgs false
/-! ### the map of ranges, and the moves on their way -/
abbrev MaV := MvV × Bool
abbrev tMa : Ty MaV := tPair tMv tBool
abbrev MtV := MpV × Int × List MaV
abbrev tMt : Ty MtV := tPair tMp (tPair (tInt .i64) (tSl tMa))
instance decMa : DecidableEq MaV := @instDecidableEqProd _ _ decMv inferInstance
abbrev RgV2 := List UInt8 × Bool × Int
instance decRg2 : DecidableEq RgV2 := inferInstance
instance decRg : DecidableEq RgV := @instDecidableEqProd _ _ inferInstance decRg2
instance decMp : DecidableEq MpV := @instDecidableEqProd _ _ inferInstance (@instDecidableEqList _ decRg)
instance decMt2 : DecidableEq (Int × List MaV) := @instDecidableEqProd _ _ inferInstance (@instDecidableEqList _ decMa)
instance decMt : DecidableEq MtV := @instDecidableEqProd _ _ decMp decMt2
section
variable {w : World} {F : Nat → Prop} {cs : List Value} {v : Value}
theorem tMa_cells {a : MaV} (h : tMa.rep w F cs a) : ∃ a1 c1 a2 c2, cs = [.int .i64 a.1.1, .slice a1 a.1.2.1.length c1, .slice a2 a.1.2.2.1.length c2, .bool a.1.2.2.2.1, .int .i64 a.1.2.2.2.2.1, .int .i64 a.1.2.2.2.2.2, .bool a.2]
    ∧ Bv w F (.slice a1 a.1.2.1.length c1) a.1.2.1 ∧ Bv w F (.slice a2 a.1.2.2.1.length c2) a.1.2.2.1 ∧ I64' a.1.1 ∧ I64' a.1.2.2.2.2.1 ∧ I64' a.1.2.2.2.2.2 := by
  obtain ⟨c1, c2, rfl, h1, h2⟩ := h
  obtain ⟨a1, d1, a2, d2, rfl, h⟩ := tMv_cells h1
  obtain rfl : c2 = [.bool a.2] := h2
  exact ⟨a1, d1, a2, d2, rfl, h⟩
theorem tMa_mk {v1 v2 : Value} {n o g : Int} {x y : List UInt8} {b c : Bool} (h1 : Bv w F v1 x) (h2 : Bv w F v2 y) (i1 : I64' n) (i2 : I64' o) (i3 : I64' g) : tMa.rep w F [.int .i64 n, v1, v2, .bool b, .int .i64 o, .int .i64 g, .bool c] ((n, x, y, b, o, g), c) :=
  ⟨[_, _, _, _, _, _], [_], rfl, tMv_mk h1 h2 i1 i2 i3, rfl⟩
theorem AgV.ma {a : MaV} (h : AgV tMa w F v a) : ∃ a1 c1 a2 c2, v = .agg #[.int .i64 a.1.1, .slice a1 a.1.2.1.length c1, .slice a2 a.1.2.2.1.length c2, .bool a.1.2.2.2.1, .int .i64 a.1.2.2.2.2.1, .int .i64 a.1.2.2.2.2.2, .bool a.2]
    ∧ Bv w F (.slice a1 a.1.2.1.length c1) a.1.2.1 ∧ Bv w F (.slice a2 a.1.2.2.1.length c2) a.1.2.2.1 ∧ I64' a.1.1 ∧ I64' a.1.2.2.2.2.1 ∧ I64' a.1.2.2.2.2.2 := by
  obtain ⟨cs, rfl, hr⟩ := h
  obtain ⟨a1, c1, a2, c2, rfl, h⟩ := tMa_cells hr
  exact ⟨a1, c1, a2, c2, rfl, h⟩
theorem AgV.mt {s : MtV} (h : AgV tMt w F v s) : ∃ a c a2 c2, v = .agg #[.int .i64 s.1.1, .slice a s.1.2.length c, .int .i64 s.2.1, .slice a2 s.2.2.length c2] ∧ SlV tRg w F (.slice a s.1.2.length c) s.1.2 ∧ SlV tMa w F (.slice a2 s.2.2.length c2) s.2.2 ∧ I64' s.1.1 ∧ I64' s.2.1 := by
  obtain ⟨cs, rfl, k1, k2, rfl, ⟨_, _, rfl, ⟨rfl, i1⟩, v1, rfl, h1⟩, _, _, rfl, ⟨rfl, i2⟩, v2, rfl, h2⟩ := h
  obtain ⟨a, c, rfl⟩ := h1.shape
  obtain ⟨a2, c2, rfl⟩ := h2.shape
  exact ⟨a, c, a2, c2, rfl, h1, h2, wf_i64 i1, wf_i64 i2⟩
theorem AgV.mkMt {v1 v2 : Value} {e n : Int} {rs : List RgV} {ms : List MaV} (h1 : SlV tRg w F v1 rs) (h2 : SlV tMa w F v2 ms) (i1 : I64' e) (i2 : I64' n) : AgV tMt w F (.agg #[.int .i64 e, v1, .int .i64 n, v2]) ((e, rs), n, ms) :=
  ⟨_, rfl, [_, v1], [_, v2], rfl, ⟨[_], [v1], rfl, ⟨rfl, wf_of_i64 i1⟩, v1, rfl, h1⟩, [_], [v2], rfl, ⟨rfl, wf_of_i64 i2⟩, v2, rfl, h2⟩
theorem AgV.mpOf {v1 : Value} {e : Int} {rs : List RgV} (h1 : SlV tRg w F v1 rs) (i1 : I64' e) : AgV tMp w F (.agg #[.int .i64 e, v1]) (e, rs) := AgV.mkMp h1 i1
theorem AgV.maMv {x0 x1 x2 x3 x4 x5 x6 : Value} {a : MaV} (h : AgV tMa w F (.agg #[x0, x1, x2, x3, x4, x5, x6]) a) : AgV tMv w F (.agg #[x0, x1, x2, x3, x4, x5]) a.1 := by
  obtain ⟨a1, c1, a2, c2, he, g1, g2, i1, i2, i3⟩ := h.ma
  simp only [Value.agg.injEq, Array.mk.injEq, List.cons.injEq, and_true] at he
  obtain ⟨rfl, rfl, rfl, rfl, rfl, rfl, rfl⟩ := he
  exact ⟨_, rfl, tMv_mk g1 g2 i1 i2 i3⟩
end
def mt0 : MtV := (mp0, 0, [])
theorem mt0_ag {w : World} {F : Nat → Prop} : AgV tMt w F (.agg #[.int .i64 0, .slice none 0 0, .int .i64 0, .slice none 0 0]) mt0 := AgV.mkMt (SlV.nil _ _ _) (SlV.nil _ _ _) ⟨by decide, by decide⟩ ⟨by decide, by decide⟩
/-! ### which may be -/
def begI (rs : List RgV) (k : List UInt8) : Option Nat := rs.findIdx? (begB k)
def atMa (rs : List RgV) (x : MaV) : Bool := match begI rs x.1.2.1 with
  | none => false
  | some i => decide ((rs.getD i rg0).2.2.1 = x.1.2.2.2.1) && decide ((rs.getD i rg0).2.1 = x.1.2.2.1) && decide ((rs.getD i rg0).2.2.2 = if x.2 then x.1.2.2.2.2.2 else x.1.2.2.2.2.1)
def okMa (rs : List RgV) (n : Int) (l : List MaV) (i : Nat) : Bool := match l[i]? with
  | none => true
  | some x => mayMv x.1 && decide (x.1.1 < n) && (match i with | 0 => true | j + 1 => match l[j]? with | none => true | some y => decide (y.1.1 < x.1.1)) && atMa rs x && (l.take i).all (fun y => !decide (y.1.2.1 = x.1.2.1))
def mayMa (rs : List RgV) (n : Int) (l : List MaV) : Bool := (List.range l.length).all (okMa rs n l)
def mayMt (s : MtV) : Bool := mayM s.1 && decide (1 ≤ s.2.1) && decide (s.2.1 ≤ 2147483647) && mayMa s.1.2 s.2.1 s.2.2
theorem mayMa_no {rs : List RgV} {n : Int} {l : List MaV} {i : Nat} (hi : i < l.length) (h : okMa rs n l i = false) : mayMa rs n l = false := by
  rw [mayMa, Bool.eq_false_iff]; intro h2
  rw [List.all_eq_true] at h2
  rw [h2 i (List.mem_range.2 hi)] at h; cases h
theorem mayMa_yes {rs : List RgV} {n : Int} {l : List MaV} (h : ∀ i, i < l.length → okMa rs n l i = true) : mayMa rs n l = true := by
  rw [mayMa, List.all_eq_true]; exact fun i hi => h i (List.mem_range.1 hi)
theorem mayMa_at {rs : List RgV} {n : Int} {l : List MaV} (h : mayMa rs n l = true) {i : Nat} (hi : i < l.length) : okMa rs n l i = true := by
  rw [mayMa, List.all_eq_true] at h; exact h i (List.mem_range.2 hi)
def mvgB (l : List MaV) (k : List UInt8) : Bool := l.any fun x => decide (x.1.2.1 = k)
/-! ### what comes of a state -/
def stepB (k : Bool) (m : MvV) (x : MaV) : Bool := decide (x.1 = m) && !decide (x.2 = k)
def begMt (s : MtV) (key : List UInt8) (g : Int) : MtV × Int := match begI s.1.2 key with
  | none => (s, 6)
  | some i => if mvgB s.2.2 key || decide ((s.1.2.getD i rg0).2.2.2 = g) then (s, 9) else if 2147483647 ≤ s.2.1 then (s, 5) else
    ((s.1, s.2.1 + 1, s.2.2 ++ [((s.2.1, (s.1.2.getD i rg0).1, (s.1.2.getD i rg0).2.1, (s.1.2.getD i rg0).2.2.1, (s.1.2.getD i rg0).2.2.2, g), false)]), 0)
def goMt (s : MtV) (cut : Bool) (m : MvV) : MtV × Int := match s.2.2.findIdx? (stepB cut m) with
  | none => (s, 9)
  | some i => if cut then (if (giveM s.1 m.2.1 m.2.2.2.2.2).2 = 0 then (((giveM s.1 m.2.1 m.2.2.2.2.2).1, s.2.1, s.2.2.set i (((s.2.2.getD i (mv0, false)).1, true))), 0) else (s, (giveM s.1 m.2.1 m.2.2.2.2.2).2)) else ((s.1, s.2.1, s.2.2.eraseIdx i), 0)
def stMt (s : MtV) (c : CmV) : MtV × Int :=
  if c.1 = 6 then (if mvgB s.2.2 (rgAt s.1.2 (findO s.1 (hasB c.2.2.2.2.2.1))).1 then (s, 9) else (((splitM s.1 c.2.2.2.2.2.1).1, s.2), (splitM s.1 c.2.2.2.2.2.1).2))
  else if c.1 = 7 then (match begI s.1.2 c.2.2.2.2.2.1 with
    | some (i + 1) => if mvgB s.2.2 c.2.2.2.2.2.1 || mvgB s.2.2 (s.1.2.getD i rg0).1 then (s, 9) else (((unionM s.1 c.2.2.2.2.2.1).1, s.2), (unionM s.1 c.2.2.2.2.2.1).2)
    | _ => (((unionM s.1 c.2.2.2.2.2.1).1, s.2), (unionM s.1 c.2.2.2.2.2.1).2))
  else if c.1 = 8 then begMt s c.2.2.2.2.2.1 c.2.2.2.2.2.2
  else if c.1 = 9 ∨ c.1 = 10 then goMt s (decide (c.1 = 9)) c.2.2.1
  else (s, 2)
def doMt (s : MtV) (c : CmV) : MtV × Int := if (mayMt s && mayCm c) = false then (mt0, 2) else if (stMt s c).2 = 0 then stMt s c else (mt0, (stMt s c).2)
end Go.Vc
