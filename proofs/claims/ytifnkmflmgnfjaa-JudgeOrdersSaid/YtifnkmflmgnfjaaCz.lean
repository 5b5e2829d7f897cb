/- A part of the proof: steps and lemmas for the walks through the given program. -/
import Derived.Test.YtifnkmflmgnfjaaGe
import Derived.Test.YtifnkmflmgnfjaaGz
import Derived.Test.YtifnkmflmgnfjaaCy
import Derived.Test.YtifnkmflmgnfjaaGy
import Derived.Test.YtifnkmflmgnfjaaGc
import Derived.Test.YtifnkmflmgnfjaaGn
namespace Go.Vc
set_option linter.unusedVariables false
set_option linter.unusedSimpArgs false
/-! ### asks, requests, moves, entries, commands -/
/-- kind, key, to, value, was, none, most -/
abbrev AkV := Int × List UInt8 × List UInt8 × List UInt8 × List UInt8 × Bool × Int
abbrev tAk : Ty AkV := tPair (tInt .i64) (tPair tBy (tPair tBy (tPair tBy (tPair tBy (tPair tBool (tInt .i64))))))
/-- client, number, ask -/
abbrev RqV := Int × Int × AkV
abbrev tRq : Ty RqV := tPair (tInt .i64) (tPair (tInt .i64) tAk)
/-- number, from, to, end, old, new -/
abbrev MvV := Int × List UInt8 × List UInt8 × Bool × Int × Int
abbrev tMv : Ty MvV := tPair (tInt .i64) (tPair tBy (tPair tBy (tPair tBool (tPair (tInt .i64) (tInt .i64)))))
/-- key, seq, kind, value -/
abbrev IkV := List UInt8 × Int × Int × List UInt8
abbrev tIk : Ty IkV := tPair tBy (tPair (tInt .i64) (tPair (tInt .i64) tBy))
/-- kind, request, move, entries, answers, key, group -/
abbrev CmV := Int × RqV × MvV × List IkV × List UInt8 × List UInt8 × Int
abbrev tCm : Ty CmV := tPair (tInt .i64) (tPair tRq (tPair tMv (tPair (tSl tIk) (tPair tBy (tPair tBy (tInt .i64))))))
abbrev AkV3 := List UInt8 × List UInt8 × Bool × Int
instance decAk3 : DecidableEq AkV3 := inferInstance
instance decAk : DecidableEq AkV := @instDecidableEqProd _ _ inferInstance (@instDecidableEqProd _ _ inferInstance (@instDecidableEqProd _ _ inferInstance decAk3))
instance decRq : DecidableEq RqV := @instDecidableEqProd _ _ inferInstance (@instDecidableEqProd _ _ inferInstance decAk)
abbrev MvV3 := List UInt8 × Bool × Int × Int
instance decMv3 : DecidableEq MvV3 := inferInstance
instance decMv : DecidableEq MvV := @instDecidableEqProd _ _ inferInstance (@instDecidableEqProd _ _ inferInstance decMv3)
instance decIk : DecidableEq IkV := inferInstance
abbrev CmV3 := List UInt8 × List UInt8 × Int
instance decCm3 : DecidableEq CmV3 := inferInstance
instance decCm4 : DecidableEq (List IkV × CmV3) := @instDecidableEqProd _ _ (@instDecidableEqList _ decIk) decCm3
instance decCm : DecidableEq CmV := @instDecidableEqProd _ _ inferInstance (@instDecidableEqProd _ _ decRq (@instDecidableEqProd _ _ decMv decCm4))
abbrev I64' (n : Int) : Prop := -9223372036854775808 ≤ n ∧ n ≤ 9223372036854775807
section
variable {w : World} {F : Nat → Prop} {cs : List Value} {v : Value}
theorem tAk_cells {a : AkV} (h : tAk.rep w F cs a) : ∃ a1 c1 a2 c2 a3 c3 a4 c4, cs = [.int .i64 a.1, .slice a1 a.2.1.length c1, .slice a2 a.2.2.1.length c2, .slice a3 a.2.2.2.1.length c3, .slice a4 a.2.2.2.2.1.length c4, .bool a.2.2.2.2.2.1, .int .i64 a.2.2.2.2.2.2]
    ∧ Bv w F (.slice a1 a.2.1.length c1) a.2.1 ∧ Bv w F (.slice a2 a.2.2.1.length c2) a.2.2.1 ∧ Bv w F (.slice a3 a.2.2.2.1.length c3) a.2.2.2.1 ∧ Bv w F (.slice a4 a.2.2.2.2.1.length c4) a.2.2.2.2.1 ∧ I64' a.1 ∧ I64' a.2.2.2.2.2.2 := by
  obtain ⟨_, _, rfl, ⟨rfl, i1⟩, _, _, rfl, h1, _, _, rfl, h2, _, _, rfl, h3, _, _, rfl, h4, k5, _, rfl, h5, rfl, i2⟩ := h
  obtain ⟨a1, c1, rfl, g1⟩ := tBy_cells h1
  obtain ⟨a2, c2, rfl, g2⟩ := tBy_cells h2
  obtain ⟨a3, c3, rfl, g3⟩ := tBy_cells h3
  obtain ⟨a4, c4, rfl, g4⟩ := tBy_cells h4
  obtain rfl : k5 = [.bool a.2.2.2.2.2.1] := h5
  exact ⟨a1, c1, a2, c2, a3, c3, a4, c4, rfl, g1, g2, g3, g4, wf_i64 i1, wf_i64 i2⟩
theorem tAk_mk {v1 v2 v3 v4 : Value} {k m : Int} {x y z u : List UInt8} {b : Bool} (h1 : Bv w F v1 x) (h2 : Bv w F v2 y) (h3 : Bv w F v3 z) (h4 : Bv w F v4 u) (i1 : I64' k) (i2 : I64' m) : tAk.rep w F [.int .i64 k, v1, v2, v3, v4, .bool b, .int .i64 m] (k, x, y, z, u, b, m) :=
  ⟨[_], _, rfl, ⟨rfl, wf_of_i64 i1⟩, [v1], _, rfl, ⟨v1, rfl, h1⟩, [v2], _, rfl, ⟨v2, rfl, h2⟩, [v3], _, rfl, ⟨v3, rfl, h3⟩, [v4], _, rfl, ⟨v4, rfl, h4⟩, [.bool b], [.int .i64 m], rfl, rfl, rfl, wf_of_i64 i2⟩
theorem tMv_cells {a : MvV} (h : tMv.rep w F cs a) : ∃ a1 c1 a2 c2, cs = [.int .i64 a.1, .slice a1 a.2.1.length c1, .slice a2 a.2.2.1.length c2, .bool a.2.2.2.1, .int .i64 a.2.2.2.2.1, .int .i64 a.2.2.2.2.2]
    ∧ Bv w F (.slice a1 a.2.1.length c1) a.2.1 ∧ Bv w F (.slice a2 a.2.2.1.length c2) a.2.2.1 ∧ I64' a.1 ∧ I64' a.2.2.2.2.1 ∧ I64' a.2.2.2.2.2 := by
  obtain ⟨_, _, rfl, ⟨rfl, i1⟩, _, _, rfl, h1, _, _, rfl, h2, k5, _, rfl, h5, _, _, rfl, ⟨rfl, i2⟩, rfl, i3⟩ := h
  obtain ⟨a1, c1, rfl, g1⟩ := tBy_cells h1
  obtain ⟨a2, c2, rfl, g2⟩ := tBy_cells h2
  obtain rfl : k5 = [.bool a.2.2.2.1] := h5
  exact ⟨a1, c1, a2, c2, rfl, g1, g2, wf_i64 i1, wf_i64 i2, wf_i64 i3⟩
theorem tMv_mk {v1 v2 : Value} {n o g : Int} {x y : List UInt8} {b : Bool} (h1 : Bv w F v1 x) (h2 : Bv w F v2 y) (i1 : I64' n) (i2 : I64' o) (i3 : I64' g) : tMv.rep w F [.int .i64 n, v1, v2, .bool b, .int .i64 o, .int .i64 g] (n, x, y, b, o, g) :=
  ⟨[_], _, rfl, ⟨rfl, wf_of_i64 i1⟩, [v1], _, rfl, ⟨v1, rfl, h1⟩, [v2], _, rfl, ⟨v2, rfl, h2⟩, [.bool b], _, rfl, rfl, [_], [_], rfl, ⟨rfl, wf_of_i64 i2⟩, rfl, wf_of_i64 i3⟩
theorem tIk_cells {a : IkV} (h : tIk.rep w F cs a) : ∃ a1 c1 a2 c2, cs = [.slice a1 a.1.length c1, .int .i64 a.2.1, .int .i64 a.2.2.1, .slice a2 a.2.2.2.length c2]
    ∧ Bv w F (.slice a1 a.1.length c1) a.1 ∧ Bv w F (.slice a2 a.2.2.2.length c2) a.2.2.2 ∧ I64' a.2.1 ∧ I64' a.2.2.1 := by
  obtain ⟨_, _, rfl, h1, _, _, rfl, ⟨rfl, i1⟩, _, _, rfl, ⟨rfl, i2⟩, h2⟩ := h
  obtain ⟨a1, c1, rfl, g1⟩ := tBy_cells h1
  obtain ⟨a2, c2, rfl, g2⟩ := tBy_cells h2
  exact ⟨a1, c1, a2, c2, rfl, g1, g2, wf_i64 i1, wf_i64 i2⟩
/-- the parts of a request -/
theorem tRq_cells {a : RqV} (h : tRq.rep w F cs a) : ∃ a1 c1 a2 c2 a3 c3 a4 c4, cs = [.int .i64 a.1, .int .i64 a.2.1, .int .i64 a.2.2.1, .slice a1 a.2.2.2.1.length c1, .slice a2 a.2.2.2.2.1.length c2, .slice a3 a.2.2.2.2.2.1.length c3, .slice a4 a.2.2.2.2.2.2.1.length c4, .bool a.2.2.2.2.2.2.2.1, .int .i64 a.2.2.2.2.2.2.2.2]
    ∧ AgV tAk w F (.agg #[.int .i64 a.2.2.1, .slice a1 a.2.2.2.1.length c1, .slice a2 a.2.2.2.2.1.length c2, .slice a3 a.2.2.2.2.2.1.length c3, .slice a4 a.2.2.2.2.2.2.1.length c4, .bool a.2.2.2.2.2.2.2.1, .int .i64 a.2.2.2.2.2.2.2.2]) a.2.2 ∧ I64' a.1 ∧ I64' a.2.1 := by
  obtain ⟨_, _, rfl, ⟨rfl, i1⟩, _, k1, rfl, ⟨rfl, i2⟩, hr⟩ := h
  obtain ⟨a1, c1, a2, c2, a3, c3, a4, c4, rfl, _⟩ := tAk_cells hr
  exact ⟨a1, c1, a2, c2, a3, c3, a4, c4, rfl, ⟨_, rfl, hr⟩, wf_i64 i1, wf_i64 i2⟩
theorem AgV.ak {a : AkV} (h : AgV tAk w F v a) : ∃ a1 c1 a2 c2 a3 c3 a4 c4, v = .agg #[.int .i64 a.1, .slice a1 a.2.1.length c1, .slice a2 a.2.2.1.length c2, .slice a3 a.2.2.2.1.length c3, .slice a4 a.2.2.2.2.1.length c4, .bool a.2.2.2.2.2.1, .int .i64 a.2.2.2.2.2.2]
    ∧ Bv w F (.slice a1 a.2.1.length c1) a.2.1 ∧ Bv w F (.slice a2 a.2.2.1.length c2) a.2.2.1 ∧ Bv w F (.slice a3 a.2.2.2.1.length c3) a.2.2.2.1 ∧ Bv w F (.slice a4 a.2.2.2.2.1.length c4) a.2.2.2.2.1 ∧ I64' a.1 ∧ I64' a.2.2.2.2.2.2 := by
  obtain ⟨cs, rfl, hr⟩ := h
  obtain ⟨a1, c1, a2, c2, a3, c3, a4, c4, rfl, h⟩ := tAk_cells hr
  exact ⟨a1, c1, a2, c2, a3, c3, a4, c4, rfl, h⟩
theorem AgV.rq {a : RqV} (h : AgV tRq w F v a) : ∃ a1 c1 a2 c2 a3 c3 a4 c4, v = .agg #[.int .i64 a.1, .int .i64 a.2.1, .int .i64 a.2.2.1, .slice a1 a.2.2.2.1.length c1, .slice a2 a.2.2.2.2.1.length c2, .slice a3 a.2.2.2.2.2.1.length c3, .slice a4 a.2.2.2.2.2.2.1.length c4, .bool a.2.2.2.2.2.2.2.1, .int .i64 a.2.2.2.2.2.2.2.2]
    ∧ AgV tAk w F (.agg #[.int .i64 a.2.2.1, .slice a1 a.2.2.2.1.length c1, .slice a2 a.2.2.2.2.1.length c2, .slice a3 a.2.2.2.2.2.1.length c3, .slice a4 a.2.2.2.2.2.2.1.length c4, .bool a.2.2.2.2.2.2.2.1, .int .i64 a.2.2.2.2.2.2.2.2]) a.2.2 ∧ I64' a.1 ∧ I64' a.2.1 := by
  obtain ⟨cs, rfl, hr⟩ := h
  obtain ⟨a1, c1, a2, c2, a3, c3, a4, c4, rfl, h⟩ := tRq_cells hr
  exact ⟨a1, c1, a2, c2, a3, c3, a4, c4, rfl, h⟩
theorem AgV.mkRq {k1 : List Value} {n c : Int} {x : AkV} (h : tAk.rep w F k1 x) (i1 : I64' c) (i2 : I64' n) : AgV tRq w F (.agg (Value.int .i64 c :: .int .i64 n :: k1).toArray) (c, n, x) :=
  ⟨_, rfl, [_], _, rfl, ⟨rfl, wf_of_i64 i1⟩, [_], _, rfl, ⟨rfl, wf_of_i64 i2⟩, h⟩
theorem AgV.mv {a : MvV} (h : AgV tMv w F v a) : ∃ a1 c1 a2 c2, v = .agg #[.int .i64 a.1, .slice a1 a.2.1.length c1, .slice a2 a.2.2.1.length c2, .bool a.2.2.2.1, .int .i64 a.2.2.2.2.1, .int .i64 a.2.2.2.2.2]
    ∧ Bv w F (.slice a1 a.2.1.length c1) a.2.1 ∧ Bv w F (.slice a2 a.2.2.1.length c2) a.2.2.1 ∧ I64' a.1 ∧ I64' a.2.2.2.2.1 ∧ I64' a.2.2.2.2.2 := by
  obtain ⟨cs, rfl, hr⟩ := h
  obtain ⟨a1, c1, a2, c2, rfl, h⟩ := tMv_cells hr
  exact ⟨a1, c1, a2, c2, rfl, h⟩
end
/-! ### which may be -/
def nmB (n : Int) : Bool := decide (1 ≤ n) && decide (n ≤ 2147483647)
/-- what a kind names: key, to, value, was, most -/
def nmT (k : Int) : Bool × Bool × Bool × Bool × Bool :=
  if k = 1 ∨ k = 3 then (true, false, false, false, false) else if k = 2 then (true, false, true, false, false) else if k = 4 then (true, false, true, true, false) else if k = 5 then (false, true, false, false, true) else (false, false, false, false, false)
def mayAk : AkV → Bool
  | (k, key, to, val, was, no, most) =>
    if k = 1 ∨ k = 3 then keyB key && to.isEmpty && was.isEmpty && !no && decide (most = 0) && val.isEmpty
    else if k = 2 then keyB key && to.isEmpty && was.isEmpty && !no && decide (most = 0) && decide (val.length ≤ 40)
    else if k = 4 then keyB key && decide (val.length ≤ 40) && decide (was.length ≤ 40) && !(no && !was.isEmpty) && to.isEmpty && decide (most = 0)
    else if k = 5 then decide (key.length ≤ 24) && decide (to.length ≤ 24) && decide (1 ≤ most) && decide (most ≤ 32) && val.isEmpty && was.isEmpty && !no
    else false
def ak0 : AkV := (0, [], [], [], [], false, 0)
def mv0 : MvV := (0, [], [], false, 0, 0)
theorem cmpB_z {x y : List UInt8} : cmpB x y = 0 ↔ x = y := by
  unfold cmpB
  split
  · rename_i h; constructor
    · intro h2; omega
    · rintro rfl; exact (lb_irrefl _ h).elim
  · split
    · simp [*]
    · simp [*]
end Go.Vc

namespace Go.Vc
set_option linter.unusedVariables false
set_option linter.unusedSimpArgs false
theorem AgV.rep {α : Type} {t : Ty α} {w : World} {F : Nat → Prop} {cs : List Value} {x : α} (h : AgV t w F (.agg cs.toArray) x) : t.rep w F cs x := by
  obtain ⟨cs', hc, hr⟩ := h
  have h1 : cs.toArray = cs'.toArray := Value.agg.inj hc
  have h2 : cs = cs' := by simpa using congrArg Array.toList h1
  rw [h2]; exact hr
section
variable {w : World} {F : Nat → Prop}
theorem tCm_mk {k g : Int} {rq : RqV} {mv : MvV} {en : List IkV} {an key : List UInt8} {r0 r1 r2 r3 r4 r5 r6 r7 r8 m0 m1 m2 m3 m4 m5 v3 v4 v5 : Value} (i0 : I64' k) (h1 : tRq.rep w F [r0, r1, r2, r3, r4, r5, r6, r7, r8] rq) (h2 : tMv.rep w F [m0, m1, m2, m3, m4, m5] mv)
    (h3 : SlV tIk w F v3 en) (h4 : Bv w F v4 an) (h5 : Bv w F v5 key) (i1 : I64' g) :
    tCm.rep w F [.int .i64 k, r0, r1, r2, r3, r4, r5, r6, r7, r8, m0, m1, m2, m3, m4, m5, v3, v4, v5, .int .i64 g] (k, rq, mv, en, an, key, g) :=
  ⟨[_], _, rfl, ⟨rfl, wf_of_i64 i0⟩, [r0, r1, r2, r3, r4, r5, r6, r7, r8], _, rfl, h1, [m0, m1, m2, m3, m4, m5], _, rfl, h2, [v3], _, rfl, ⟨v3, rfl, h3⟩, [v4], _, rfl, ⟨v4, rfl, h4⟩, [v5], _, rfl, ⟨v5, rfl, h5⟩, rfl, wf_of_i64 i1⟩
theorem AgV.mkCm {k g : Int} {rq : RqV} {mv : MvV} {en : List IkV} {an key : List UInt8} {r0 r1 r2 r3 r4 r5 r6 r7 r8 m0 m1 m2 m3 m4 m5 v3 v4 v5 : Value} (i0 : I64' k) (h1 : AgV tRq w F (.agg #[r0, r1, r2, r3, r4, r5, r6, r7, r8]) rq) (h2 : AgV tMv w F (.agg #[m0, m1, m2, m3, m4, m5]) mv)
    (h3 : SlV tIk w F v3 en) (h4 : Bv w F v4 an) (h5 : Bv w F v5 key) (i1 : I64' g) :
    AgV tCm w F (.agg #[.int .i64 k, r0, r1, r2, r3, r4, r5, r6, r7, r8, m0, m1, m2, m3, m4, m5, v3, v4, v5, .int .i64 g]) (k, rq, mv, en, an, key, g) :=
  ⟨_, rfl, tCm_mk i0 h1.rep h2.rep h3 h4 h5 i1⟩
theorem mv0_ag : AgV tMv w F (.agg #[.int .i64 0, .slice none 0 0, .slice none 0 0, .bool false, .int .i64 0, .int .i64 0]) mv0 :=
  ⟨_, rfl, tMv_mk (SlV.nil _ _ _) (SlV.nil _ _ _) ⟨by decide, by decide⟩ ⟨by decide, by decide⟩ ⟨by decide, by decide⟩⟩
theorem ak0_ag : AgV tAk w F (.agg #[.int .i64 0, .slice none 0 0, .slice none 0 0, .slice none 0 0, .slice none 0 0, .bool false, .int .i64 0]) ak0 :=
  ⟨_, rfl, tAk_mk (SlV.nil _ _ _) (SlV.nil _ _ _) (SlV.nil _ _ _) (SlV.nil _ _ _) ⟨by decide, by decide⟩ ⟨by decide, by decide⟩⟩
/-- the cells of a command, and what they are -/
theorem AgV.cm {v : Value} {k g : Int} {rq : RqV} {mv : MvV} {en : List IkV} {an key : List UInt8} (h : AgV tCm w F v (k, rq, mv, en, an, key, g)) :
    ∃ a1 c1 a2 c2 a3 c3 a4 c4 a5 c5 a6 c6 a7 c7 a8 c8 a9 c9, v = .agg #[.int .i64 k, .int .i64 rq.1, .int .i64 rq.2.1, .int .i64 rq.2.2.1, .slice a1 rq.2.2.2.1.length c1, .slice a2 rq.2.2.2.2.1.length c2, .slice a3 rq.2.2.2.2.2.1.length c3, .slice a4 rq.2.2.2.2.2.2.1.length c4, .bool rq.2.2.2.2.2.2.2.1, .int .i64 rq.2.2.2.2.2.2.2.2,
      .int .i64 mv.1, .slice a5 mv.2.1.length c5, .slice a6 mv.2.2.1.length c6, .bool mv.2.2.2.1, .int .i64 mv.2.2.2.2.1, .int .i64 mv.2.2.2.2.2, .slice a7 en.length c7, .slice a8 an.length c8, .slice a9 key.length c9, .int .i64 g] ∧
      AgV tRq w F (.agg #[.int .i64 rq.1, .int .i64 rq.2.1, .int .i64 rq.2.2.1, .slice a1 rq.2.2.2.1.length c1, .slice a2 rq.2.2.2.2.1.length c2, .slice a3 rq.2.2.2.2.2.1.length c3, .slice a4 rq.2.2.2.2.2.2.1.length c4, .bool rq.2.2.2.2.2.2.2.1, .int .i64 rq.2.2.2.2.2.2.2.2]) rq ∧
      AgV tMv w F (.agg #[.int .i64 mv.1, .slice a5 mv.2.1.length c5, .slice a6 mv.2.2.1.length c6, .bool mv.2.2.2.1, .int .i64 mv.2.2.2.2.1, .int .i64 mv.2.2.2.2.2]) mv ∧
      SlV tIk w F (.slice a7 en.length c7) en ∧ Bv w F (.slice a8 an.length c8) an ∧ Bv w F (.slice a9 key.length c9) key ∧ I64' k ∧ I64' g := by
  obtain ⟨cs, rfl, hr⟩ := h
  obtain ⟨_, _, rfl, ⟨rfl, i1⟩, _, _, rfl, h1, _, _, rfl, h2, _, _, rfl, ⟨v3, rfl, h3⟩, _, _, rfl, ⟨v4, rfl, h4⟩, _, _, rfl, ⟨v5, rfl, h5⟩, rfl, i2⟩ := hr
  obtain ⟨a1, c1, a2, c2, a3, c3, a4, c4, rfl, _⟩ := tRq_cells h1
  obtain ⟨a5, c5, a6, c6, rfl, _⟩ := tMv_cells h2
  obtain ⟨a7, c7, rfl⟩ := h3.shape
  obtain ⟨a8, c8, rfl⟩ := h4.shape
  obtain ⟨a9, c9, rfl⟩ := h5.shape
  exact ⟨a1, c1, a2, c2, a3, c3, a4, c4, a5, c5, a6, c6, a7, c7, a8, c8, a9, c9, rfl, ⟨_, rfl, h1⟩, ⟨_, rfl, h2⟩, h3, h4, h5, wf_i64 i1, wf_i64 i2⟩
theorem AgV.rqAk {rq : RqV} {x0 x1 x2 x3 x4 x5 x6 x7 x8 : Value} (h : AgV tRq w F (.agg #[x0, x1, x2, x3, x4, x5, x6, x7, x8]) rq) : AgV tAk w F (.agg #[x2, x3, x4, x5, x6, x7, x8]) rq.2.2 := by
  obtain ⟨_, _, h0, ⟨rfl, _⟩, _, _, rfl, ⟨rfl, _⟩, hr⟩ := h.rep
  simp only [List.cons_append, List.nil_append, List.cons.injEq] at h0
  obtain ⟨_, _, rfl⟩ := h0
  exact ⟨_, rfl, hr⟩
end
end Go.Vc

namespace Go.Vc
set_option linter.unusedVariables false
set_option linter.unusedSimpArgs false
end Go.Vc
