/- A part of the proof: steps and lemmas for the walks through the given program. -/
import Derived.Test.YteehplloacefmaaGe
import Derived.Test.YteehplloacefmaaGz
import Derived.Test.YteehplloacefmaaCy
import Derived.Test.YteehplloacefmaaGy
import Derived.Test.YteehplloacefmaaGc
import Derived.Test.YteehplloacefmaaGn
namespace Go.Vc
set_option linter.unusedVariables false
set_option linter.unusedSimpArgs false
/-! ### asks, requests, moves, entries, commands -/
/-- kind, key, to, value, was, none, most -/
abbrev AkV := Int × List UInt8 × List UInt8 × List UInt8 × List UInt8 × Bool × Int
abbrev tAk : Ty AkV := tPair (tInt .i64) (tPair tBy (tPair tBy (tPair tBy (tPair tBy (tPair tBool (tInt .i64))))))
/-- client, number, ask -/
abbrev RqV := Int × Int × AkV
abbrev tRq : Ty RqV := tPair (tInt .i64) (tPair (tInt .i64) tAk)
/-- number, from, to, end, old, new -/
abbrev MvV := Int × List UInt8 × List UInt8 × Bool × Int × Int
abbrev tMv : Ty MvV := tPair (tInt .i64) (tPair tBy (tPair tBy (tPair tBool (tPair (tInt .i64) (tInt .i64)))))
/-- key, seq, kind, value -/
abbrev IkV := List UInt8 × Int × Int × List UInt8
abbrev tIk : Ty IkV := tPair tBy (tPair (tInt .i64) (tPair (tInt .i64) tBy))
/-- kind, request, move, entries, answers, key, group -/
abbrev CmV := Int × RqV × MvV × List IkV × List UInt8 × List UInt8 × Int
abbrev tCm : Ty CmV := tPair (tInt .i64) (tPair tRq (tPair tMv (tPair (tSl tIk) (tPair tBy (tPair tBy (tInt .i64))))))
abbrev AkV3 := List UInt8 × List UInt8 × Bool × Int
instance decAk3 : DecidableEq AkV3 := inferInstance
instance decAk : DecidableEq AkV := @instDecidableEqProd _ _ inferInstance (@instDecidableEqProd _ _ inferInstance (@instDecidableEqProd _ _ inferInstance decAk3))
instance decRq : DecidableEq RqV := @instDecidableEqProd _ _ inferInstance (@instDecidableEqProd _ _ inferInstance decAk)
abbrev MvV3 := List UInt8 × Bool × Int × Int
instance decMv3 : DecidableEq MvV3 := inferInstance
instance decMv : DecidableEq MvV := @instDecidableEqProd _ _ inferInstance (@instDecidableEqProd _ _ inferInstance decMv3)
instance decIk : DecidableEq IkV := inferInstance
abbrev CmV3 := List UInt8 × List UInt8 × Int
instance decCm3 : DecidableEq CmV3 := inferInstance
instance decCm4 : DecidableEq (List IkV × CmV3) := @instDecidableEqProd _ _ (@instDecidableEqList _ decIk) decCm3
instance decCm : DecidableEq CmV := @instDecidableEqProd _ _ inferInstance (@instDecidableEqProd _ _ decRq (@instDecidableEqProd _ _ decMv decCm4))
abbrev I64' (n : Int) : Prop := -9223372036854775808 ≤ n ∧ n ≤ 9223372036854775807
section
variable {w : World} {F : Nat → Prop} {cs : List Value} {v : Value}
theorem tAk_cells {a : AkV} (h : tAk.rep w F cs a) : ∃ a1 c1 a2 c2 a3 c3 a4 c4, cs = [.int .i64 a.1, .slice a1 a.2.1.length c1, .slice a2 a.2.2.1.length c2, .slice a3 a.2.2.2.1.length c3, .slice a4 a.2.2.2.2.1.length c4, .bool a.2.2.2.2.2.1, .int .i64 a.2.2.2.2.2.2]
    ∧ Bv w F (.slice a1 a.2.1.length c1) a.2.1 ∧ Bv w F (.slice a2 a.2.2.1.length c2) a.2.2.1 ∧ Bv w F (.slice a3 a.2.2.2.1.length c3) a.2.2.2.1 ∧ Bv w F (.slice a4 a.2.2.2.2.1.length c4) a.2.2.2.2.1 ∧ I64' a.1 ∧ I64' a.2.2.2.2.2.2 := by
  obtain ⟨_, _, rfl, ⟨rfl, i1⟩, _, _, rfl, h1, _, _, rfl, h2, _, _, rfl, h3, _, _, rfl, h4, k5, _, rfl, h5, rfl, i2⟩ := h
  obtain ⟨a1, c1, rfl, g1⟩ := tBy_cells h1
  obtain ⟨a2, c2, rfl, g2⟩ := tBy_cells h2
  obtain ⟨a3, c3, rfl, g3⟩ := tBy_cells h3
  obtain ⟨a4, c4, rfl, g4⟩ := tBy_cells h4
  obtain rfl : k5 = [.bool a.2.2.2.2.2.1] := h5
  exact ⟨a1, c1, a2, c2, a3, c3, a4, c4, rfl, g1, g2, g3, g4, wf_i64 i1, wf_i64 i2⟩
theorem tAk_mk {v1 v2 v3 v4 : Value} {k m : Int} {x y z u : List UInt8} {b : Bool} (h1 : Bv w F v1 x) (h2 : Bv w F v2 y) (h3 : Bv w F v3 z) (h4 : Bv w F v4 u) (i1 : I64' k) (i2 : I64' m) : tAk.rep w F [.int .i64 k, v1, v2, v3, v4, .bool b, .int .i64 m] (k, x, y, z, u, b, m) :=
  ⟨[_], _, rfl, ⟨rfl, wf_of_i64 i1⟩, [v1], _, rfl, ⟨v1, rfl, h1⟩, [v2], _, rfl, ⟨v2, rfl, h2⟩, [v3], _, rfl, ⟨v3, rfl, h3⟩, [v4], _, rfl, ⟨v4, rfl, h4⟩, [.bool b], [.int .i64 m], rfl, rfl, rfl, wf_of_i64 i2⟩
theorem tMv_cells {a : MvV} (h : tMv.rep w F cs a) : ∃ a1 c1 a2 c2, cs = [.int .i64 a.1, .slice a1 a.2.1.length c1, .slice a2 a.2.2.1.length c2, .bool a.2.2.2.1, .int .i64 a.2.2.2.2.1, .int .i64 a.2.2.2.2.2]
    ∧ Bv w F (.slice a1 a.2.1.length c1) a.2.1 ∧ Bv w F (.slice a2 a.2.2.1.length c2) a.2.2.1 ∧ I64' a.1 ∧ I64' a.2.2.2.2.1 ∧ I64' a.2.2.2.2.2 := by
  obtain ⟨_, _, rfl, ⟨rfl, i1⟩, _, _, rfl, h1, _, _, rfl, h2, k5, _, rfl, h5, _, _, rfl, ⟨rfl, i2⟩, rfl, i3⟩ := h
  obtain ⟨a1, c1, rfl, g1⟩ := tBy_cells h1
  obtain ⟨a2, c2, rfl, g2⟩ := tBy_cells h2
  obtain rfl : k5 = [.bool a.2.2.2.1] := h5
  exact ⟨a1, c1, a2, c2, rfl, g1, g2, wf_i64 i1, wf_i64 i2, wf_i64 i3⟩
theorem tMv_mk {v1 v2 : Value} {n o g : Int} {x y : List UInt8} {b : Bool} (h1 : Bv w F v1 x) (h2 : Bv w F v2 y) (i1 : I64' n) (i2 : I64' o) (i3 : I64' g) : tMv.rep w F [.int .i64 n, v1, v2, .bool b, .int .i64 o, .int .i64 g] (n, x, y, b, o, g) :=
  ⟨[_], _, rfl, ⟨rfl, wf_of_i64 i1⟩, [v1], _, rfl, ⟨v1, rfl, h1⟩, [v2], _, rfl, ⟨v2, rfl, h2⟩, [.bool b], _, rfl, rfl, [_], [_], rfl, ⟨rfl, wf_of_i64 i2⟩, rfl, wf_of_i64 i3⟩
theorem tIk_cells {a : IkV} (h : tIk.rep w F cs a) : ∃ a1 c1 a2 c2, cs = [.slice a1 a.1.length c1, .int .i64 a.2.1, .int .i64 a.2.2.1, .slice a2 a.2.2.2.length c2]
    ∧ Bv w F (.slice a1 a.1.length c1) a.1 ∧ Bv w F (.slice a2 a.2.2.2.length c2) a.2.2.2 ∧ I64' a.2.1 ∧ I64' a.2.2.1 := by
  obtain ⟨_, _, rfl, h1, _, _, rfl, ⟨rfl, i1⟩, _, _, rfl, ⟨rfl, i2⟩, h2⟩ := h
  obtain ⟨a1, c1, rfl, g1⟩ := tBy_cells h1
  obtain ⟨a2, c2, rfl, g2⟩ := tBy_cells h2
  exact ⟨a1, c1, a2, c2, rfl, g1, g2, wf_i64 i1, wf_i64 i2⟩
/-- the parts of a request -/
theorem tRq_cells {a : RqV} (h : tRq.rep w F cs a) : ∃ a1 c1 a2 c2 a3 c3 a4 c4, cs = [.int .i64 a.1, .int .i64 a.2.1, .int .i64 a.2.2.1, .slice a1 a.2.2.2.1.length c1, .slice a2 a.2.2.2.2.1.length c2, .slice a3 a.2.2.2.2.2.1.length c3, .slice a4 a.2.2.2.2.2.2.1.length c4, .bool a.2.2.2.2.2.2.2.1, .int .i64 a.2.2.2.2.2.2.2.2]
    ∧ AgV tAk w F (.agg #[.int .i64 a.2.2.1, .slice a1 a.2.2.2.1.length c1, .slice a2 a.2.2.2.2.1.length c2, .slice a3 a.2.2.2.2.2.1.length c3, .slice a4 a.2.2.2.2.2.2.1.length c4, .bool a.2.2.2.2.2.2.2.1, .int .i64 a.2.2.2.2.2.2.2.2]) a.2.2 ∧ I64' a.1 ∧ I64' a.2.1 := by
  obtain ⟨_, _, rfl, ⟨rfl, i1⟩, _, k1, rfl, ⟨rfl, i2⟩, hr⟩ := h
  obtain ⟨a1, c1, a2, c2, a3, c3, a4, c4, rfl, _⟩ := tAk_cells hr
  exact ⟨a1, c1, a2, c2, a3, c3, a4, c4, rfl, ⟨_, rfl, hr⟩, wf_i64 i1, wf_i64 i2⟩
theorem AgV.ak {a : AkV} (h : AgV tAk w F v a) : ∃ a1 c1 a2 c2 a3 c3 a4 c4, v = .agg #[.int .i64 a.1, .slice a1 a.2.1.length c1, .slice a2 a.2.2.1.length c2, .slice a3 a.2.2.2.1.length c3, .slice a4 a.2.2.2.2.1.length c4, .bool a.2.2.2.2.2.1, .int .i64 a.2.2.2.2.2.2]
    ∧ Bv w F (.slice a1 a.2.1.length c1) a.2.1 ∧ Bv w F (.slice a2 a.2.2.1.length c2) a.2.2.1 ∧ Bv w F (.slice a3 a.2.2.2.1.length c3) a.2.2.2.1 ∧ Bv w F (.slice a4 a.2.2.2.2.1.length c4) a.2.2.2.2.1 ∧ I64' a.1 ∧ I64' a.2.2.2.2.2.2 := by
  obtain ⟨cs, rfl, hr⟩ := h
  obtain ⟨a1, c1, a2, c2, a3, c3, a4, c4, rfl, h⟩ := tAk_cells hr
  exact ⟨a1, c1, a2, c2, a3, c3, a4, c4, rfl, h⟩
theorem AgV.rq {a : RqV} (h : AgV tRq w F v a) : ∃ a1 c1 a2 c2 a3 c3 a4 c4, v = .agg #[.int .i64 a.1, .int .i64 a.2.1, .int .i64 a.2.2.1, .slice a1 a.2.2.2.1.length c1, .slice a2 a.2.2.2.2.1.length c2, .slice a3 a.2.2.2.2.2.1.length c3, .slice a4 a.2.2.2.2.2.2.1.length c4, .bool a.2.2.2.2.2.2.2.1, .int .i64 a.2.2.2.2.2.2.2.2]
    ∧ AgV tAk w F (.agg #[.int .i64 a.2.2.1, .slice a1 a.2.2.2.1.length c1, .slice a2 a.2.2.2.2.1.length c2, .slice a3 a.2.2.2.2.2.1.length c3, .slice a4 a.2.2.2.2.2.2.1.length c4, .bool a.2.2.2.2.2.2.2.1, .int .i64 a.2.2.2.2.2.2.2.2]) a.2.2 ∧ I64' a.1 ∧ I64' a.2.1 := by
  obtain ⟨cs, rfl, hr⟩ := h
  obtain ⟨a1, c1, a2, c2, a3, c3, a4, c4, rfl, h⟩ := tRq_cells hr
  exact ⟨a1, c1, a2, c2, a3, c3, a4, c4, rfl, h⟩
theorem AgV.mkRq {k1 : List Value} {n c : Int} {x : AkV} (h : tAk.rep w F k1 x) (i1 : I64' c) (i2 : I64' n) : AgV tRq w F (.agg (Value.int .i64 c :: .int .i64 n :: k1).toArray) (c, n, x) :=
  ⟨_, rfl, [_], _, rfl, ⟨rfl, wf_of_i64 i1⟩, [_], _, rfl, ⟨rfl, wf_of_i64 i2⟩, h⟩
theorem AgV.mv {a : MvV} (h : AgV tMv w F v a) : ∃ a1 c1 a2 c2, v = .agg #[.int .i64 a.1, .slice a1 a.2.1.length c1, .slice a2 a.2.2.1.length c2, .bool a.2.2.2.1, .int .i64 a.2.2.2.2.1, .int .i64 a.2.2.2.2.2]
    ∧ Bv w F (.slice a1 a.2.1.length c1) a.2.1 ∧ Bv w F (.slice a2 a.2.2.1.length c2) a.2.2.1 ∧ I64' a.1 ∧ I64' a.2.2.2.2.1 ∧ I64' a.2.2.2.2.2 := by
  obtain ⟨cs, rfl, hr⟩ := h
  obtain ⟨a1, c1, a2, c2, rfl, h⟩ := tMv_cells hr
  exact ⟨a1, c1, a2, c2, rfl, h⟩
theorem AgV.ik {a : IkV} (h : AgV tIk w F v a) : ∃ a1 c1 a2 c2, v = .agg #[.slice a1 a.1.length c1, .int .i64 a.2.1, .int .i64 a.2.2.1, .slice a2 a.2.2.2.length c2]
    ∧ Bv w F (.slice a1 a.1.length c1) a.1 ∧ Bv w F (.slice a2 a.2.2.2.length c2) a.2.2.2 ∧ I64' a.2.1 ∧ I64' a.2.2.1 := by
  obtain ⟨cs, rfl, hr⟩ := h
  obtain ⟨a1, c1, a2, c2, rfl, h⟩ := tIk_cells hr
  exact ⟨a1, c1, a2, c2, rfl, h⟩
end
/-! ### which may be -/
def nmB (n : Int) : Bool := decide (1 ≤ n) && decide (n ≤ 2147483647)
/-- what a kind names: key, to, value, was, most -/
def nmT (k : Int) : Bool × Bool × Bool × Bool × Bool :=
  if k = 1 ∨ k = 3 then (true, false, false, false, false) else if k = 2 then (true, false, true, false, false) else if k = 4 then (true, false, true, true, false) else if k = 5 then (false, true, false, false, true) else (false, false, false, false, false)
def mayAk : AkV → Bool
  | (k, key, to, val, was, no, most) =>
    if k = 1 ∨ k = 3 then keyB key && to.isEmpty && was.isEmpty && !no && decide (most = 0) && val.isEmpty
    else if k = 2 then keyB key && to.isEmpty && was.isEmpty && !no && decide (most = 0) && decide (val.length ≤ 40)
    else if k = 4 then keyB key && decide (val.length ≤ 40) && decide (was.length ≤ 40) && !(no && !was.isEmpty) && to.isEmpty && decide (most = 0)
    else if k = 5 then decide (key.length ≤ 24) && decide (to.length ≤ 24) && decide (1 ≤ most) && decide (most ≤ 32) && val.isEmpty && was.isEmpty && !no
    else false
def mayRq (r : RqV) : Bool := decide (1 ≤ r.1) && decide (r.1 ≤ 4) && nmB r.2.1 && mayAk r.2.2
def mayMv : MvV → Bool
  | (n, f, t, e, o, g) => nmB n && decide (f.length ≤ 24) && grpB o && grpB g && !decide (o = g) && (if e then keyB t && decide (f < t) else t.isEmpty)
def mayIk : IkV → Bool
  | (key, seq, kind, val) => decide (1 ≤ key.length) && decide (key.length ≤ 32) && decide (1 ≤ seq) && decide (seq ≤ 2147483647) && decide (val.length ≤ 65536) && (decide (kind = 1) || decide (kind = 2) && val.isEmpty)
/-- a stands ahead of b -/
def ltIk (a b : IkV) : Bool := decide (a.1 < b.1) || decide (a.1 = b.1) && decide (b.2.1 < a.2.1)
def risE : List IkV → Bool
  | [] => true
  | [a] => mayIk a
  | a :: b :: l => mayIk a && ltIk a b && risE (b :: l)
def ak0 : AkV := (0, [], [], [], [], false, 0)
def rq0 : RqV := (0, 0, ak0)
def mv0 : MvV := (0, [], [], false, 0, 0)
/-- what a kind names of a command, and whether that may be -/
def nmdC : CmV → CmV × Bool
  | (k, rq, mv, en, an, key, g) =>
    if k = 1 then ((k, rq0, mv0, [], [], [], 0), true)
    else if k = 2 then ((k, rq, mv0, [], [], [], 0), mayRq rq)
    else if k = 3 ∨ k = 5 ∨ k = 9 ∨ k = 10 then ((k, rq0, mv, [], [], [], 0), mayMv mv)
    else if k = 4 then ((k, rq0, mv, en, an, [], 0), mayMv mv && risE en && decide (en.length ≤ 65536) && decide (an.length ≤ 524288))
    else if k = 6 ∨ k = 7 then ((k, rq0, mv0, [], [], key, 0), keyB key)
    else if k = 8 then ((k, rq0, mv0, [], [], key, g), decide (key.length ≤ 24) && grpB g)
    else ((k, rq0, mv0, [], [], [], 0), false)
def mayCm (c : CmV) : Bool := (nmdC c).2 && decide ((nmdC c).1 = c)
/-- how two entries stand -/
def cmpIk (a b : IkV) : Int := if cmpB a.1 b.1 = 0 then (if b.2.1 < a.2.1 then -1 else if a.2.1 < b.2.1 then 1 else 0) else cmpB a.1 b.1
theorem cmpB_z {x y : List UInt8} : cmpB x y = 0 ↔ x = y := by
  unfold cmpB
  split
  · rename_i h; constructor
    · intro h2; omega
    · rintro rfl; exact (lb_irrefl _ h).elim
  · split
    · simp [*]
    · simp [*]
theorem cmpIk_lt {a b : IkV} : cmpIk a b < 0 ↔ ltIk a b = true := by
  unfold cmpIk ltIk
  by_cases h : a.1 = b.1
  · rw [if_pos (cmpB_z.2 h), decide_eq_true h, h]
    simp only [lb_irrefl, decide_false, Bool.false_or, Bool.true_and, decide_eq_true_eq]
    split
    · omega
    · split <;> omega
  · rw [if_neg (fun h2 => h (cmpB_z.1 h2)), decide_eq_false h, cmpB_lt]
    simp
theorem cmpIk_ge {a b : IkV} : 0 ≤ cmpIk a b ↔ ltIk a b = false := by
  have := @cmpIk_lt a b
  constructor
  · intro h; rw [Bool.eq_false_iff]; intro h2; have := this.2 h2; omega
  · intro h; rcases Int.lt_or_le (cmpIk a b) 0 with h2 | h2
    · rw [this.1 h2] at h; cases h
    · exact h2
/-- may the entry at i stand behind those ahead of it? -/
def behI (l : List IkV) (i : Nat) : Bool := match l[i]? with
  | none => false
  | some e => mayIk e && (match i with | 0 => true | j + 1 => match l[j]? with | none => true | some d => ltIk d e)
def bhdI (l : List IkV) (e : IkV) : Bool := mayIk e && (match l.getLast? with | none => true | some d => ltIk d e)
theorem bhd_beh {l : List IkV} {i : Nat} {e : IkV} (h : l[i]? = some e) : bhdI (l.take i) e = behI l i := by
  have hlt := (List.getElem?_eq_some_iff.1 h).1
  unfold bhdI behI
  rw [h]
  cases i with
  | zero => simp
  | succ j =>
    have : (l.take (j + 1)).getLast? = l[j]? := by
      rw [List.getLast?_eq_getElem?, List.length_take, Nat.min_eq_left zo, List.getElem?_take]; simp
    rw [this]
theorem risE_step {a b : IkV} {l : List IkV} : risE (a :: b :: l) = (mayIk a && ltIk a b && risE (b :: l)) := rfl
theorem risE_all : ∀ (l : List IkV), risE l = true ↔ ∀ i, i < l.length → behI l i = true
  | [] => by simp [risE]
  | [a] => by
    simp only [risE, List.length_cons, List.length_nil]
    constructor
    · intro h i hi
      obtain rfl : i = 0 := by omega
      simp [behI, h]
    · intro h
      have := h 0 zo
      simpa [behI] using this
  | a :: b :: l => by
    rw [risE_step, Bool.and_eq_true, Bool.and_eq_true, risE_all (b :: l)]
    constructor
    · rintro ⟨⟨h1, h2⟩, h3⟩ i hi
      match i, hi with
      | 0, _ => simp [behI, h1]
      | 1, _ =>
        have := h3 0 (by simp)
        simp only [behI, List.getElem?_cons_zero, Bool.and_true] at this
        simp [behI, this, h2]
      | i + 2, hi =>
        have := h3 (i + 1) (by simp only [List.length_cons] at hi ⊢; omega)
        simpa only [behI, List.getElem?_cons_succ] using this
    · intro h
      have h0 := h 0 (by simp)
      have h1 := h 1 (by simp)
      simp only [behI, List.getElem?_cons_zero, List.getElem?_cons_succ, Bool.and_true] at h0 h1
      rw [Bool.and_eq_true] at h1
      refine ⟨⟨h0, h1.2⟩, fun i hi => ?_⟩
      match i, hi with
      | 0, _ => simp [behI, h1.1]
      | i + 1, hi =>
        have := h (i + 2) (by simp only [List.length_cons] at hi ⊢; omega)
        simpa only [behI, List.getElem?_cons_succ] using this
/-- how far entries rise -/
def risN (l : List IkV) : Nat → Nat → Nat
  | _, 0 => 0
  | i, n + 1 => if behI l i then risN l (i + 1) n + 1 else 0
theorem risN_le (l : List IkV) : ∀ n i, risN l i n ≤ n
  | 0, _ => Nat.le_refl _
  | n + 1, i => by rw [risN]; split; (have := risN_le l n (i + 1); omega); omega
theorem risN_lt (l : List IkV) : ∀ n i k, k < risN l i n → behI l (i + k) = true
  | 0, _, k, h => by simp [risN] at h
  | n + 1, i, k, h => by
    rw [risN] at h
    split at h
    · next hb =>
      cases k with
      | zero => exact hb
      | succ k => have := risN_lt l n (i + 1) k zo; rwa [show i + 1 + k = i + (k + 1) by omega] at this
    · omega
theorem risN_at (l : List IkV) : ∀ n i, risN l i n < n → behI l (i + risN l i n) = false
  | 0, _, h => by omega
  | n + 1, i, h => by
    rw [risN] at h ⊢
    split
    · next hb =>
      rw [if_pos hb] at h
      have := risN_at l n (i + 1) zo
      rwa [show i + 1 + risN l (i + 1) n = i + (risN l (i + 1) n + 1) by omega] at this
    · next hb => simpa using hb
def risK (l : List IkV) : Nat := risN l 0 l.length
theorem risK_le (l : List IkV) : risK l ≤ l.length := risN_le _ _ _
theorem risK_lt {l : List IkV} {i : Nat} (h : i < risK l) : behI l i = true := by have := risN_lt l _ 0 i h; rwa [Nat.zero_add] at this
theorem risK_at {l : List IkV} (h : risK l < l.length) : behI l (risK l) = false := by have := risN_at l _ 0 h; rwa [Nat.zero_add] at this
theorem risK_all {l : List IkV} : decide (risK l = l.length) = risE l := by
  rw [Bool.eq_iff_iff, risE_all, decide_eq_true_eq]
  constructor
  · intro h i hi; exact risK_lt zo
  · intro h
    have h1 := risK_le l
    rcases Nat.lt_or_ge (risK l) l.length with h2 | h2
    · have := h _ h2; rw [risK_at h2] at this; cases this
    · omega
end Go.Vc

namespace Go.Vc
set_option linter.unusedVariables false
set_option linter.unusedSimpArgs false
theorem AgV.rep {α : Type} {t : Ty α} {w : World} {F : Nat → Prop} {cs : List Value} {x : α} (h : AgV t w F (.agg cs.toArray) x) : t.rep w F cs x := by
  obtain ⟨cs', hc, hr⟩ := h
  have h1 : cs.toArray = cs'.toArray := Value.agg.inj hc
  have h2 : cs = cs' := by simpa using congrArg Array.toList h1
  rw [h2]; exact hr
section
variable {w : World} {F : Nat → Prop}
theorem tCm_mk {k g : Int} {rq : RqV} {mv : MvV} {en : List IkV} {an key : List UInt8} {r0 r1 r2 r3 r4 r5 r6 r7 r8 m0 m1 m2 m3 m4 m5 v3 v4 v5 : Value} (i0 : I64' k) (h1 : tRq.rep w F [r0, r1, r2, r3, r4, r5, r6, r7, r8] rq) (h2 : tMv.rep w F [m0, m1, m2, m3, m4, m5] mv)
    (h3 : SlV tIk w F v3 en) (h4 : Bv w F v4 an) (h5 : Bv w F v5 key) (i1 : I64' g) :
    tCm.rep w F [.int .i64 k, r0, r1, r2, r3, r4, r5, r6, r7, r8, m0, m1, m2, m3, m4, m5, v3, v4, v5, .int .i64 g] (k, rq, mv, en, an, key, g) :=
  ⟨[_], _, rfl, ⟨rfl, wf_of_i64 i0⟩, [r0, r1, r2, r3, r4, r5, r6, r7, r8], _, rfl, h1, [m0, m1, m2, m3, m4, m5], _, rfl, h2, [v3], _, rfl, ⟨v3, rfl, h3⟩, [v4], _, rfl, ⟨v4, rfl, h4⟩, [v5], _, rfl, ⟨v5, rfl, h5⟩, rfl, wf_of_i64 i1⟩
theorem AgV.mkCm {k g : Int} {rq : RqV} {mv : MvV} {en : List IkV} {an key : List UInt8} {r0 r1 r2 r3 r4 r5 r6 r7 r8 m0 m1 m2 m3 m4 m5 v3 v4 v5 : Value} (i0 : I64' k) (h1 : AgV tRq w F (.agg #[r0, r1, r2, r3, r4, r5, r6, r7, r8]) rq) (h2 : AgV tMv w F (.agg #[m0, m1, m2, m3, m4, m5]) mv)
    (h3 : SlV tIk w F v3 en) (h4 : Bv w F v4 an) (h5 : Bv w F v5 key) (i1 : I64' g) :
    AgV tCm w F (.agg #[.int .i64 k, r0, r1, r2, r3, r4, r5, r6, r7, r8, m0, m1, m2, m3, m4, m5, v3, v4, v5, .int .i64 g]) (k, rq, mv, en, an, key, g) :=
  ⟨_, rfl, tCm_mk i0 h1.rep h2.rep h3 h4 h5 i1⟩
theorem rq0_ag : AgV tRq w F (.agg #[.int .i64 0, .int .i64 0, .int .i64 0, .slice none 0 0, .slice none 0 0, .slice none 0 0, .slice none 0 0, .bool false, .int .i64 0]) rq0 :=
  AgV.mkRq (tAk_mk (SlV.nil _ _ _) (SlV.nil _ _ _) (SlV.nil _ _ _) (SlV.nil _ _ _) ⟨by decide, by decide⟩ ⟨by decide, by decide⟩) ⟨by decide, by decide⟩ ⟨by decide, by decide⟩
theorem mv0_ag : AgV tMv w F (.agg #[.int .i64 0, .slice none 0 0, .slice none 0 0, .bool false, .int .i64 0, .int .i64 0]) mv0 :=
  ⟨_, rfl, tMv_mk (SlV.nil _ _ _) (SlV.nil _ _ _) ⟨by decide, by decide⟩ ⟨by decide, by decide⟩ ⟨by decide, by decide⟩⟩
/-- the cells of a command, and what they are -/
theorem AgV.cm {v : Value} {k g : Int} {rq : RqV} {mv : MvV} {en : List IkV} {an key : List UInt8} (h : AgV tCm w F v (k, rq, mv, en, an, key, g)) :
    ∃ a1 c1 a2 c2 a3 c3 a4 c4 a5 c5 a6 c6 a7 c7 a8 c8 a9 c9, v = .agg #[.int .i64 k, .int .i64 rq.1, .int .i64 rq.2.1, .int .i64 rq.2.2.1, .slice a1 rq.2.2.2.1.length c1, .slice a2 rq.2.2.2.2.1.length c2, .slice a3 rq.2.2.2.2.2.1.length c3, .slice a4 rq.2.2.2.2.2.2.1.length c4, .bool rq.2.2.2.2.2.2.2.1, .int .i64 rq.2.2.2.2.2.2.2.2,
      .int .i64 mv.1, .slice a5 mv.2.1.length c5, .slice a6 mv.2.2.1.length c6, .bool mv.2.2.2.1, .int .i64 mv.2.2.2.2.1, .int .i64 mv.2.2.2.2.2, .slice a7 en.length c7, .slice a8 an.length c8, .slice a9 key.length c9, .int .i64 g] ∧
      AgV tRq w F (.agg #[.int .i64 rq.1, .int .i64 rq.2.1, .int .i64 rq.2.2.1, .slice a1 rq.2.2.2.1.length c1, .slice a2 rq.2.2.2.2.1.length c2, .slice a3 rq.2.2.2.2.2.1.length c3, .slice a4 rq.2.2.2.2.2.2.1.length c4, .bool rq.2.2.2.2.2.2.2.1, .int .i64 rq.2.2.2.2.2.2.2.2]) rq ∧
      AgV tMv w F (.agg #[.int .i64 mv.1, .slice a5 mv.2.1.length c5, .slice a6 mv.2.2.1.length c6, .bool mv.2.2.2.1, .int .i64 mv.2.2.2.2.1, .int .i64 mv.2.2.2.2.2]) mv ∧
      SlV tIk w F (.slice a7 en.length c7) en ∧ Bv w F (.slice a8 an.length c8) an ∧ Bv w F (.slice a9 key.length c9) key ∧ I64' k ∧ I64' g := by
  obtain ⟨cs, rfl, hr⟩ := h
  obtain ⟨_, _, rfl, ⟨rfl, i1⟩, _, _, rfl, h1, _, _, rfl, h2, _, _, rfl, ⟨v3, rfl, h3⟩, _, _, rfl, ⟨v4, rfl, h4⟩, _, _, rfl, ⟨v5, rfl, h5⟩, rfl, i2⟩ := hr
  obtain ⟨a1, c1, a2, c2, a3, c3, a4, c4, rfl, _⟩ := tRq_cells h1
  obtain ⟨a5, c5, a6, c6, rfl, _⟩ := tMv_cells h2
  obtain ⟨a7, c7, rfl⟩ := h3.shape
  obtain ⟨a8, c8, rfl⟩ := h4.shape
  obtain ⟨a9, c9, rfl⟩ := h5.shape
  exact ⟨a1, c1, a2, c2, a3, c3, a4, c4, a5, c5, a6, c6, a7, c7, a8, c8, a9, c9, rfl, ⟨_, rfl, h1⟩, ⟨_, rfl, h2⟩, h3, h4, h5, wf_i64 i1, wf_i64 i2⟩
theorem AgV.rqAk {rq : RqV} {x0 x1 x2 x3 x4 x5 x6 x7 x8 : Value} (h : AgV tRq w F (.agg #[x0, x1, x2, x3, x4, x5, x6, x7, x8]) rq) : AgV tAk w F (.agg #[x2, x3, x4, x5, x6, x7, x8]) rq.2.2 := by
  obtain ⟨_, _, h0, ⟨rfl, _⟩, _, _, rfl, ⟨rfl, _⟩, hr⟩ := h.rep
  simp only [List.cons_append, List.nil_append, List.cons.injEq] at h0
  obtain ⟨_, _, rfl⟩ := h0
  exact ⟨_, rfl, hr⟩
end
end Go.Vc

namespace Go.Vc
set_option linter.unusedVariables false
set_option linter.unusedSimpArgs false
theorem mayMv_b {n o g : Int} {f t : List UInt8} {e : Bool} (h : mayMv (n, f, t, e, o, g) = true) : 1 ≤ n ∧ n ≤ 2147483647 ∧ f.length ≤ 24 ∧ t.length ≤ 24 ∧ 1 ≤ o ∧ o ≤ 4 ∧ 1 ≤ g ∧ g ≤ 4 := by
  have le : ∀ (l : List UInt8), l.isEmpty = decide (l.length = 0) := fun l => by cases l <;> simp
  simp only [mayMv, nmB, grpB, keyB, le, Bool.and_eq_true, decide_eq_true_eq, Bool.not_eq_true', decide_eq_false_iff_not] at h
  obtain ⟨⟨⟨⟨⟨h1, h2⟩, h3⟩, h4⟩, h5⟩, h6⟩ := h
  split at h6
  · simp only [Bool.and_eq_true, decide_eq_true_eq] at h6; omega
  · simp only [decide_eq_true_eq] at h6; omega
theorem mayCm_k {k g : Int} {rq : RqV} {mv : MvV} {en : List IkV} {an key : List UInt8} (h : mayCm (k, rq, mv, en, an, key, g) = true) : 1 ≤ k ∧ k ≤ 10 ∧ (k = 2 → mayRq rq = true) ∧ (k = 3 ∨ k = 5 ∨ k = 9 ∨ k = 10 → mayMv mv = true) ∧
    (k = 4 → mayMv mv = true ∧ risE en = true ∧ en.length ≤ 65536 ∧ an.length ≤ 524288) ∧ (k = 6 ∨ k = 7 → 1 ≤ key.length ∧ key.length ≤ 24) ∧ (k = 8 → key.length ≤ 24 ∧ 1 ≤ g ∧ g ≤ 4) := by
  have h := (Bool.and_eq_true _ _ ▸ h : (nmdC (k, rq, mv, en, an, key, g)).2 = true ∧ _).1
  simp only [nmdC] at h
  split at h
  · refine ⟨by omega, by omega, ?_, ?_, ?_, ?_, ?_⟩ <;> intro h2 <;> omega
  · split at h
    · refine ⟨by omega, by omega, fun _ => h, ?_, ?_, ?_, ?_⟩ <;> intro h2 <;> omega
    · split at h
      · refine ⟨by omega, by omega, ?_, fun _ => h, ?_, ?_, ?_⟩ <;> intro h2 <;> omega
      · split at h
        · simp only [Bool.and_eq_true, decide_eq_true_eq] at h
          refine ⟨by omega, by omega, ?_, ?_, fun _ => ⟨h.1.1.1, h.1.1.2, h.1.2, h.2⟩, ?_, ?_⟩ <;> intro h2 <;> omega
        · split at h
          · simp only [keyB, Bool.and_eq_true, decide_eq_true_eq] at h
            refine ⟨by omega, by omega, ?_, ?_, ?_, fun _ => h, ?_⟩ <;> intro h2 <;> omega
          · split at h
            · simp only [grpB, Bool.and_eq_true, decide_eq_true_eq] at h
              refine ⟨by omega, by omega, ?_, ?_, ?_, ?_, fun _ => ⟨h.1, h.2.1, by omega⟩⟩ <;> intro h2 <;> omega
            · cases h
end Go.Vc
