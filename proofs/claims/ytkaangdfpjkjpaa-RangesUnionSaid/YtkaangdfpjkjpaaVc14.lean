/- A part of the proof: steps and lemmas for the walks through the given program. -/
import Derived.Test.YtkaangdfpjkjpaaVc13
import Derived.ChangeKeysEq
import Derived.Laws.ResultCell
import Derived.Laws.StructEq
namespace Go.Vc
set_option linter.unusedVariables false
set_option linter.unusedSimpArgs false
section
variable {P : Program} {d : Option Tmp} {ty : TypeId} {p : String} {af : Array Edge} {g : Option (Nat × Bool)} {e : Nat → Value} {w : World} {x y : Operand}
def kArr (P : Program) (t et n sz : Nat) : Bool := (match P.underlying t with | some (.array m u) => m == n && u == et | _ => false) && kSize P et sz
theorem kArr_of {t et n sz : Nat} (h : kArr P t et n sz = true) : P.underlying t = some (.array n et) ∧ kSize P et sz = true := by
  unfold kArr at h
  rw [Bool.and_eq_true] at h
  refine ⟨?_, h.2⟩
  have h1 := h.1
  split at h1
  · rename_i m u hu
    simp at h1
    rw [hu, h1.1, h1.2]
  · cases h1
theorem v_arrAddr {t et n sz k : Nat} {kk : IntKind} {i : Int} {q : Addr} (hk : kArr P t et n sz = true) (hx : ev e x = .pointer (some q)) (hy : ev e y = .int kk i) (hi : i = (k : Nat)) (hn : k < n) :
    OpVat P ⟨d, .indexAddr t x y, ty, p, af, g⟩ e w (.pointer (some (q.add (k * sz)))) := by
  subst hi
  obtain ⟨hu, hsz⟩ := kArr_of hk
  have h1 : (k : Int) < (n : Int) := by omega
  simp [OpVat, execOp, hx, hy, Instr.indexAt, asIntOf, run_underlying hu, h1, run_sizeOf hsz, Instr.sureAddr]
  intro h; omega
theorem v_buildArr {t et n sz : Nat} {parts : Array (Nat × Operand)} {z : Value} {zl cells : List Value} {ps : List (Nat × Value)} (hk : kArr P t et n sz = true) (hz : kZero P t z) (hzl : z.cells.toList = zl) (hps : parts.toList.map (fun x => (x.1, ev e x.2)) = ps) (hf : fillL (fun i => some (i * sz, sz)) zl ps = some cells) :
    OpVat P ⟨d, .build t parts, ty, p, af, g⟩ e w (.agg cells.toArray) := by
  obtain ⟨hu, hsz⟩ := kArr_of hk
  have hfill := fill_list _ _ _ _ hf
  subst hzl
  unfold kZero at hz
  cases hi : P.info? t with
  | none => simp [hi] at hz
  | some i =>
    simp [hi] at hz
    simp only [OpVat, execOp, Instr.build]
    simp [zeroValue, typeInfo, hi, hz, run_underlying hu, run_sizeOf hsz]
    rw [hps]
    have : Instr.fill (fun i => some (i * sz, sz)) z.cells ps = some cells.toArray := by simpa using hfill
    rw [this]
    rfl
def kCell (P : Program) (t : Nat) : Bool := (match P.underlying t with | some (.int _) => true | _ => false) && (match P.info? t with | some i => i.size == 1 | none => false)
theorem run_part_int {k : IntKind} {t : TypeId} {cs : Array Value} {i : Nat} {v : Value} (hu : P.underlying t = some (.int k)) (hv : cs[i]? = some v) : (part t cs i).run P w = .ok v w := by
  simp [part, isAgg, run_underlying hu, hv]
theorem v_aneq2 {t et : TypeId} {k : IntKind} {a b c f : Int} {yt : TypeId} (hk : kArr P t et 2 1 = true) (hu : P.underlying et = some (.int k)) (hg : P.eqGuardType P.depth t = false) (hx : ev e x = .agg #[.int k a, .int k b]) (hy : ev e y = .agg #[.int k c, .int k f]) :
    OpVat P ⟨d, .binOp .neq t x y yt, ty, p, af, g⟩ e w (.bool (!decide (a = c ∧ b = f))) := by
  obtain ⟨hu2, hsz⟩ := kArr_of hk
  simp only [OpVat, execOp, hx, hy]
  rw [Sem.run_bind, Sem.run_bind, run_eqGuard_agg (hm := hg)]
  simp only [Result.andThen_ok]
  rw [run_neq_struct]
  obtain ⟨i, hi, hc⟩ : ∃ i, P.info? et = some i ∧ P.cellsOf et = 1 := by
    unfold kSize at hsz
    cases hi : P.info? et with
    | none => simp [hi] at hsz
    | some i => simp [hi] at hsz; exact ⟨i, rfl, by simp [Program.cellsOf, hi, hsz]⟩
  rw [show (10000 : Nat) = 9999 + 1 from rfl, run_equalIn_array w 9999 _ _ hu2 hi]
  have hr : List.range 2 = [0, 1] := rfl
  rw [hr, hc]
  simp only [Op.eqItems, Sem.run_bind]
  rw [run_part_int (P := P) (w := w) (k := k) (t := et) (v := .int k a) (i := 0 * 1) hu rfl]
  simp only [Result.andThen_ok]
  rw [run_part_int (P := P) (w := w) (k := k) (t := et) (v := .int k c) (i := 0 * 1) hu rfl]
  simp only [Result.andThen_ok]
  rw [run_equalIn_int w 9998 et k k _ _ hu]
  simp only [Result.andThen_ok]
  by_cases hac : a = c
  · subst hac
    simp only [beq_self_eq_true, Bool.not_true, Bool.false_eq_true, if_false, Sem.run_bind]
    rw [run_part_int (P := P) (w := w) (k := k) (t := et) (v := .int k b) (i := 1 * 1) hu rfl]
    simp only [Result.andThen_ok]
    rw [run_part_int (P := P) (w := w) (k := k) (t := et) (v := .int k f) (i := 1 * 1) hu rfl]
    simp only [Result.andThen_ok]
    rw [run_equalIn_int w 9998 et k k _ _ hu]
    simp only [Result.andThen_ok]
    by_cases hbf : b = f
    · subst hbf; simp
    · have : (b == f) = false := by simp [hbf]
      simp [this, hbf]
  · have : (a == c) = false := by simp [hac]
    simp [this, hac]
end
section
variable {P : Program} {fn : Func} {N : Nat} {e : Nat → Value} {w : World} {R : Value → World → Prop}
theorem run_loadVarA {t : TypeId} {n : Nat} {a : Addr} {cs : List Value} (hk : kAgg P t n = true) (hc : Pv w a cs) (hn : cs.length = n) : (loadVar t a).run P w = .ok (.agg cs.toArray) w := by
  have h1 := run_isAgg_agg hk w
  have h2 := run_loadCells_list (P := P) w a cs hc
  rw [hn] at h2
  simp [loadVar, h1.1, h1.2, h2]
theorem ret2c {t u : Tmp} {ty : TypeId} {n : Nat} {a : Addr} {cs : List Value} (hr : fn.results = #[.cell t ty, .tmp u]) (ht : t < N) (hu : u < N) (hp : e t = .pointer (some a)) (hk : kAgg P ty n = true) (hc : Pv w a cs) (hn : cs.length = n)
    (h : R (.tuple #[.agg cs.toArray, e u]) w) : bodyPost P fn (Ret R) .ret (Fr N e) w := by
  have h1 : (Fr N e).tmps.getD t undef = .pointer (some a) := by simp [Fr, Array.getD, ht, hp]
  have h2 : (Fr N e).tmps.getD u undef = e u := by simp [Fr, Array.getD, hu]
  refine ⟨rfl, .tuple #[.agg cs.toArray, e u], ?_, _, rfl, h⟩
  rw [results_cell_tmp hr, h1, h2]
  have h3 : (asAddr (.pointer (some a))).run P w = .ok a w := rfl
  rw [h3]
  simp only [Result.andThen_ok]
  rw [run_loadVarA hk hc hn]
  rfl
end
end Go.Vc
