/- A part of the proof: steps and lemmas for the walks through the given program. -/
import Derived.Test.YtifnkmflmgnfjaaGe
namespace Go.Vc
set_option linter.unusedVariables false
set_option linter.unusedSimpArgs false
/-! ### ranges over a function whose yielded values lie in memory of their own -/
/-- the loop's own two blocks may turn -/
def Turn2 (B : Nat) (W W' : World) : Prop := ∃ K : Nat → Prop, Keep K W W' ∧ ∀ b, b < W.heap.size → K b → (b = B ∨ b = B + 1) ∧ ∃ o : Obj, W.heap[b]? = some o ∧ o.isCells = false
theorem Turn2.turn {B : Nat} {W W' : World} (h : Turn2 B W W') : Turn B W W' := by
  obtain ⟨K, k, hK⟩ := h
  exact ⟨K, k, fun b hb hk => ⟨by have := (hK b hb hk).1; omega, (hK b hb hk).2⟩⟩
theorem Turn2.keep {B : Nat} {W W' : World} (h : Turn2 B W W') : Keep (fun b => b = B ∨ b = B + 1) W W' := by
  obtain ⟨K, k, hK⟩ := h
  exact k.mono fun b hb hk => (hK b hb hk).1
theorem Ext.turn2 {B : Nat} {W W' : World} (h : Ext W W') : Turn2 B W W' := ⟨NoK, h, fun _ _ h => h.elim⟩
theorem turn2_put {B : Nat} {W : World} {r : Loop} (h : W.heap[B + 1]? = some (.loop r)) (o : Obj) : Turn2 B W (W.putObj (B + 1) o) :=
  ⟨_, Keep.of_grownBy (grownBy_putObj' W (B + 1) o), fun b _ hb => by cases hb; exact ⟨.inr rfl, _, h, rfl⟩⟩
/-- an iterator's contract: Y: what holds where it yields -/
def SeqY {α : Type} (P : Program) (gf : Nat) (lb : Array Value) (encs : α → List Value) (Y : List α → α → World → Prop) (Kp : Nat → Prop) (S Sp : List α → Prop) (w0 : World) : Prop :=
  ∀ (l : Nat) (J Jx : List α → World → Prop) (W : World), Ext w0 W → w0.heap.size + 2 ≤ W.heap.size → (∀ s A B, Ext A B → J s A → J s B) → (∀ s A B, Ext A B → Jx s A → Jx s B) →
    (∀ pre x W1, J pre W1 → Y pre x W1 → YieldAt Fence.wide 0 P l (encs x).toArray W1 (fun en W' => ∃ v, en = .returned v ∧ ((v = .bool true ∧ J (pre ++ [x]) W' ∧ Keep Kp W1 W') ∨ (v = .bool false ∧ Jx (pre ++ [x]) W')))) →
    J [] W → CallsR P gf (#[.func (.yield l) #[] #[]] ++ lb) W (fun _ W' => (∃ xs, S xs ∧ J xs W') ∨ ∃ pre, Sp pre ∧ Jx pre W')
theorem SeqY.mono {α : Type} {P : Program} {gf : Nat} {lb : Array Value} {encs : α → List Value} {Y : List α → α → World → Prop} {Kp Kp' : Nat → Prop} {S Sp : List α → Prop} {w0 : World} (h : SeqY P gf lb encs Y Kp S Sp w0) (hk : ∀ i, Kp' i → Kp i) : SeqY P gf lb encs Y Kp' S Sp w0 := by
  intro l J Jx W hx hz hJ hJx hY h0
  refine h l J Jx W hx hz hJ hJx (fun pre x W1 hj hy => (hY pre x W1 hj hy).mono fun en W' hR => ?_) h0
  obtain ⟨v, h1, h2⟩ := hR
  refine ⟨v, h1, ?_⟩
  rcases h2 with ⟨h2, h3, h4⟩ | h2
  · exact .inl ⟨h2, h3, h4.mono fun i _ hi => hk i hi⟩
  · exact .inr h2
section
variable {n : Nat} {P : Program} {fn : Func} {N : Nat} {e : Nat → Value} {w : World} {R : Value → World → Prop}
end
end Go.Vc

namespace Go.Vc
set_option linter.unusedVariables false
set_option linter.unusedSimpArgs false
section
variable {P : Program} {d : Option Tmp} {ty : TypeId} {p : String} {af : Array Edge} {g : Option (Nat × Bool)} {e : Nat → Value} {w : World} {x y : Operand}
/-- an element of an array's value that is an aggregate itself -/
theorem v_indexA {t et n sz k : Nat} {kk : IntKind} {i : Int} {cs r : Array Value} (hk : kArr P t et n sz = true) (h1 : kAgg P et sz = true) (hx : ev e x = .agg cs) (hy : ev e y = .int kk i) (hi : i = (k : Nat)) (hn : k < n) (hc : cs.extract (k * sz) (k * sz + sz) = r) :
    OpVat P ⟨d, .index t x y, ty, p, af, g⟩ e w (.agg r) := by
  subst hi
  obtain ⟨hu, hsz⟩ := kArr_of hk
  have h2 := run_isAgg_agg h1 w
  have h3 : (k : Int) < (n : Int) := by omega
  simp [OpVat, execOp, hx, hy, Instr.index, asIntOf, run_underlying hu, h3, run_sizeOf hsz, part, h2.1, h2.2, hc]
  intro h; omega
end
section
variable {P : Program} {N : Nat} {ops : Array Oper} {Q : Exit → Act → World → Prop} {K : Nat → Prop} {J : (Nat → Bool) → (Nat → Value) → World → Prop} {D : Nat → Bool} {e0 : Nat → Value} {w0 : World} {l : List Oper} {k : Nat} {S : Nat → Value → World → Prop}
/-- a call whose answer is known, within a stage with a joint fact -/
theorem rj_vfJ {d : Option Tmp} {op : Op} {ty : TypeId} {p : String} {af : Array Edge} {t : Value}
    (h : ∀ done vals w, Keep K w0 w → Closed ops done → done k = false → J done vals w → (∀ j, edgeOn ⟨d, op, ty, p, af, none⟩ j = true → done j = true) → (∀ j, edgeOn ⟨d, op, ty, p, af, none⟩ j = true → S j (vals j) w) → OpTo P ⟨d, op, ty, p, af, none⟩ (envA ops vals e0 k) w (fun v w' => v = t ∧ Ext w w'))
    (hj : ∀ done vals w w', done k = false → J done vals w → Ext w w' → J (don done k) (setv vals k t) w')
    (r : RegJ P N ops Q K J e0 w0 l (k + 1) (setS S k (fun v _ => v = t))) : RegJ P N ops Q K J e0 w0 (⟨d, op, ty, p, af, none⟩ :: l) k S := by
  refine ⟨_, fun _ _ _ h _ => h, fun done vals w hR hcl hdk hJ hdn hd => ?_, r⟩
  simp only [OpG, wantedE, Region.wanted, if_true]
  exact (h done vals w hR hcl hdk hJ hdn hd).mono fun v w' hv => by
    obtain ⟨rfl, e⟩ := hv
    exact ⟨Ext.keep e, rfl, hj done vals w w' hdk hJ e⟩
end
end Go.Vc

namespace Go.Vc
set_option linter.unusedVariables false
set_option linter.unusedSimpArgs false
section
variable {P : Program} {d : Option Tmp} {ty : TypeId} {p : String} {af : Array Edge} {g : Option (Nat × Bool)} {e : Nat → Value} {w : World} {x y : Operand} {K : Value → World → Prop} {α : Type}
end
end Go.Vc

namespace Go.Vc
set_option linter.unusedVariables false
set_option linter.unusedSimpArgs false
section
variable {P : Program} {d : Option Tmp} {ty : TypeId} {p : String} {af : Array Edge} {g : Option (Nat × Bool)} {e : Nat → Value} {w : World} {x y z : Operand}
end
end Go.Vc

namespace Go.Vc
set_option linter.unusedVariables false
set_option linter.unusedSimpArgs false
theorem setAt_get {l c : List Value} {i : Nat} (h : i + c.length ≤ l.length) (j : Nat) : (setAt l i c)[j]? = if i ≤ j ∧ j < i + c.length then c[j - i]? else l[j]? := by
  unfold setAt
  have h1 : (l.take i).length = i := by rw [List.length_take]; omega
  by_cases hj : j < i
  · rw [if_neg zo, List.append_assoc, List.getElem?_append_left zo, List.getElem?_take, if_pos hj]
  · by_cases hj2 : j < i + c.length
    · rw [if_pos zo, List.append_assoc, List.getElem?_append_right zo, h1, List.getElem?_append_left zo]
    · rw [if_neg zo, List.getElem?_append_right (by rw [List.length_append]; omega), List.length_append, h1, List.getElem?_drop]
      congr 1; omega
theorem setAt_len {l c : List Value} {i : Nat} (h : i + c.length ≤ l.length) : (setAt l i c).length = l.length := by
  unfold setAt; simp; omega
theorem mul_sep {i k sz j : Nat} (hik : i ≠ k) (hj : j < sz) : ¬ (k * sz ≤ i * sz + j ∧ i * sz + j < k * sz + sz) := by
  intro ⟨h1, h2⟩
  rcases Nat.lt_or_ge i k with h | h
  · have := Nat.mul_le_mul_right sz (show i + 1 ≤ k by omega)
    rw [Nat.succ_mul] at this; omega
  · have := Nat.mul_le_mul_right sz (show k + 1 ≤ i by omega)
    rw [Nat.succ_mul] at this; omega
section
variable {P : Program} {d : Option Tmp} {ty : TypeId} {p : String} {af : Array Edge} {g : Option (Nat × Bool)} {e : Nat → Value} {w : World} {x y : Operand} {K : Value → World → Prop} {α : Type}
end
end Go.Vc

namespace Go.Vc
end Go.Vc
namespace Go.Vc
theorem AgV.rp {α : Type} {t : Ty α} {w : World} {F : Nat → Prop} {v : Value} {x : α} (h : AgV t w F v x) : t.rep w F v.cells.toList x := by
  obtain ⟨cs, rfl, hr⟩ := h; exact hr
end Go.Vc
