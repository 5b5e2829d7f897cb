/- A part of the proof: steps and lemmas for the walks through the given program. -/
import Derived.Test.YtkaangdfpjkjpaaVc10
namespace Go.Vc
set_option linter.unusedVariables false
set_option linter.unusedSimpArgs false
section
variable {α : Type} {P : Program} {d : Option Tmp} {ty : TypeId} {p : String} {af : Array Edge} {g : Option (Nat × Bool)} {e : Nat → Value} {w : World} {x y c : Operand} {K : Value → World → Prop}
/-- the cells of an element of a slice of one's own -/
theorem OwV.pv {t : Ty α} {et : TypeId} {B b n cc k : Nat} {F : Nat → Prop} {xs : List α} {xx : α} (h : OwV t et w B F (.slice (some ⟨b, 0, none⟩) n cc) xs) (hk : xs[k]? = some xx) : ∃ cs, Pv w ⟨b, k * t.sz, none⟩ cs ∧ t.rep w (fun b' => F b' ∧ b ≠ b') cs xx := by
  obtain ⟨cells, h1, h2⟩ := h
  refine ⟨_, fun j u hu => ?_, t.mono (h2 k xx hk) fun b' _ hb => ⟨hb.1, fun he => hb.2 (by subst he; rfl)⟩⟩
  rcases h1.2 with ⟨he, _⟩ | ⟨g', cap, cur, he, hB, hg, h3, h4, h5, h6⟩
  · cases he
  · cases he
    rw [add_lit, cell_of_row w _ _ cur et (0, 0) hg]
    have hjlt : j < t.sz := by
      have := (List.getElem?_eq_some_iff.1 hu).1
      simp at this; omega
    rw [List.getElem?_take, if_pos hjlt, List.getElem?_drop, ← h6, List.getElem?_take] at hu
    split at hu
    · simpa using hu
    · cases hu
theorem OwV.cell1 {et : TypeId} {B b n cc k : Nat} {F : Nat → Prop} {xs : List UInt8} {xx : UInt8} (h : OwV tU8 et w B F (.slice (some ⟨b, 0, none⟩) n cc) xs) (hk : xs[k]? = some xx) : w.cell? ((⟨b, 0, none⟩ : Addr).add (k * 1)) = some (.int .u8 xx.toNat) := by
  obtain ⟨cs, hp, hr⟩ := h.pv hk
  have := pv_u8 hp hr
  rw [add_lit, Nat.zero_add]
  exact this
/-- a store into an element of a slice of one's own -/
theorem to_storeO {t : Ty α} {T et B b n cc k off : Nat} {F : Nat → Prop} {xs : List α} {x0 x1 : α} {u : Value} {a : Addr} (hx : ev e x = .pointer (some a)) (ha : a = ⟨b, k * t.sz + off, none⟩) (hoff : off < t.sz) (hy : ev e y = u) (h1 : u.oneCell' = true) (hs : kSize P T 1 = true)
    (hv : OwV t et w B F (.slice (some ⟨b, 0, none⟩) n cc) xs) (hk : xs[k]? = some x0) (hrep : ∀ cs, t.rep w (fun b' => F b' ∧ b ≠ b') cs x0 → t.rep w (fun b' => F b' ∧ b ≠ b') (cs.set off u) x1)
    (r : ∀ w', OwV t et w' B F (.slice (some ⟨b, 0, none⟩) n cc) (xs.set k x1) → Keep (fun k => k = b) w w' → w'.heap.size = w.heap.size → K undef w') : OpTo P ⟨d, .store T x y, ty, p, af, g⟩ e w K := by
  obtain ⟨cells, hown, hreps⟩ := hv
  rcases hown.2 with ⟨he, _⟩ | ⟨g', cap, cur, he, hB, hg, h3, h4, h5, h6⟩
  · cases he
  · simp only [Value.slice.injEq, Option.some.injEq, Addr.mk.injEq] at he
    obtain ⟨⟨rfl, _⟩, hnn, rfl⟩ := he
    have hklt : k < xs.length := (List.getElem?_eq_some_iff.1 hk).1
    have hcl : cells.length = xs.length * t.sz := hown.1
    have hb : Blk w b cur.toList et := by unfold Blk; simpa using hg
    have hle : (k + 1) * t.sz ≤ xs.length * t.sz := Nat.mul_le_mul_right _ hklt
    have hle2 : xs.length * t.sz ≤ cc * t.sz := Nat.mul_le_mul_right _ (by omega)
    have hi : k * t.sz + off < cur.toList.length := by
      rw [Nat.succ_mul] at hle
      simp; omega
    refine to_store hx ha hy h1 hs hb hi fun w' hb' hk' hz' => r w' ⟨cells.set (k * t.sz + off) u, ⟨by simpa using hcl, .inr ⟨b, cc, (cur.toList.set (k * t.sz + off) u).toArray, ?_, hB, hb', by simpa using h3, h4, by simpa using h5, ?_⟩⟩, ?_⟩ hk' hz'
    · simp only [List.length_set]; rw [hnn]
    · simp only [List.length_set]
      rw [List.take_set, h6]
    · intro i y hy'
      have hcong : (fun b' => F b' ∧ (Value.slice (some ⟨b, 0, none⟩) n cc).ownBlock ≠ some b') = (fun b' => F b' ∧ b ≠ b') := by
        funext b'
        simp [Value.ownBlock]
      have hkeep : ∀ cs z, t.rep w (fun b' => F b' ∧ b ≠ b') cs z → t.rep w' (fun b' => F b' ∧ b ≠ b') cs z := fun cs z hr => t.keep hr hk' fun b' _ hb he => hb.2 he.symm
      rw [hcong] at hreps ⊢
      by_cases hik : i = k
      · subst hik
        rw [List.getElem?_set_self (by omega)] at hy'
        cases hy'
        have hseg : ((cells.set (i * t.sz + off) u).drop (i * t.sz)).take t.sz = ((cells.drop (i * t.sz)).take t.sz).set off u := by
          rw [List.drop_set, if_neg (by omega), Nat.add_sub_cancel_left, List.take_set]
        rw [hseg]
        exact hkeep _ _ (hrep _ (hreps i x0 hk))
      · rw [List.getElem?_set_ne (by omega)] at hy'
        have hseg : ((cells.set (k * t.sz + off) u).drop (i * t.sz)).take t.sz = (cells.drop (i * t.sz)).take t.sz := by
          rw [List.drop_set]
          split
          · rfl
          · rename_i hlt
            rw [List.take_set]
            apply List.set_eq_of_length_le
            simp
            have : i < k := by
              rcases Nat.lt_or_ge i k with h | h
              · exact h
              · exfalso
                have h7 : k < i := by omega
                have := Nat.mul_le_mul_right t.sz (show k + 1 ≤ i by omega)
                rw [Nat.succ_mul] at this
                omega
            have := Nat.mul_le_mul_right t.sz (show i + 1 ≤ k by omega)
            rw [Nat.succ_mul] at this
            omega
        rw [hseg]
        exact hkeep _ _ (hreps i y hy')
end
/-- a store of a whole struct or array into a block of one's own -/
theorem to_storeA {P : Program} {d : Option Tmp} {ty : TypeId} {p : String} {af : Array Edge} {g : Option (Nat × Bool)} {e : Nat → Value} {w : World} {x y : Operand} {K : Value → World → Prop}
    {t : TypeId} {b i n : Nat} {cs0 : List Value} {T : TypeId} {cs : Array Value} {a : Addr} (hx : ev e x = .pointer (some a)) (ha : a = ⟨b, i, none⟩) (hy : ev e y = .agg cs) (hs : kSize P t n = true) (hn : cs.toList.length = n) (h1 : ∀ u ∈ cs.toList, u.oneCell' = true) (hb : Blk w b cs0 T) (hi : i + n ≤ cs0.length)
    (k : ∀ w', Blk w' b (setAt cs0 i cs.toList) T → Keep (fun k => k = b) w w' → w'.heap.size = w.heap.size → K undef w') : OpTo P ⟨d, .store t x y, ty, p, af, g⟩ e w K := by
  subst ha
  have hst := run_storeCells_at P b i T cs.toList 0 cs0.toArray w hb (by simpa using (by omega : i + cs.toList.length ≤ cs0.length)) h1
  simp only [Nat.add_zero] at hst
  have hn' : cs.size = n := by simpa using hn
  have hr : (execOp (ev e) ⟨d, .store t x y, ty, p, af, g⟩).run P w = .ok .skip (w.setRow b (cs0.toArray.toList.take i ++ cs.toList ++ cs0.toArray.toList.drop (i + cs.toList.length)).toArray) := by
    simp only [execOp, hx, hy]
    simp [Instr.storeAt, Instr.sureAddr, storeVar, Value.cells, run_sizeOf hs, hn', hst]
  unfold OpTo
  rw [hr]
  exact k _ (setRow_heap w b cs0.toArray _ T _ hb) ⟨rfl, rfl, rfl, by simp [World.setRow], fun j _ hj => setRow_other w b j _ hj⟩ (by simp [World.setRow])
/-- cells of a slice of bytes whose address is known -/
theorem SlV.at8 {w : World} {F : Nat → Prop} {a : Addr} {n c k : Nat} {l : List UInt8} {x : UInt8} (h : Bv w F (.slice (some a) n c) l) (hk : l[k]? = some x) : w.cell? (a.add (k * 1)) = some (.int .u8 x.toNat) := by
  obtain ⟨a', c', hv, h1, h2, h3, h4⟩ := h
  obtain ⟨q, cs, hq, hF, hp, hr⟩ := h4 k x hk
  simp only [Value.slice.injEq] at hv
  rw [hq] at hv
  have := Option.some.inj hv.1
  subst this
  exact pv_u8 hp hr
theorem OpVat.as {P : Program} {o : Oper} {e : Nat → Value} {w : World} {b c : Bool} (h : OpVat P o e w (.bool c)) (hb : c = b) : OpVat P o e w (.bool b) := by subst hb; exact h
section
variable {P : Program} {d : Option Tmp} {ty : TypeId} {p : String} {af : Array Edge} {g : Option (Nat × Bool)} {e : Nat → Value} {w : World} {x y c : Operand}
theorem v_orT {q : Bool} (hc : ev e c = .bool false) (hy : ev e y = .bool q) : OpVat P ⟨d, .pick c (.const (.bool true)) y, ty, p, af, g⟩ e w (.bool q) := v_pick hc rfl hy
theorem v_andT {q : Bool} (hc : ev e c = .bool true) (hy : ev e y = .bool q) : OpVat P ⟨d, .pick c y (.const (.bool false)), ty, p, af, g⟩ e w (.bool q) := v_pick hc hy rfl
end
section
variable {P : Program} {N : Nat} {ops : Array Oper} {Q : Exit → Act → World → Prop} {K : Nat → Prop} {e0 : Nat → Value} {w0 : World} {l : List Oper} {k : Nat} {S : Nat → Value → World → Prop}
/-- guarded, and the guard is known to hold -/
theorem rt_hto {d : Option Tmp} {op : Op} {ty : TypeId} {p : String} {af : Array Edge} {g : Nat} {b : Bool} {tt : Tmp} (Sk : Value → World → Prop)
    (hs : ∀ v w w', Sk v w → Keep K w w' → Sk v w') (hg : (ops[g]?).bind (·.dst) = some tt)
    (hc : ∀ vals w, (∀ j, edgeOn ⟨d, op, ty, p, af, some (g, b)⟩ j = true → S j (vals j) w) → envA ops vals e0 k tt = .bool b)
    (h : ∀ vals w, Keep K w0 w → (∀ j, edgeOn ⟨d, op, ty, p, af, some (g, b)⟩ j = true → S j (vals j) w) → OpTo P ⟨d, op, ty, p, af, some (g, b)⟩ (envA ops vals e0 k) w (fun v w' => Keep K w w' ∧ Sk v w'))
    (r : RegT P N ops Q K e0 w0 l (k + 1) (setS S k Sk)) : RegT P N ops Q K e0 w0 (⟨d, op, ty, p, af, some (g, b)⟩ :: l) k S := by
  refine ⟨Sk, hs, fun vals w hR hd => ?_, r⟩
  unfold OpG
  rw [wanted1 hg (hc vals w hd)]
  simp only [beq_self_eq_true, if_true]
  exact h vals w hR hd
theorem rt_hv {d : Option Tmp} {op : Op} {ty : TypeId} {p : String} {af : Array Edge} {g : Nat} {b : Bool} {tt : Tmp} {t : Value} (hg : (ops[g]?).bind (·.dst) = some tt)
    (hc : ∀ vals w, (∀ j, edgeOn ⟨d, op, ty, p, af, some (g, b)⟩ j = true → S j (vals j) w) → envA ops vals e0 k tt = .bool b)
    (h : ∀ vals w, Keep K w0 w → (∀ j, edgeOn ⟨d, op, ty, p, af, some (g, b)⟩ j = true → S j (vals j) w) → OpVat P ⟨d, op, ty, p, af, some (g, b)⟩ (envA ops vals e0 k) w t)
    (r : RegT P N ops Q K e0 w0 l (k + 1) (setS S k (fun v _ => v = t))) : RegT P N ops Q K e0 w0 (⟨d, op, ty, p, af, some (g, b)⟩ :: l) k S :=
  rt_hto _ (fun _ _ _ h _ => h) hg hc (fun vals w hR hd => OpTo.of_v (h vals w hR hd) ⟨Keep.refl _, rfl⟩) r
end
def AllB : Nat → Prop := fun _ => True
theorem SlV.allB {α : Type} {t : Ty α} {w : World} {F : Nat → Prop} {v : Value} {xs : List α} (h : SlV t w F v xs) : SlV t w AllB v xs := h.mono fun _ _ _ => trivial
theorem reps_u8 {w : World} {F : Nat → Prop} {cells : List Value} {xs : List UInt8} (h : cells = xs.map fun b => Value.int .u8 b.toNat) : ∀ i x, xs[i]? = some x → tU8.rep w F ((cells.drop (i * tU8.sz)).take tU8.sz) x := by
  intro i x hx
  subst h
  show _ = [Value.int .u8 x.toNat]
  simp only [tU8, Nat.mul_one]
  have hlt := (List.getElem?_eq_some_iff.1 hx).1
  have hx' : xs[i] = x := (List.getElem?_eq_some_iff.1 hx).2
  rw [List.drop_eq_getElem_cons (by simpa using hlt)]
  simp [hx']
theorem fin_nil {N : Nat} {Q : Exit → Act → World → Prop} {S : Nat → Value → World → Prop} {k : Nat} {e : Nat → Value} {w : World} (h : Q .normal (Fr N e) w) : FinT N Q S [] k e w := h
end Go.Vc
