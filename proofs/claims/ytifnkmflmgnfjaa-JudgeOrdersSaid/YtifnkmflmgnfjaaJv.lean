/- A part of the proof: steps and lemmas for the walks through the given program. -/
import Derived.Test.YtifnkmflmgnfjaaGy
import Derived.Test.YtifnkmflmgnfjaaCy
import Derived.Test.YtifnkmflmgnfjaaGx
import Derived.Test.YtifnkmflmgnfjaaVc47
import Derived.Test.YtifnkmflmgnfjaaGe
import Derived.Laws.Strings
namespace Go.Vc
set_option linter.unusedVariables false
set_option linter.unusedSimpArgs false
section
variable {P : Program} {N : Nat} {fn : Func} {e : Nat → Value} {w : World} {R : Value → World → Prop} {v2 v3 : Value}
theorem results_tmp_cell {fn : Func} {p q : Tmp} {ty : TypeId} (h : fn.results = #[.tmp q, .cell p ty]) (tmps : Array Value) (P : Program) (w : World) :
    (results fn tmps).run P w = ((asAddr (tmps.getD p undef)).run P w).andThen fun a w₁ => ((loadVar ty a).run P w₁).andThen fun v w₂ => .ok (.tuple #[tmps.getD q undef, v]) w₂ := by
  simp only [results, h]
  simp [Sem.run_bind]
theorem ret2tc {t u : Tmp} {ty : TypeId} {n : Nat} {a : Addr} {cs : List Value} (hr : fn.results = #[.tmp u, .cell t ty]) (ht : t < N) (hu : u < N) (hp : e t = .pointer (some a)) (hk : kAgg P ty n = true) (hc : Pv w a cs) (hn : cs.length = n) (h2 : e u = v2)
    (h : R (.tuple #[v2, .agg cs.toArray]) w) : bodyPost P fn (Ret R) .ret (FrD N e []) w := by
  have h1 : (FrD N e []).tmps.getD t undef = .pointer (some a) := by simp [FrD, Fr, Array.getD, ht, hp]
  have h4 : (FrD N e []).tmps.getD u undef = v2 := by simp [FrD, Fr, Array.getD, hu, h2]
  refine ⟨rfl, .tuple #[v2, .agg cs.toArray], ?_, _, rfl, h⟩
  rw [results_tmp_cell hr, h1, h4]
  have h6 : (asAddr (.pointer (some a))).run P w = .ok a w := rfl
  rw [h6]
  simp only [Result.andThen_ok]
  rw [run_loadVarA hk hc hn]
  rfl
end
theorem parts1 {e : Nat → Value} {i0 : Nat} {x0 : Operand} {v0 : Value} (h0 : ev e x0 = v0) : (#[(i0, x0)] : Array (Nat × Operand)).toList.map (fun x => (x.1, ev e x.2)) = [(i0, v0)] := by simp [h0]
end Go.Vc

namespace Go.Vc
set_option linter.unusedVariables false
set_option linter.unusedSimpArgs false
/-! ### 'T{.., append(clone(x), y..)}' in a region of any order: c makes the copy, s what is appended, a appends, b builds -/
def CaJ (c s a b : Nat) (et : TypeId) (x ys : List UInt8) (f : Value → Value) (B : Nat) (done : Nat → Bool) (vals : Nat → Value) (w : World) : Prop :=
  (done c = true → done a = false → OwV tU8 et w B NoK (vals c) x) ∧ (done s = true → done a = false → Bv w AllB (vals s) ys) ∧ (done a = true → done c = true ∧ done s = true ∧ OwV tU8 et w B NoK (vals a) (x ++ ys)) ∧ (done b = true → done a = true ∧ vals b = f (vals a)) ∧ B ≤ w.heap.size
section
variable {c s a b : Nat} {et : TypeId} {x ys : List UInt8} {f : Value → Value} {B : Nat} {done : Nat → Bool} {vals : Nat → Value} {w w' : World}
theorem CaJ.start (hc : done c = false) (hs : done s = false) (ha : done a = false) (hb : done b = false) (hB : B ≤ w.heap.size) : CaJ c s a b et x ys f B done vals w := by
  unfold CaJ; simp [hc, hs, ha, hb, hB]
theorem setv_ne {k i : Nat} {v : Value} (h : i ≠ k) : setv vals k v i = vals i := by simp [setv, h]
theorem setv_eq {k : Nat} {v : Value} : setv vals k v k = v := by simp [setv]
theorem CaJ.ext (h : CaJ c s a b et x ys f B done vals w) (e : Ext w w') : CaJ c s a b et x ys f B done vals w' := by
  obtain ⟨h1, h2, h3, h4, h5⟩ := h
  exact ⟨fun i j => (h1 i j).ext e, fun i j => (h2 i j).ext e, fun i => ⟨(h3 i).1, (h3 i).2.1, (h3 i).2.2.ext e⟩, h4, Nat.le_trans h5 e.size⟩
theorem CaJ.other {k : Nat} {v : Value} (h : CaJ c s a b et x ys f B done vals w) (nc : c ≠ k) (ns : s ≠ k) (na : a ≠ k) (nb : b ≠ k) : CaJ c s a b et x ys f B (don done k) (setv vals k v) w := by
  unfold CaJ at *
  rw [don_ne nc, don_ne ns, don_ne na, don_ne nb, setv_ne nc, setv_ne ns, setv_ne na, setv_ne nb]; exact h
theorem CaJ.clone {v : Value} (h : CaJ c s a b et x ys f B done vals w) (hd : done c = false) (h9 : OwV tU8 et w' B NoK v x) (e : Ext w w') (ns : s ≠ c) (na : a ≠ c) (nb : b ≠ c) : CaJ c s a b et x ys f B (don done c) (setv vals c v) w' := by
  obtain ⟨h1, h2, h3, h4, h5⟩ := h.ext e
  unfold CaJ
  rw [don_eq, don_ne ns, don_ne na, don_ne nb, setv_eq, setv_ne ns, setv_ne na, setv_ne nb]
  exact ⟨fun _ _ => h9, h2, fun i => absurd (h3 i).1 (by simp [hd]), h4, h5⟩
theorem CaJ.src {v : Value} (h : CaJ c s a b et x ys f B done vals w) (hd : done s = false) (h9 : Bv w' AllB v ys) (e : Ext w w') (nc : c ≠ s) (na : a ≠ s) (nb : b ≠ s) : CaJ c s a b et x ys f B (don done s) (setv vals s v) w' := by
  obtain ⟨h1, h2, h3, h4, h5⟩ := h.ext e
  unfold CaJ
  rw [don_eq, don_ne nc, don_ne na, don_ne nb, setv_eq, setv_ne nc, setv_ne na, setv_ne nb]
  exact ⟨h1, fun _ _ => h9, fun i => absurd (h3 i).2.1 (by simp [hd]), h4, h5⟩
theorem CaJ.at (h : CaJ c s a b et x ys f B done vals w) (hd : done a = false) (hc : done c = true) (hs : done s = true) : OwV tU8 et w B NoK (vals c) x ∧ Bv w AllB (vals s) ys ∧ B ≤ w.heap.size := ⟨h.1 hc hd, h.2.1 hs hd, h.2.2.2.2⟩
theorem CaJ.app {v : Value} (h : CaJ c s a b et x ys f B done vals w) (hd : done a = false) (hc : done c = true) (hs : done s = true) (h9 : OwV tU8 et w' B NoK v (x ++ ys)) (hz : w.heap.size ≤ w'.heap.size) (nc : c ≠ a) (ns : s ≠ a) (nb : b ≠ a) : CaJ c s a b et x ys f B (don done a) (setv vals a v) w' := by
  obtain ⟨h1, h2, h3, h4, h5⟩ := h
  unfold CaJ
  rw [don_eq, don_ne nc, don_ne ns, don_ne nb, setv_eq, setv_ne nc, setv_ne ns, setv_ne nb]
  exact ⟨fun _ h => (by cases h), fun _ h => (by cases h), fun _ => ⟨hc, hs, h9⟩, fun i => absurd (h4 i).1 (by simp [hd]), by omega⟩
theorem CaJ.own (h : CaJ c s a b et x ys f B done vals w) (ha : done a = true) : OwV tU8 et w B NoK (vals a) (x ++ ys) := (h.2.2.1 ha).2.2
theorem CaJ.bld {v : Value} (h : CaJ c s a b et x ys f B done vals w) (ha : done a = true) (hv : v = f (vals a)) (nc : c ≠ b) (ns : s ≠ b) (na : a ≠ b) : CaJ c s a b et x ys f B (don done b) (setv vals b v) w := by
  obtain ⟨h1, h2, h3, h4, h5⟩ := h
  unfold CaJ
  rw [don_eq, don_ne nc, don_ne ns, don_ne na, setv_eq, setv_ne nc, setv_ne ns, setv_ne na]
  exact ⟨h1, h2, h3, fun _ => ⟨ha, hv⟩, h5⟩
theorem CaJ.fin (h : CaJ c s a b et x ys f B (fun _ => true) vals w) : OwV tU8 et w B NoK (vals a) (x ++ ys) ∧ vals b = f (vals a) := ⟨(h.2.2.1 rfl).2.2, (h.2.2.2.1 rfl).2⟩
end
end Go.Vc

namespace Go.Vc
set_option linter.unusedVariables false
set_option linter.unusedSimpArgs false
section
variable {P : Program} {d : Option Tmp} {ty : TypeId} {p : String} {af : Array Edge} {g : Option (Nat × Bool)} {e : Nat → Value} {w : World} {x y : Operand} {K : Value → World → Prop} {α : Type}
/-- a store of a part of an element of a slice of one's own -/
theorem to_storeOP {t : Ty α} {T et B b n cc k off m : Nat} {F : Nat → Prop} {xs : List α} {x0 x1 : α} {cs : Array Value} {a : Addr} (hx : ev e x = .pointer (some a)) (ha : a = ⟨b, k * t.sz + off, none⟩) (hy : ev e y = .agg cs) (hs : kSize P T m = true) (hcs : cs.toList.length = m) (hom : off + m ≤ t.sz) (hone : ∀ u ∈ cs.toList, u.oneCell' = true)
    (hv : OwV t et w B F (.slice (some ⟨b, 0, none⟩) n cc) xs) (hx0 : xs[k]? = some x0) (hrep : ∀ cl, t.rep w (fun b' => F b' ∧ b ≠ b') cl x0 → t.rep w (fun b' => F b' ∧ b ≠ b') (setAt cl off cs.toList) x1)
    (r : ∀ w', OwV t et w' B F (.slice (some ⟨b, 0, none⟩) n cc) (xs.set k x1) → Keep (fun k => k = b) w w' → w'.heap.size = w.heap.size → K undef w') : OpTo P ⟨d, .store T x y, ty, p, af, g⟩ e w K := by
  have hk : k < xs.length := (List.getElem?_eq_some_iff.1 hx0).1
  obtain ⟨cells, hown, hreps⟩ := hv
  rcases hown.2 with ⟨he, _⟩ | ⟨g', cap, cur, he, hB, hg, h3, h4, h5, h6⟩
  · cases he
  · simp only [Value.slice.injEq, Option.some.injEq, Addr.mk.injEq] at he
    obtain ⟨⟨rfl, _⟩, hnn, rfl⟩ := he
    have hcl : cells.length = xs.length * t.sz := hown.1
    have hb : Blk w b cur.toList et := by unfold Blk; simpa using hg
    have hle : (k + 1) * t.sz ≤ xs.length * t.sz := Nat.mul_le_mul_right _ hk
    have hle2 : xs.length * t.sz ≤ cc * t.sz := Nat.mul_le_mul_right _ zo
    rw [Nat.succ_mul] at hle
    have hi : k * t.sz + off + cs.toList.length ≤ cur.toList.length := by rw [hcs]; simp; omega
    have hi2 : k * t.sz + off + cs.toList.length ≤ cells.length := by rw [hcs, hcl]; omega
    refine to_storeA hx ha hy hs hcs hone hb (by have := hi; rw [hcs] at this; exact this) fun w' hb' hk' hz' => r w' ⟨setAt cells (k * t.sz + off) cs.toList, ⟨by rw [setAt_len hi2]; simpa using hcl, .inr ⟨b, cc, (setAt cur.toList (k * t.sz + off) cs.toList).toArray, ?_, hB, hb', by simpa using h3, h4, ?_, ?_⟩⟩, ?_⟩ hk' hz'
    · simp only [List.length_set]; rw [hnn]
    · have := setAt_len hi; simp only [Array.length_toList] at this; simpa [this] using h5
    · simp only [List.length_set]
      apply List.ext_getElem?
      intro j
      rw [List.getElem?_take, setAt_get hi2, ← h6]
      rw [setAt_get hi, List.getElem?_take]
      split
      · rfl
      · rename_i hj
        split
        · rename_i h7; exfalso; rw [hcs] at h7; omega
        · rfl
    · intro i y hy'
      have hcong : (fun b' => F b' ∧ (Value.slice (some ⟨b, 0, none⟩) n cc).ownBlock ≠ some b') = (fun b' => F b' ∧ b ≠ b') := by
        funext b'
        simp [Value.ownBlock]
      have hkeep : ∀ cs z, t.rep w (fun b' => F b' ∧ b ≠ b') cs z → t.rep w' (fun b' => F b' ∧ b ≠ b') cs z := fun cs z hr => t.keep hr hk' fun b' _ hb he => hb.2 he.symm
      rw [hcong] at hreps ⊢
      by_cases hik : i = k
      · subst hik
        rw [List.getElem?_set_self zo] at hy'
        cases hy'
        have hin : off + cs.toList.length ≤ ((cells.drop (i * t.sz)).take t.sz).length := by rw [List.length_take, List.length_drop, hcs]; omega
        have hseg : ((setAt cells (i * t.sz + off) cs.toList).drop (i * t.sz)).take t.sz = setAt ((cells.drop (i * t.sz)).take t.sz) off cs.toList := by
          apply List.ext_getElem?
          intro j
          rw [List.getElem?_take, List.getElem?_drop, setAt_get hi2, setAt_get hin, List.getElem?_take, List.getElem?_drop]
          by_cases hj : j < t.sz
          · rw [if_pos hj, if_pos hj]
            by_cases h9 : off ≤ j ∧ j < off + cs.toList.length
            · rw [if_pos h9, if_pos zo]; congr 1; omega
            · rw [if_neg h9, if_neg zo]
          · rw [if_neg hj, if_neg hj, if_neg (by rw [hcs]; omega)]
        rw [hseg]
        exact hkeep _ _ (hrep _ (hreps i x0 hx0))
      · rw [List.getElem?_set_ne zo] at hy'
        have hseg : ((setAt cells (k * t.sz + off) cs.toList).drop (i * t.sz)).take t.sz = (cells.drop (i * t.sz)).take t.sz := by
          apply List.ext_getElem?
          intro j
          rw [List.getElem?_take, List.getElem?_drop, setAt_get hi2, List.getElem?_take, List.getElem?_drop]
          by_cases hj : j < t.sz
          · rw [if_pos hj, if_pos hj, hcs, if_neg (by have := mul_sep hik hj; omega)]
          · rw [if_neg hj, if_neg hj]
        rw [hseg]
        exact hkeep _ _ (hreps i y hy')
end
end Go.Vc

namespace Go.Vc
set_option linter.unusedVariables false
set_option linter.unusedSimpArgs false
section
variable {P : Program} {N m : Nat} {fn : Func} {e : Nat → Value} {w : World} {R : Value → World → Prop}
theorem res_agg {t : Tmp} {ty : TypeId} {n : Nat} {a : Addr} {cs : List Value} {ds : List Deferred} (hr : fn.results = #[.cell t ty]) (ht : t < N) (hp : e t = .pointer (some a)) (hk : kAgg P ty n = true) (hc : Pv w a cs) (hn : cs.length = n) : (results fn (FrD N e ds).tmps).run P w = .ok (.agg cs.toArray) w := by
  have h1 : (FrD N e ds).tmps.getD t undef = .pointer (some a) := by simp [FrD, Fr, Array.getD, ht, hp]
  rw [results_cell hr, h1]
  have h3 : (asAddr (.pointer (some a))).run P w = .ok a w := rfl
  rw [h3]
  simp only [Result.andThen_ok]
  rw [run_loadVarA hk hc hn]
theorem retM0c {t : Tmp} {ty : TypeId} {n b : Nat} {cs : List Value} {T : TypeId} (hB : Blk w b cs T) (hr : fn.results = #[.cell t ty]) (ht : t < N) (hp : e t = .pointer (some ⟨b, 0, none⟩)) (hk : kAgg P ty n = true) (hn : cs.length = n) (h : R (.agg cs.toArray) w) : bodyPostM (Fw none) m P fn (Ret R) .ret (FrD N e []) w :=
  ⟨.agg cs.toArray, res_agg hr ht hp hk hB.pv hn, _, rfl, h⟩
theorem retM1c {t : Tmp} {ty : TypeId} {n b D : Nat} {cs : List Value} {T : TypeId} (hB : Blk w b cs T) (hK : DefB w D) (hr : fn.results = #[.cell t ty]) (ht : t < N) (hp : e t = .pointer (some ⟨b, 0, none⟩)) (hk : kAgg P ty n = true) (hn : cs.length = n) (h : R (.agg cs.toArray) (w.putObj D (.deferred none))) : bodyPostM (Fw none) m P fn (Ret R) .ret (FrD N e (mk1 D)) w := by
  refine ⟨by simp, .inl ⟨_, _, rfl, run_takeDeferred hK, ?_⟩⟩
  have k := Keep.of_grownBy (grownBy_putObj' w D (.deferred none))
  have hB' : Blk (w.putObj D (.deferred none)) b cs T := hB.keep k fun he => by
    cases he
    unfold DefB at hK
    unfold Blk at hB
    rw [hK] at hB
    cases hB
  exact ⟨.agg cs.toArray, res_agg hr ht hp hk hB'.pv hn, _, rfl, h⟩
end
theorem put_keep (w : World) (D : Nat) (o : Obj) : Keep (fun b => b = D) w (w.putObj D o) := (Keep.of_grownBy (grownBy_putObj' w D o)).mono (fun i _ he => by cases he; rfl)
end Go.Vc

namespace Go.Vc
set_option linter.unusedVariables false
set_option linter.unusedSimpArgs false
/-! ### '[]T{x, y, ..}' of structs whose cells are not written out -/
def AgsV {α : Type} (t : Ty α) (w : World) (F : Nat → Prop) : List Value → List α → Prop
  | [], [] => True
  | v :: vs, x :: xs => AgV t w F v x ∧ AgsV t w F vs xs
  | _, _ => False
def RepA {α : Type} (t : Ty α) (w : World) (F : Nat → Prop) : List (List Value) → List α → Prop
  | [], [] => True
  | c :: cs, x :: xs => t.rep w F c x ∧ RepA t w F cs xs
  | _, _ => False
theorem AgsV.reps {α : Type} {t : Ty α} {w : World} {F : Nat → Prop} : ∀ {vs : List Value} {xs : List α}, AgsV t w F vs xs → ∃ css : List (List Value), vs = css.map (fun c => Value.agg c.toArray) ∧ RepA t w F css xs
  | [], [], _ => ⟨[], rfl, trivial⟩
  | v :: vs, x :: xs, h => by
    obtain ⟨⟨c, rfl, hr⟩, h2⟩ := h
    obtain ⟨css, rfl, h3⟩ := AgsV.reps h2
    exact ⟨c :: css, rfl, hr, h3⟩
  | [], _ :: _, h => h.elim
  | _ :: _, [], h => h.elim
theorem RepA.len {α : Type} {t : Ty α} {w : World} {F : Nat → Prop} : ∀ {css : List (List Value)} {xs : List α}, RepA t w F css xs → css.length = xs.length ∧ ∀ c ∈ css, c.length = t.sz
  | [], [], _ => ⟨rfl, fun c hc => by cases hc⟩
  | c :: css, x :: xs, h => by
    obtain ⟨h1, h2⟩ := RepA.len h.2
    refine ⟨by simp [h1], fun c' hc => ?_⟩
    rcases List.mem_cons.1 hc with rfl | hc
    · exact t.len h.1
    · exact h2 c' hc
  | [], _ :: _, h => h.elim
  | _ :: _, [], h => h.elim
theorem RepA.flat {α : Type} {t : Ty α} {w : World} {F : Nat → Prop} : ∀ {css : List (List Value)} {xs : List α}, RepA t w F css xs → ∀ i x, xs[i]? = some x → t.rep w F ((css.flatten.drop (i * t.sz)).take t.sz) x
  | [], [], _, i, x, h => by simp at h
  | c :: css, y :: xs, hh, 0, x, h => by
    obtain rfl : y = x := by simpa using h
    have := t.len hh.1
    rw [Nat.zero_mul, List.drop_zero, List.flatten_cons, List.take_append_of_le_length zo, List.take_of_length_le zo]
    exact hh.1
  | c :: css, y :: xs, hh, i + 1, x, h => by
    have hl := t.len hh.1
    have ih := RepA.flat hh.2 i x (by simpa using h)
    rw [List.flatten_cons, show (i + 1) * t.sz = c.length + i * t.sz by rw [Nat.succ_mul, hl]; omega, ← List.drop_drop, List.drop_left]
    exact ih
  | [], _ :: _, h, _, _, _ => h.elim
  | _ :: _, [], h, _, _, _ => h.elim
theorem fill_ags {sz : Nat} : ∀ (css : List (List Value)) (k : Nat) (don rest : List Value), (∀ c ∈ css, c.length = sz) → don.length = k * sz → rest.length = css.length * sz →
    fillL (fun i => some (i * sz, sz)) (don ++ rest) ((css.zipIdx k).map fun p => (p.2, Value.agg p.1.toArray)) = some (don ++ css.flatten)
  | [], k, don, rest, _, _, hr => by
    obtain rfl : rest = [] := List.eq_nil_of_length_eq_zero (by simpa using hr)
    simp [fillL]
  | c :: css, k, don, rest, hc, hd, hr => by
    have hcl := hc c (by simp)
    simp only [List.length_cons, Nat.succ_mul] at hr
    simp only [List.zipIdx_cons, List.map_cons, fillL]
    rw [if_pos ⟨by simpa [Value.cells] using hcl, by rw [List.length_append]; omega⟩]
    have h1 : setAt (don ++ rest) (k * sz) (Value.agg c.toArray).cells.toList = (don ++ c) ++ rest.drop sz := by
      simp only [setAt, Value.cells]
      rw [← hd, List.take_left, List.drop_append, List.drop_eq_nil_of_le zo]
      simp [hcl, List.append_assoc]
    rw [h1, fill_ags css (k + 1) (don ++ c) (rest.drop sz) (fun c' h => hc c' (by simp [h])) (by rw [List.length_append, Nat.succ_mul]; omega) (by rw [List.length_drop]; omega)]
    simp
section
variable {P : Program} {d : Option Tmp} {ty : TypeId} {p : String} {af : Array Edge} {g : Option (Nat × Bool)} {e : Nat → Value} {w : World} {K : Value → World → Prop} {α : Type}
theorem to_sliceAg {t : Ty α} {T et bytes n : Nat} {parts : Array (Nat × Operand)} {vs : List Value} {zl : List Value} {F : Nat → Prop} {xs : List α} (hk : kElem P T et t.sz bytes = true) (hn : 0 < n) (hsz : n * t.sz ≤ 16777216) (hz : kZeros P et n zl) (hlz : zl.length = n * t.sz)
    (hps : parts.toList.map (fun x => (x.1, ev e x.2)) = (vs.zipIdx 0).map fun p => (p.2, p.1)) (hxs : xs.length = n) (hA : AgsV t w F vs xs)
    (k : ∀ b w', b = w.heap.size → OwV t et w' b (fun b => F b ∧ b < w.heap.size) (.slice (some ⟨b, 0, none⟩) n n) xs → Ext w w' → w'.heap.size = b + 1 → K (.slice (some ⟨b, 0, none⟩) n n) w') :
    OpTo P ⟨d, .buildSlice T n parts, ty, p, af, g⟩ e w K := by
  obtain ⟨css, rfl, hR⟩ := hA.reps
  obtain ⟨hl, hc⟩ := hR.len
  have hf := fill_ags css 0 [] zl hc (by simp) (by rw [hlz, hl, hxs])
  have hps' : parts.toList.map (fun x => (x.1, ev e x.2)) = (css.zipIdx 0).map fun p => (p.2, Value.agg p.1.toArray) := by
    rw [hps, List.zipIdx_map, List.map_map]; rfl
  refine to_sliceN (cells := css.flatten) hk hn hsz hz hps' (by simpa using hf) ?_ hxs hR.flat k
  rw [List.length_flatten]
  have : css.map List.length = List.replicate css.length t.sz := by
    refine List.eq_replicate_iff.2 ⟨by simp, fun x hx => ?_⟩
    obtain ⟨c, hc', rfl⟩ := List.mem_map.1 hx
    exact hc c hc'
  rw [this, List.sum_replicate_nat, hl, hxs]
end
theorem parts4 {e : Nat → Value} {i0 i1 i2 i3 : Nat} {x0 x1 x2 x3 : Operand} {v0 v1 v2 v3 : Value} (h0 : ev e x0 = v0) (h1 : ev e x1 = v1) (h2 : ev e x2 = v2) (h3 : ev e x3 = v3) : (#[(i0, x0), (i1, x1), (i2, x2), (i3, x3)] : Array (Nat × Operand)).toList.map (fun x => (x.1, ev e x.2)) = [(i0, v0), (i1, v1), (i2, v2), (i3, v3)] := by simp [h0, h1, h2, h3]
end Go.Vc

namespace Go.Vc
set_option linter.unusedVariables false
set_option linter.unusedSimpArgs false
section
variable {P : Program} {d : Option Tmp} {xt yt ty : TypeId} {p : String} {af : Array Edge} {g : Option (Nat × Bool)} {e : Nat → Value} {w : World} {x y : Operand} {k : IntKind} {a b : Int}
end
end Go.Vc

namespace Go.Vc
end Go.Vc

namespace Go.Vc
set_option linter.unusedVariables false
set_option linter.unusedSimpArgs false
/-- texts -/
def tStr : Ty (List UInt8) where
  sz := 1
  pos := by decide
  rep := fun _ _ cs x => cs = [.string ⟨x.toArray⟩]
  len := by rintro _ _ _ _ rfl; rfl
  one := by rintro _ _ _ _ rfl u hu; simp at hu; subst hu; rfl
  keep := by intro _ _ _ _ _ _ h _ _; exact h
  mono := by intro _ _ _ _ _ h _; exact h
def kStrT (P : Program) (t : Nat) : Bool := match P.underlying t with | some .string => true | _ => false
theorem kStrT_of {P : Program} {t : Nat} (h : kStrT P t = true) : P.underlying t = some .string := by
  unfold kStrT at h
  split at h
  · assumption
  · cases h
section
variable {P : Program} {d : Option Tmp} {ty : TypeId} {p : String} {af : Array Edge} {g : Option (Nat × Bool)} {e : Nat → Value} {w : World} {x y : Operand}
/-- a byte of a text -/
theorem v_sidx {t : Nat} {kk : IntKind} {i : Int} {k : Nat} {a : List UInt8} {u : UInt8} (ht : kStrT P t = true) (hx : ev e x = .string ⟨a.toArray⟩) (hy : ev e y = .int kk i) (hi : i = (k : Nat)) (hu : a[k]? = some u) :
    OpVat P ⟨d, .index t x y, ty, p, af, g⟩ e w (.int .u8 ((u.toNat : Nat) : Int)) := by
  subst hi
  obtain ⟨hlt, hu2⟩ := List.getElem?_eq_some_iff.1 hu
  have hsz : (⟨a.toArray⟩ : ByteArray).size = a.length := by simp [ByteArray.size]
  have h := run_index_string (P := P) w t ⟨a.toArray⟩ kk ((k : Nat) : Int) (kStrT_of ht)
  rw [dif_pos ⟨by omega, by rw [hsz]; omega⟩] at h
  have hg : ((⟨a.toArray⟩ : ByteArray)[((k : Nat) : Int).toNat]'(by rw [hsz]; omega)) = u := by
    rw [← hu2]; rfl
  rw [hg] at h
  simp [OpVat, execOp, hx, hy, h]
theorem v_slen {t : Nat} {a : List UInt8} (ht : kStrT P t = true) (hx : ev e x = .string ⟨a.toArray⟩) :
    OpVat P ⟨d, .call { callee := .builtin .len, args := #[x], argTypes := #[t] }, ty, p, af, g⟩ e w (.int .i64 (a.length : Int)) := by
  have hsz : (⟨a.toArray⟩ : ByteArray).size = a.length := by simp [ByteArray.size]
  simp [OpVat, execOp, hx, resolve, invoke, builtin, Builtin.len_, run_underlying (kStrT_of ht), goInt, hsz]
end
section
variable {P : Program} {N : Nat} {e : Nat → Value} {w : World} {fn : Func} {R : Value → World → Prop} {v1 v2 v3 v4 : Value}
theorem ret4v {t u v x : Tmp} (hr : fn.results = #[.tmp t, .tmp u, .tmp v, .tmp x]) (ht : t < N) (hu : u < N) (hv : v < N) (hx : x < N) (h1 : e t = v1) (h2 : e u = v2) (h3 : e v = v3) (h4 : e x = v4) (h : R (.tuple #[v1, v2, v3, v4]) w) : bodyPost P fn (Ret R) .ret (FrD N e []) w := by
  subst h1 h2 h3 h4
  exact ⟨rfl, .tuple #[e t, e u, e v, e x], by simp [results, hr, FrD, Fr, Array.getD, ht, hu, hv, hx], _, rfl, h⟩
end
end Go.Vc
