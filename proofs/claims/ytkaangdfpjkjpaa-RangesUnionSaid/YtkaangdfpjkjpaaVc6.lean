/- A part of the proof: steps and lemmas for the walks through the given program. -/
import Derived.Test.YtkaangdfpjkjpaaVc5
import Derived.Deep.AppendSrc
namespace Go.Vc
set_option linter.unusedVariables false
set_option linter.unusedSimpArgs false

/-! ### closed facts on types -/
def kOne (P : Program) (t : TypeId) : Bool := match P.underlying t with
  | some (.struct _) | some (.array _ _) => false
  | some _ => true
  | none => false
def kAgg (P : Program) (t : TypeId) (n : Nat) : Bool := (match P.underlying t with
  | some (.struct _) | some (.array _ _) => true
  | _ => false) && (P.info? t).map (·.size) == some n
def kSize (P : Program) (t : TypeId) (n : Nat) : Bool := (P.info? t).map (·.size) == some n
def kField (P : Program) (s i off : Nat) (ft : TypeId) : Bool := match P.underlying s with
  | some (.struct fs) => (match fs[i]? with | some f => Nat.beq f.offset off && Nat.beq f.type ft && (match P.info? ft with | some inf => !Nat.beq inf.size 0 | none => false) | none => false)
  | _ => false
def kElem (P : Program) (T e sz bytes : Nat) : Bool := (match P.underlying T with | some (.slice e') => Nat.beq e' e | _ => false) &&
  (match P.info? e with | some i => (match i.zero with | some z => Nat.beq z.cells.size sz | none => false) && Nat.beq i.size sz && Nat.beq i.bytes bytes | none => false)
def kSlice (P : Program) (T e : Nat) : Bool := match P.underlying T with | some (.slice e') => Nat.beq e' e | _ => false

theorem kSlice_of {P : Program} {T e : Nat} (h : kSlice P T e = true) : P.underlying T = some (.slice e) := by
  unfold kSlice at h
  split at h
  · rename_i e' he; rw [he, Nat.eq_of_beq_eq_true h]
  · cases h
theorem kElem_of {P : Program} {T e sz bytes : Nat} (h : kElem P T e sz bytes = true) : P.underlying T = some (.slice e) ∧ ∃ i z, P.info? e = some i ∧ i.zero = some z ∧ z.cells.size = sz ∧ i.size = sz ∧ i.bytes = bytes := by
  simp only [kElem, Bool.and_eq_true] at h
  refine ⟨kSlice_of h.1, ?_⟩
  have h2 := h.2
  split at h2
  · rename_i i hi
    simp only [Bool.and_eq_true] at h2
    obtain ⟨⟨h3, h4⟩, h5⟩ := h2
    split at h3
    · rename_i z hz; exact ⟨i, z, hi, hz, Nat.eq_of_beq_eq_true h3, Nat.eq_of_beq_eq_true h4, Nat.eq_of_beq_eq_true h5⟩
    · cases h3
  · cases h2
theorem run_isAgg_one {P : Program} {t : TypeId} (h : kOne P t = true) (w : World) : (isAgg t).run P w = .ok false w := by
  unfold kOne at h
  unfold isAgg
  cases hu : P.underlying t with
  | none => simp [hu] at h
  | some d =>
    rw [hu] at h
    cases d <;> simp at h <;> simp [run_underlying hu]
theorem run_isAgg_agg {P : Program} {t : TypeId} {n : Nat} (h : kAgg P t n = true) (w : World) : (isAgg t).run P w = .ok true w ∧ (sizeOf t).run P w = .ok n w := by
  simp only [kAgg, Bool.and_eq_true] at h
  constructor
  · have h1 := h.1
    unfold isAgg
    cases hu : P.underlying t with
    | none => simp [hu] at h1
    | some d =>
      rw [hu] at h1
      cases d <;> simp at h1 <;> simp [run_underlying hu]
  · have h2 := h.2
    cases hi : P.info? t with
    | none => simp [hi] at h2
    | some i => simp [hi] at h2; simp [sizeOf, typeInfo, hi, h2]
theorem run_sizeOf {P : Program} {t : TypeId} {n : Nat} (h : kSize P t n = true) (w : World) : (sizeOf t).run P w = .ok n w := by
  cases hi : P.info? t with
  | none => simp [kSize, hi] at h
  | some i => simp [kSize, hi] at h; simp [sizeOf, typeInfo, hi, h]

section
variable {P : Program} {d : Option Tmp} {ty : TypeId} {p : String} {af : Array Edge} {g : Option (Nat × Bool)} {e : Nat → Value} {w : World} {x y c : Operand}

theorem v_load {t : TypeId} {a : Addr} {v : Value} (hk : kOne P t = true) (hx : ev e x = .pointer (some a)) (hc : w.cell? a = some v) : OpVat P ⟨d, .load t x, ty, p, af, g⟩ e w v := by
  simp [OpVat, execOp, hx, Instr.loadAt, Instr.sureAddr, loadVar, run_isAgg_one hk, load, Sem.run, hc]
theorem v_loadA {t : TypeId} {n : Nat} {a : Addr} {cs : List Value} (hk : kAgg P t n = true) (hx : ev e x = .pointer (some a)) (hc : Pv w a cs) (hn : cs.length = n) : OpVat P ⟨d, .load t x, ty, p, af, g⟩ e w (.agg cs.toArray) := by
  have h1 := run_isAgg_agg hk w
  have h2 := run_loadCells_list (P := P) w a cs hc
  rw [hn] at h2
  simp [OpVat, execOp, hx, Instr.loadAt, Instr.sureAddr, loadVar, h1.1, h1.2, h2]
theorem v_fieldAddr {s i off : Nat} {ft : TypeId} {a : Addr} (hk : kField P s i off ft = true) (hx : ev e x = .pointer (some a)) : OpVat P ⟨d, .fieldAddr s x i, ty, p, af, g⟩ e w (.pointer (some (a.add off))) := by
  unfold kField at hk
  split at hk
  · rename_i fs hu
    split at hk
    · rename_i f hf
      simp only [Bool.and_eq_true] at hk
      obtain ⟨⟨h1, h2⟩, h3⟩ := hk
      have h1 := Nat.eq_of_beq_eq_true h1
      have h2 := Nat.eq_of_beq_eq_true h2
      split at h3
      · rename_i inf hi
        have h0 : ¬ inf.size = 0 := by intro h; simp [h] at h3
        rw [← h2] at hi
        simp [OpVat, execOp, hx, Instr.fieldAt, Instr.sureAddr, run_underlying hu, hf, fieldPlace, sizeOf, typeInfo, hi, h0, h1]
      · cases h3
    · cases hk
  · cases hk
theorem v_field {s i off : Nat} {ft : TypeId} {cs : Array Value} {v : Value} (hk : kField P s i off ft = true) (h1 : kOne P ft = true) (hx : ev e x = .agg cs) (hc : cs[off]? = some v) : OpVat P ⟨d, .field s x i, ty, p, af, g⟩ e w v := by
  unfold kField at hk
  split at hk
  · rename_i fs hu
    split at hk
    · rename_i f hf
      simp only [Bool.and_eq_true] at hk
      obtain ⟨⟨a1, a2⟩, a3⟩ := hk
      have a1 := Nat.eq_of_beq_eq_true a1
      have a2 := Nat.eq_of_beq_eq_true a2
      rw [← a2] at h1
      simp [OpVat, execOp, hx, Instr.field, run_underlying hu, hf, part, asAgg, run_isAgg_one h1, a1, hc]
    · cases hk
  · cases hk
theorem v_fieldA {s i off n : Nat} {ft : TypeId} {cs : Array Value} {r : Array Value} (hk : kField P s i off ft = true) (h1 : kAgg P ft n = true) (hx : ev e x = .agg cs) (hc : cs.extract off (off + n) = r) : OpVat P ⟨d, .field s x i, ty, p, af, g⟩ e w (.agg r) := by
  unfold kField at hk
  split at hk
  · rename_i fs hu
    split at hk
    · rename_i f hf
      simp only [Bool.and_eq_true] at hk
      obtain ⟨⟨a1, a2⟩, a3⟩ := hk
      have a1 := Nat.eq_of_beq_eq_true a1
      have a2 := Nat.eq_of_beq_eq_true a2
      rw [← a2] at h1
      have h2 := run_isAgg_agg h1 w
      simp [OpVat, execOp, hx, Instr.field, run_underlying hu, hf, part, asAgg, h2.1, h2.2, a1, hc]
    · cases hk
  · cases hk
/-- the address of a slice's element -/
theorem v_indexAddr {t et : TypeId} {sz n c k : Nat} {kk : IntKind} {i : Int} {q : Addr} (ht : kSlice P t et = true) (hs : kSize P et sz = true) (hx : ev e x = .slice (some q) n c) (hy : ev e y = .int kk i) (hi : i = (k : Nat)) (hk : k < n) :
    OpVat P ⟨d, .indexAddr t x y, ty, p, af, g⟩ e w (.pointer (some (q.add (k * sz)))) := by
  subst hi
  have h1 : (k : Int) < (n : Int) := by omega
  simp [OpVat, execOp, hx, hy, Instr.indexAt, asIntOf, run_underlying (kSlice_of ht), h1, run_sizeOf hs]
  intro h; omega
/-- 's[lo:hi]' of bytes turned into a text -/
theorem v_b2s {src dst et : TypeId} {F : Nat → Prop} {v : Value} {l : List UInt8} (hs : kSlice P src et = true) (he : P.underlying et = some (.int .u8)) (hd : P.underlying dst = some .string) (hx : ev e x = v) (hb : Bv w F v l) :
    OpVat P ⟨d, .convert src dst x, ty, p, af, g⟩ e w (.string ⟨l.toArray⟩) := by
  obtain ⟨a, c, rfl, h1, h2, h3, h4⟩ := hb
  have hcv := run_convert_bytes_string (P := P) w src dst et a l.length c (kSlice_of hs) he hd
  simp only [OpVat, execOp, hx]
  rw [Sem.run_bind, hcv]
  cases ha : a with
  | none =>
    have h0 : l = [] := List.eq_nil_of_length_eq_zero (by have := h3 ha; omega)
    subst h0
    simp [Conv.bytesToString, ByteArray.empty, ByteArray.emptyWithCapacity]
    rfl
  | some q =>
    have hl : (loadCells q l.length).run P w = .ok ((l.map (fun b => (b.toNat : Int))).map (Value.int .u8)).toArray w := by
      have := run_loadCells_list (P := P) w q ((l.map (fun b => (b.toNat : Int))).map (Value.int .u8)) (fun j u hu => by
        simp only [List.map_map, List.getElem?_map, Option.map_eq_some_iff] at hu
        obtain ⟨b, hb, rfl⟩ := hu
        obtain ⟨q', cs, hq, _, hp, hr⟩ := h4 j b hb
        rw [ha] at hq; cases hq
        have hr' : cs = [.int .u8 b.toNat] := hr
        subst hr'
        have := hp 0 _ rfl
        rw [add_add] at this
        simpa [tU8] using this)
      simpa using this
    have := run_bytesToString (P := P) w q l.length c (l.map (fun b => (b.toNat : Int))) hl
    rw [this]
    simp only [Result.andThen, Sem.run_pure]
    congr 3
    have gen : ∀ (l : List UInt8) (s : ByteArray), (l.map (fun b => (b.toNat : Int))).foldl (fun r n => r.push (UInt8.ofNat n.toNat)) s = ⟨s.data ++ l.toArray⟩ := by
      intro l
      induction l with
      | nil => intro s; simp
      | cons b l ih =>
        intro s
        simp only [List.map_cons, List.foldl_cons, ih]
        simp [ByteArray.push]
    rw [gen]
    simp [ByteArray.empty, ByteArray.emptyWithCapacity]
    rfl
theorem baList (l : List UInt8) : (⟨l.toArray⟩ : ByteArray).toList = l := by
  have gen : ∀ (n i : Nat) (r : List UInt8), l.length - i = n → i ≤ l.length → ByteArray.toList.loop ⟨l.toArray⟩ i r = r.reverse ++ l.drop i := by
    intro n
    induction n with
    | zero =>
      intro i r hn hi
      have : i = l.length := by omega
      subst this
      unfold ByteArray.toList.loop
      simp [ByteArray.size]
    | succ n ih =>
      intro i r hn hi
      have hlt : i < l.length := by omega
      unfold ByteArray.toList.loop
      have : i < (⟨l.toArray⟩ : ByteArray).size := by simpa [ByteArray.size] using hlt
      rw [if_pos this, ih (i + 1) _ (by omega) (by omega)]
      have hg : (⟨l.toArray⟩ : ByteArray).get! i = l[i] := by simp [ByteArray.get!, hlt]
      rw [hg, List.reverse_cons, List.append_assoc, List.drop_eq_getElem_cons hlt]
      rfl
  unfold ByteArray.toList
  rw [gen l.length 0 [] (by omega) (by omega)]
  simp
theorem v_seq {a b : List UInt8} {xt yt : TypeId} (hx : ev e x = .string ⟨a.toArray⟩) (hy : ev e y = .string ⟨b.toArray⟩) : OpVat P ⟨d, .binOp .eql xt x y yt, ty, p, af, g⟩ e w (.bool (decide (a = b))) := by
  have := v_seql (P := P) (d := d) (ty := ty) (p := p) (af := af) (g := g) (w := w) (xt := xt) (yt := yt) hx hy
  have e0 : (a == b) = decide (a = b) := by rw [Bool.eq_iff_iff]; simp
  rw [baList, baList, e0] at this; exact this
theorem v_sne {a b : List UInt8} {xt yt : TypeId} (hx : ev e x = .string ⟨a.toArray⟩) (hy : ev e y = .string ⟨b.toArray⟩) : OpVat P ⟨d, .binOp .neq xt x y yt, ty, p, af, g⟩ e w (.bool (!decide (a = b))) := by
  have := v_sneq (P := P) (d := d) (ty := ty) (p := p) (af := af) (g := g) (w := w) (xt := xt) (yt := yt) hx hy
  have e0 : (a == b) = decide (a = b) := by rw [Bool.eq_iff_iff]; simp
  rw [baList, baList, e0] at this; exact this

/-! ### steps that make or write memory -/
variable {K : Value → World → Prop}
theorem to_box {t : TypeId} {v : Value} (hx : ev e x = v) (k : ∀ b w', b = w.heap.size → Blk w' b v.cells.toList t → Ext w w' → w'.heap.size = b + 1 → K (.pointer (some ⟨b, 0, none⟩)) w') : OpTo P ⟨d, .box t x, ty, p, af, g⟩ e w K := by
  have hr : (execOp (ev e) ⟨d, .box t x, ty, p, af, g⟩).run P w = .ok (.value (.pointer (some ⟨w.heap.size, 0, none⟩))) (w.alloc (.cells v.cells t)) := by
    subst hx
    simp [execOp, Instr.box, newVar, newRow, newObj, Sem.run]
  unfold OpTo
  rw [hr]
  exact k _ _ rfl (by have := Blk.new w v.cells.toList t; simpa using this) (Ext.alloc _ _) (by simp)
def kZero (P : Program) (t : TypeId) (z : Value) : Prop := (P.info? t).bind (·.zero) = some z
theorem to_alloc {t : TypeId} {z : Value} (hz : kZero P t z) (k : ∀ b w', b = w.heap.size → Blk w' b z.cells.toList t → Ext w w' → w'.heap.size = b + 1 → K (.pointer (some ⟨b, 0, none⟩)) w') : OpTo P ⟨d, .alloc t, ty, p, af, g⟩ e w K := by
  have hr : (execOp (ev e) ⟨d, .alloc t, ty, p, af, g⟩).run P w = .ok (.value (.pointer (some ⟨w.heap.size, 0, none⟩))) (w.alloc (.cells z.cells t)) := by
    unfold kZero at hz
    cases hi : P.info? t with
    | none => simp [hi] at hz
    | some i =>
      simp [hi] at hz
      simp [execOp, Instr.alloc, zeroValue, typeInfo, hi, hz, newVar, newRow, newObj, Sem.run]
  unfold OpTo
  rw [hr]
  exact k _ _ rfl (by have := Blk.new w z.cells.toList t; simpa using this) (Ext.alloc _ _) (by simp)
/-- a store of one cell into a block of one's own -/
theorem to_store {t : TypeId} {b i : Nat} {cs : List Value} {T : TypeId} {v : Value} {a : Addr} (hx : ev e x = .pointer (some a)) (ha : a = ⟨b, i, none⟩) (hy : ev e y = v) (h1 : v.oneCell' = true) (hs : kSize P t 1 = true) (hb : Blk w b cs T) (hi : i < cs.length)
    (k : ∀ w', Blk w' b (cs.set i v) T → Keep (fun k => k = b) w w' → w'.heap.size = w.heap.size → K undef w') : OpTo P ⟨d, .store t x y, ty, p, af, g⟩ e w K := by
  subst ha
  have hc : v.cells = #[v] := by cases v <;> first | rfl | simp [Value.oneCell'] at h1
  have hcell : w.cell? ⟨b, i, none⟩ = some cs[i] := hb.cell (by simp [hi])
  have hst := run_storeCells_cells (P := P) b i [v] 0 w (by
    intro j hj
    have : j = 0 := by simpa using hj
    subst this; simp [hcell]) (by intro j hj; exact hb.free _) (by intro u hu; simp at hu; subst hu; exact h1)
  have hr : (execOp (ev e) ⟨d, .store t x y, ty, p, af, g⟩).run P w = .ok .skip (w.setCell ⟨b, i, none⟩ v) := by
    simp only [execOp, hx, hy]
    simp only [Nat.add_zero] at hst
    simp [Instr.storeAt, Instr.sureAddr, storeVar, hc, run_sizeOf hs, hst, World.setCells]
  unfold OpTo
  rw [hr]
  exact k _ (hb.set i v) (Keep.setCell w ⟨b, i, none⟩ v) (by simp [World.setCell])
end
end Go.Vc
