/- A part of the proof: steps and lemmas for the walks through the given program. -/
import Derived.Test.YtifnkmflmgnfjaaJc
import Derived.Test.YtifnkmflmgnfjaaJv
import Derived.Test.YtifnkmflmgnfjaaGy
import Derived.Test.YtifnkmflmgnfjaaGd
namespace Go.Proofs.Ytifnkmflmgnfjaa
open Go.Vc
set_option linter.unusedVariables false
set_option linter.unusedSimpArgs false
set_option maxRecDepth 100000

def FxB (F : Nat → Prop) (n : Nat) : Nat → Prop := fun b => F b ∨ n ≤ b
def AskR (w : World) (F : Nat → Prop) (m : MapV) (a : AkV) : Value → World → Prop := fun o w' => ∃ u x, o = .tuple #[u, x] ∧ SlV tPr w' (FxB F w.heap.size) u (doM m a).1 ∧ AgV tAn w' (FxB F w.heap.size) x (doM m a).2 ∧ Ext w w'
theorem SlV.fx {α : Type} {t : Ty α} {w : World} {F : Nat → Prop} {v : Value} {xs : List α} {k : Nat} (h : SlV t w (fun b => F b ∧ b < k) v xs) (n : Nat) : SlV t w (FxB F n) v xs := h.mono fun _ _ h => .inl h.1
theorem none_d {w : World} {n : Int} : CallsR Try.prog 81 (#[.int .i64 n] ++ #[]) w (fun o w' => o = .agg #[.int .i64 n, .slice none 0 0, .slice none 0 0] ∧ Ext w w') := by
  show CallsR _ _ #[_] _ _
  refine enter 5 Try.func81 rfl rfl (by simp) ?_
  refine c_seq ?_
  have E := Keep.refl (K := NoK) w
  refine wp_reg zd (l_to (to_alloc (z := (.agg #[.int .i64 0, .slice none 0 0, .slice none 0 0])) (by unfold kZero; kernel_rfl) ?_))
  rintro b2 w2 zb2 HB2 e2 z2
  have := e2.size
  try simp only [Value.cells] at HB2
  refine l_nil (n_then (c_seq (wp_reg zd (l_v (zmI rfl) (l_v (v_build (pl := [(0, 1), (1, 1), (2, 1)]) (z := .agg #[.int .i64 0, .slice none 0 0, .slice none 0 0]) (zl := [.int .i64 0, .slice none 0 0, .slice none 0 0]) zk (by unfold kZero; kernel_rfl) rfl rfl (cells := [_, _, _]) rfl) ?_)))))
  refine l_to (to_storeA (n := 3) rfl rfl (zvA rfl) zk rfl dj6 HB2 dj5 ?_)
  rintro w101 HX101 k101 z101
  have := k101.size
  replace HB2 := HX101
  clear HX101
  try simp only [zS, Nat.zero_add, Nat.reduceAdd, List.drop_nil] at HB2
  refine l_nil (n_then (c_ret (ret1c (n := 3) rfl zq rfl zk HB2.pv rfl ?_)))
  replace E := (E.trans e2.keep).step k101 dj3
  exact ⟨rfl, E⟩
theorem refnone_c {w : World} {n : Int} : CallsR Try.prog 55 #[.int .i64 n] w (fun o w' => o = .agg #[.int .i64 n, .slice none 0 0, .slice none 0 0] ∧ Ext w w') := by
  refine enter 5 Try.func55 rfl rfl (by simp) ?_
  refine c_seq ?_
  have E := Keep.refl (K := NoK) w
  refine wp_reg zd (l_to (to_alloc (z := (.agg #[.int .i64 0, .slice none 0 0, .slice none 0 0])) (by unfold kZero; kernel_rfl) ?_))
  rintro b2 w2 zb2 HB2 e2 z2
  have := e2.size
  try simp only [Value.cells] at HB2
  refine l_nil (n_then (c_seq (wp_reg zd (l_v (zmI rfl) (l_v (v_build (pl := [(0, 1), (1, 1), (2, 1)]) (z := .agg #[.int .i64 0, .slice none 0 0, .slice none 0 0]) (zl := [.int .i64 0, .slice none 0 0, .slice none 0 0]) zk (by unfold kZero; kernel_rfl) rfl rfl (cells := [_, _, _]) rfl) ?_)))))
  refine l_to (to_storeA (n := 3) rfl rfl (zvA rfl) zk rfl dj6 HB2 dj5 ?_)
  rintro w101 HX101 k101 z101
  have := k101.size
  replace HB2 := HX101
  clear HX101
  try simp only [zS, Nat.zero_add, Nat.reduceAdd, List.drop_nil] at HB2
  refine l_nil (n_then (c_ret (ret1c (n := 3) rfl zq rfl zk HB2.pv rfl ?_)))
  replace E := (E.trans e2.keep).step k101 dj3
  exact ⟨rfl, E⟩
theorem an_err {w : World} {F : Nat → Prop} {n : Int} (h : I64 n) : AgV tAn w F (.agg #[.int .i64 n, .slice none 0 0, .slice none 0 0]) (n, [], []) := AgV.mkAn (SlV.nil _ _ _) (SlV.nil _ _ _) h
section
variable {w : World} {F : Nat → Prop} {vm va : Value} {m : MapV} {key to val was : List UInt8} {no : Bool} {most : Int} {bt : Nat}
theorem ask1_d (HSm : SlV tPr w F vm m) (HG1 : AgV tAk w F va (1, key, to, val, was, no, most)) (HBt : Blk w bt [.func (.func 81) #[] #[]] 108) :
    CallsR Try.prog 82 (#[vm, va, .int .i64 (posM m key), .bool (hasM m key)] ++ #[.pointer (some ⟨bt, 0, none⟩)]) w (AskR w F m (1, key, to, val, was, no, most)) := by
 show CallsR _ _ #[_, _, _, _, _] _ _
 obtain ⟨a, c, rfl⟩ := HSm.shape
 obtain ⟨a1, c1, a2, c2, a3, c3, a4, c4, rfl, HS1, HS2, HS3, HS4, hi1, hi2⟩ := HG1.ak
 have hcm := SlV.cap_ge HSm
 have HSm := HSm.lt
 have zlt := HBt.lt
 refine enter 23 Try.func82 rfl rfl (by simp) ?_
 refine c_seq ?_
 have E := Keep.refl (K := NoK) w
 refine wp_reg zd (l_to (to_box (zvA rfl) ?_))
 rintro b1 w1 zb1 HB1 e1 z1
 have := e1.size
 try simp only [Value.cells] at HB1
 refine l_v (v_assign rfl) (l_to (to_alloc (z := (.agg #[.int .i64 0, .slice none 0 0, .slice none 0 0])) (by unfold kZero; kernel_rfl) ?_))
 rintro b2 w2 zb2 HB2 e2 z2
 have := e2.size
 try simp only [Value.cells] at HB2
 refine l_nil (n_then (c_seq (c_seq (wp_reg zd (l_v (zmB rfl) (l_v (v_not rfl) ?_))))))
 replace E := (E.trans e1.keep).trans e2.keep
 replace HBt := (HBt.ext e1).ext e2
 replace HSm := (HSm.ext e1).ext e2
 replace HB1 := HB1.ext e2
 refine l_nil (n_then (c_cond rfl rfl (fun h12 => ?_) (fun h12 => ?_)))
 ·
  refine c_seq (wp_reg zd (l_v (zmS rfl) (l_v (v_load zk rfl (by first | exact HB2.cell rfl | exact HB1.cell rfl | exact HBt.cell rfl | assumption)) ?_)))
  refine l_to (to_call1 zk rfl (zvI rfl) (CallsR.mono (none_d) ?_))
  rintro _ w9 ⟨rfl, e9⟩
  have := e9.size
  replace HB2 := HB2.ext e9
  refine l_v (zaS rfl) (l_to (to_storeA (n := 3) rfl rfl (zvA rfl) zk rfl dj6 HB2 dj5 ?_))
  rintro w101 HX101 k101 z101
  have := k101.size
  replace HB2 := HX101
  clear HX101
  try simp only [zS, Nat.zero_add, Nat.reduceAdd, List.drop_nil] at HB2
  refine l_nil (n_then (c_ret (r_then (ret2tc (n := 3) rfl zq zq rfl zk HB2.pv rfl (zvS rfl) ?_))))
  have hh : hasM m key = false := by simpa using h12
  have hd : doM m (1, key, to, val, was, no, most) = (m, (6, [], [])) := by simp [doM, hh]
  replace E := (E.trans e9.keep).step k101 dj3
  replace HBt := (HBt.ext e9).keep k101 dj4
  replace HSm := (HSm.ext e9).keep k101 dj1
  replace HB1 := (HB1.ext e9).keep k101 dj4
  refine ⟨_, _, rfl, ?_, ?_, E⟩
  ·
   rw [hd]; exact SlV.fx HSm _
  rw [hd]; exact an_err ⟨by decide, by decide⟩
 have hh : hasM m key = true := by simpa using h12
 have hp := hasM_lt hh
 have hmx := HSm.len_max
 refine c_skip (n_then (c_seq (wp_any zk ?_)))
 have e102 : Ext w2 { w2 with drawn := w2.drawn + 1 } := Keep.drawn _ _
 generalize hw102 : ({ w2 with drawn := w2.drawn + 1 } : World) = w102 at e102 ⊢
 clear hw102
 have := e102.size
 refine r_cut 8 rfl zd zd zd ?_
 refine wp_regdW (NoK) zd zd ?_
 refine rt_v (fun vals w hR hd => zmS rfl) ?_
 refine rt_v (fun vals w hR hd => zmS rfl) ?_
 refine rt_v (fun vals w hR hd => zmI rfl) ?_
 refine rt_v (fun vals w hR hd => zmI rfl) ?_
 refine rt_v (fun vals w hR hd => v_add (hd 3 rfl) rfl (by first | exact wr_i64 zo zo | rfl)) ?_
 refine rt_v (fun vals w hR hd => v_slice (et := 50) (sz := 2) (l := posM m key) (h := posM m key + 1) zk zk (hd 1 rfl) ⟨.i64, ((hd 2 rfl)).trans (congrArg (Value.int _) zo)⟩ ⟨.i64, ((hd 4 rfl)).trans (congrArg (Value.int _) zo)⟩ zo zo) ?_
 refine rt_v (fun vals w hR hd => v_build (pl := [(0, 1), (1, 1), (2, 1)]) (z := .agg #[.int .i64 0, .slice none 0 0, .slice none 0 0]) (zl := [.int .i64 0, .slice none 0 0, .slice none 0 0]) (ps := [(1, .slice (slA a c (posM m key) 2) (posM m key + 1 - posM m key) (c - posM m key))]) zk (by unfold kZero; kernel_rfl) rfl (by refine parts1 (v0 := .slice (slA a c (posM m key) 2) (posM m key + 1 - posM m key) (c - posM m key)) ?_; exact (hd 5 rfl)) (cells := [.int .i64 0, .slice (slA a c (posM m key) 2) (posM m key + 1 - posM m key) (c - posM m key), .slice none 0 0]) rfl) ?_
 refine rt_v (fun vals w hR hd => v_assign (t := .slice _ _ _) (hd 0 rfl)) ?_
 refine rt_nil (fun w20 e20 => ?_)
 rintro _ rfl _ rfl _ rfl _ rfl _ rfl _ rfl _ rfl _ rfl
 have := e20.size
 refine fin_nil (n_then (r_one zd rfl ?_))
 replace HB2 := (HB2.ext e102).ext e20
 refine l_to (to_storeA (n := 3) rfl rfl (zvA rfl) zk rfl dj6 HB2 dj5 ?_)
 rintro w103 HX103 k103 z103
 have := k103.size
 replace HB2 := HX103
 clear HX103
 try simp only [zS, Nat.zero_add, Nat.reduceAdd, List.drop_nil] at HB2
 refine l_nil (n_then (c_ret (ret2tc (n := 3) rfl zq zq rfl zk HB2.pv rfl (zvS rfl) ?_)))
 have hd : doM m (1, key, to, val, was, no, most) = (m, (0, (m.drop (posM m key)).take 1, [])) := by simp [doM, hh]
 replace E := ((E.trans e102.keep).trans e20.keep).step k103 dj3
 replace HBt := ((HBt.ext e102).ext e20).keep k103 dj4
 replace HSm := ((HSm.ext e102).ext e20).keep k103 dj1
 replace HB1 := ((HB1.ext e102).ext e20).keep k103 dj4
 refine ⟨_, _, rfl, ?_, ?_, E⟩
 ·
  rw [hd]; exact SlV.fx HSm _
 rw [hd]
 have h := HSm.sub (l := posM m key) (h := posM m key + 1) zo zo
 have h2 : (m.take (posM m key + 1)).drop (posM m key) = (m.drop (posM m key)).take 1 := by rw [List.drop_take]; congr 1; omega
 have h3 : ((m.drop (posM m key)).take 1).length = posM m key + 1 - posM m key := by rw [List.length_take, List.length_drop]; omega
 rw [h2] at h
 exact AgV.mkAn (SlV.fx h _) (SlV.nil _ _ _) ⟨by decide, by decide⟩
theorem ask2_d (HSm : SlV tPr w F vm m) (HG1 : AgV tAk w F va (2, key, to, val, was, no, most)) (hm : mayMp m = true) (hn : m.length ≤ 900000) :
    CallsR Try.prog 83 (#[vm, va, .int .i64 (posM m key), .bool (hasM m key)] ++ #[]) w (AskR w F m (2, key, to, val, was, no, most)) := by
 show CallsR _ _ #[_, _, _, _] _ _
 obtain ⟨a, c, rfl⟩ := HSm.shape
 obtain ⟨a1, c1, a2, c2, a3, c3, a4, c4, rfl, HS1, HS2, HS3, HS4, hi1, hi2⟩ := HG1.ak
 have HSm := HSm.lt
 have HS1 := HS1.lt
 have HS3 := HS3.lt
 refine enter 17 Try.func83 rfl rfl (by simp) ?_
 refine c_seq ?_
 have E := Keep.refl (K := NoK) w
 refine wp_reg zd (l_to (to_box (zvA rfl) ?_))
 rintro b1 w1 zb1 HB1 e1 z1
 have := e1.size
 try simp only [Value.cells] at HB1
 refine l_v (v_assign rfl) (l_to (to_alloc (z := (.agg #[.int .i64 0, .slice none 0 0, .slice none 0 0])) (by unfold kZero; kernel_rfl) ?_))
 rintro b2 w2 zb2 HB2 e2 z2
 have := e2.size
 try simp only [Value.cells] at HB2
 replace HB1 := HB1.ext e2
 refine l_nil (n_then (c_seq (wp_reg zd (l_v (zmS rfl) (l_v (v_fieldAddr (off := 1) (ft := 26) zk rfl) (l_v (v_load zk rfl (by first | exact HB2.pv 1 _ rfl | exact HB1.pv 1 _ rfl | assumption)) ?_))))))
 refine l_v (v_fieldAddr (off := 3) (ft := 26) zk rfl) (l_v (v_load zk rfl (by first | exact HB2.pv 3 _ rfl | exact HB1.pv 3 _ rfl | assumption)) ?_)
 replace HSm := (HSm.ext e1).ext e2
 replace HS1 := (HS1.ext e1).ext e2
 replace HS3 := (HS3.ext e1).ext e2
 refine l_to (to_f3 zk (zvS rfl) (zvS rfl) (zvS rfl) (CallsR.mono (set_c HSm HS1 HS3 hm hn) ?_))
 rintro u9 w9 ⟨HS9, e9⟩
 have := e9.size
 obtain ⟨a9, c9, rfl⟩ := HS9.shape
 refine l_v (v_build (pl := [(0, 1), (1, 1), (2, 1)]) (z := .agg #[.int .i64 0, .slice none 0 0, .slice none 0 0]) (zl := [.int .i64 0, .slice none 0 0, .slice none 0 0]) zk (by unfold kZero; kernel_rfl) rfl rfl (cells := [_, _, _]) rfl) ?_
 replace HB2 := HB2.ext e9
 refine l_v (zaS rfl) (l_to (to_storeA (n := 3) rfl rfl (zvA rfl) zk rfl dj6 HB2 dj5 ?_))
 rintro w101 HX101 k101 z101
 have := k101.size
 replace HB2 := HX101
 clear HX101
 try simp only [zS, Nat.zero_add, Nat.reduceAdd, List.drop_nil] at HB2
 refine l_nil (n_then (c_ret (ret2tc (n := 3) rfl zq zq rfl zk HB2.pv rfl (zvS rfl) ?_)))
 have hd : doM m (2, key, to, val, was, no, most) = (setM m key val, an0) := by simp [doM]
 replace E := (((E.trans e1.keep).trans e2.keep).trans e9.keep).step k101 dj3
 replace HSm := (HSm.ext e9).keep k101 dj1
 replace HS1 := (HS1.ext e9).keep k101 dj1
 replace HS3 := (HS3.ext e9).keep k101 dj1
 replace HB1 := (HB1.ext e9).keep k101 dj4
 replace HS9 := HS9.keep k101 dj1
 refine ⟨_, _, rfl, ?_, ?_, E⟩
 ·
  rw [hd]; exact HS9.mono fun b _ h => h.imp (fun h => h.1) (fun h => by omega)
 rw [hd]; exact an0_ag
theorem ask3_d (HSm : SlV tPr w F vm m) (HG1 : AgV tAk w F va (3, key, to, val, was, no, most)) (HBt : Blk w bt [.func (.func 81) #[] #[]] 108) (hn : m.length ≤ 900000) :
    CallsR Try.prog 85 (#[vm, va, .int .i64 (posM m key), .bool (hasM m key)] ++ #[.pointer (some ⟨bt, 0, none⟩)]) w (AskR w F m (3, key, to, val, was, no, most)) := by
 show CallsR _ _ #[_, _, _, _, _] _ _
 obtain ⟨a, c, rfl⟩ := HSm.shape
 obtain ⟨a1, c1, a2, c2, a3, c3, a4, c4, rfl, HS1, HS2, HS3, HS4, hi1, hi2⟩ := HG1.ak
 have hcm := SlV.cap_ge HSm
 obtain ⟨n0, hn0⟩ : ∃ n, n = w.heap.size := ⟨_, rfl⟩
 have HSm := HSm.lt
 rw [← hn0] at HSm
 have zlt := HBt.lt
 refine enter 26 Try.func85 rfl rfl (by simp) ?_
 refine c_seq ?_
 have E := Keep.refl (K := NoK) w
 refine wp_reg zd (l_to (to_box (zvA rfl) ?_))
 rintro b1 w1 zb1 HB1 e1 z1
 have := e1.size
 try simp only [Value.cells] at HB1
 refine l_v (v_assign rfl) (l_to (to_alloc (z := (.agg #[.int .i64 0, .slice none 0 0, .slice none 0 0])) (by unfold kZero; kernel_rfl) ?_))
 rintro b2 w2 zb2 HB2 e2 z2
 have := e2.size
 try simp only [Value.cells] at HB2
 refine l_nil (n_then (c_seq (c_seq (wp_reg zd (l_v (zmB rfl) (l_v (v_not rfl) ?_))))))
 replace E := (E.trans e1.keep).trans e2.keep
 replace HBt := (HBt.ext e1).ext e2
 replace HSm := (HSm.ext e1).ext e2
 replace HB1 := HB1.ext e2
 refine l_nil (n_then (c_cond rfl rfl (fun h12 => ?_) (fun h12 => ?_)))
 ·
  refine c_seq (wp_reg zd (l_v (zmS rfl) (l_v (v_load zk rfl (by first | exact HB2.cell rfl | exact HB1.cell rfl | exact HBt.cell rfl | assumption)) ?_)))
  refine l_to (to_call1 zk rfl (zvI rfl) (CallsR.mono (none_d) ?_))
  rintro _ w9 ⟨rfl, e9⟩
  have := e9.size
  replace HB2 := HB2.ext e9
  refine l_v (zaS rfl) (l_to (to_storeA (n := 3) rfl rfl (zvA rfl) zk rfl dj6 HB2 dj5 ?_))
  rintro w101 HX101 k101 z101
  have := k101.size
  replace HB2 := HX101
  clear HX101
  try simp only [zS, Nat.zero_add, Nat.reduceAdd, List.drop_nil] at HB2
  refine l_nil (n_then (c_ret (r_then (ret2tc (n := 3) rfl zq zq rfl zk HB2.pv rfl (zvS rfl) ?_))))
  have hh : hasM m key = false := by simpa using h12
  have hd : doM m (3, key, to, val, was, no, most) = (m, (6, [], [])) := by simp [doM, hh]
  replace E := (E.trans e9.keep).step k101 dj3
  replace HBt := (HBt.ext e9).keep k101 dj4
  replace HSm := (HSm.ext e9).keep k101 dj1
  replace HB1 := (HB1.ext e9).keep k101 dj4
  refine ⟨_, _, rfl, ?_, ?_, E⟩
  ·
   rw [hd]; exact SlV.fx HSm _
  rw [hd]; exact an_err ⟨by decide, by decide⟩
 have hh : hasM m key = true := by simpa using h12
 have hp := hasM_lt hh
 have hmx := HSm.len_max
 obtain ⟨n6, hn6⟩ : ∃ n, n = w2.heap.size := ⟨_, rfl⟩
 refine c_skip (n_then (c_seq (wp_any zk ?_)))
 have e102 : Ext w2 { w2 with drawn := w2.drawn + 1 } := Keep.drawn _ _
 generalize hw102 : ({ w2 with drawn := w2.drawn + 1 } : World) = w102 at e102 ⊢
 clear hw102
 have := e102.size
 refine r_cut 11 rfl zd zd zd ?_
 refine wp_regdW (NoK) zd zd ?_
 refine rt_v (fun vals w hR hd => zmS rfl) ?_
 refine rt_v (fun vals w hR hd => zmI rfl) ?_
 refine rt_v (fun vals w hR hd => v_slice (et := 50) (sz := 2) (l := 0) (h := posM m key) zk zk (hd 0 rfl) rfl ⟨.i64, ((hd 1 rfl)).trans (congrArg (Value.int _) zo)⟩ zo zo) ?_
 refine rt_v (fun vals w hR hd => zmS rfl) ?_
 refine rt_v (fun vals w hR hd => zmI rfl) ?_
 refine rt_v (fun vals w hR hd => v_add (hd 4 rfl) rfl (by first | exact wr_i64 zo zo | rfl)) ?_
 refine rt_v (fun vals w hR hd => v_slice (et := 50) (sz := 2) (l := posM m key + 1) (h := m.length) zk zk (hd 3 rfl) ⟨.i64, ((hd 5 rfl)).trans (congrArg (Value.int _) zo)⟩ rfl zo zo) ?_
 replace HSm := HSm.ext e102
 refine rt_to (fun v W => SlV (tSl tPr) W (fun b => (F b ∧ b < n0) ∨ n6 ≤ b) v [(m.take (posM m key)).drop 0, (m.take m.length).drop (posM m key + 1)]) (fun v w w' h k => h.ext k) (fun vals w hR hd => to_sliceN (t := tSl tPr) (et := 22) (bytes := 24) (zl := [.slice none 0 0, .slice none 0 0]) (cells := [_, _]) zk zq zq (by unfold kZeros; kernel_rfl) (parts2 (hd 2 rfl) (hd 6 rfl)) rfl rfl rfl (reps_pr2 (F := fun b => (F b ∧ b < n0) ∨ n6 ≤ b) ((((HSm.ext hR)).sub (l := 0) (h := posM m key) zo zo).mono fun b _ h => .inl h) ((((HSm.ext hR)).sub (l := posM m key + 1) (h := m.length) zo zo).mono fun b _ h => .inl h)) (fun b w1 hb HO e z => ⟨e, HO.view.mono fun b _ h => by have := hR.size; exact h.elim (fun h => .inr zo) (fun h => h.1)⟩)) ?_
 refine rt_to (fun v W => SlV tPr W (fun b => (F b ∧ b < n0) ∨ n6 ≤ b) v (delM m key)) (fun v w w' h k => h.ext k) (fun vals w hR hd => to_f1 zk (show _ = vals 7 from rfl) (CallsR.mono (ConcatP_c (show SlV (tSl tPr) _ (fun b => (F b ∧ b < n0) ∨ n6 ≤ b) _ [(m.take (posM m key)).drop 0, (m.take m.length).drop (posM m key + 1)] from hd 7 rfl) (by simp) (by simp; omega)) fun v w1 ⟨h, e⟩ => ⟨e, by simpa [delM] using h.mono (F' := fun b => (F b ∧ b < n0) ∨ n6 ≤ b) fun b _ h => by have := hR.size; exact h.elim (fun h => h) (fun h => .inr zo)⟩)) ?_
 refine rt_v (fun vals w hR hd => v_build (pl := [(0, 1), (1, 1), (2, 1)]) (z := .agg #[.int .i64 0, .slice none 0 0, .slice none 0 0]) (zl := [.int .i64 0, .slice none 0 0, .slice none 0 0]) zk (by unfold kZero; kernel_rfl) rfl rfl (cells := [_, _, _]) rfl) ?_
 refine rt_to (fun v W => SlV tPr W (fun b => (F b ∧ b < n0) ∨ n6 ≤ b) v (delM m key)) (fun v w w' h k => h.ext k) (fun vals w hR hd => OpTo.of_v (v_assign rfl) ⟨Keep.refl _, (show SlV tPr _ (fun b => (F b ∧ b < n0) ∨ n6 ≤ b) _ (delM m key) from hd 8 rfl)⟩) ?_
 refine rt_nil (fun w20 e20 => ?_)
 rintro _ rfl _ rfl _ rfl _ rfl _ rfl _ rfl _ rfl v23 HS23 v24 HS24 _ rfl v9 HS9
 have := e20.size
 have HS9 : SlV tPr _ (fun b => (F b ∧ b < n0) ∨ n6 ≤ b) v9 (delM m key) := HS9
 obtain ⟨a9, c9, rfl⟩ := HS9.shape
 refine fin_nil (n_then (r_one zd rfl ?_))
 replace HB2 := (HB2.ext e102).ext e20
 refine l_to (to_storeA (n := 3) rfl rfl (zvA rfl) zk rfl dj6 HB2 dj5 ?_)
 rintro w103 HX103 k103 z103
 have := k103.size
 replace HB2 := HX103
 clear HX103
 try simp only [zS, Nat.zero_add, Nat.reduceAdd, List.drop_nil] at HB2
 refine l_nil (n_then (c_ret (ret2tc (n := 3) rfl zq zq rfl zk HB2.pv rfl (zvS rfl) ?_)))
 have hd : doM m (3, key, to, val, was, no, most) = (delM m key, an0) := by simp [doM, hh]
 replace E := ((E.trans e102.keep).trans e20.keep).step k103 dj3
 replace HBt := ((HBt.ext e102).ext e20).keep k103 dj4
 replace HB1 := ((HB1.ext e102).ext e20).keep k103 dj4
 replace HSm := (HSm.ext e20).keep k103 dj1
 replace HS9 := HS9.keep k103 dj1
 refine ⟨_, _, rfl, ?_, ?_, E⟩
 ·
  rw [hd]; exact HS9.mono fun b _ h => h.imp (fun h => h.1) (fun h => by omega)
 rw [hd]; exact an0_ag
end
end Go.Proofs.Ytifnkmflmgnfjaa

namespace Go.Proofs.Ytifnkmflmgnfjaa
open Go.Vc
set_option linter.unusedVariables false
set_option linter.unusedSimpArgs false
set_option maxRecDepth 100000

section
variable {w : World} {F : Nat → Prop} {vm va : Value} {m : MapV} {key to val was : List UInt8} {no : Bool} {most : Int} {bt : Nat}
theorem ask4_d (HSm : SlV tPr w F vm m) (HG1 : AgV tAk w F va (4, key, to, val, was, no, most)) (HBt : Blk w bt [.func (.func 81) #[] #[]] 108) (hm : mayMp m = true) (hn : m.length ≤ 900000) :
    CallsR Try.prog 87 (#[vm, va, .int .i64 (posM m key), .bool (hasM m key)] ++ #[.pointer (some ⟨bt, 0, none⟩)]) w (AskR w F m (4, key, to, val, was, no, most)) := by
 show CallsR _ _ #[_, _, _, _, _] _ _
 obtain ⟨a, c, rfl⟩ := HSm.shape
 obtain ⟨a1, c1, a2, c2, a3, c3, a4, c4, rfl, HS1, HS2, HS3, HS4, hi1, hi2⟩ := HG1.ak
 have HSm := HSm.lt
 have HS1 := HS1.lt
 have HS3 := HS3.lt
 have HS4 := HS4.lt
 have zlt := HBt.lt
 rcases hh : hasM m key with _ | _
 ·
  refine enter 39 Try.func87 rfl rfl (by simp) ?_
  refine c_seq ?_
  have E := Keep.refl (K := NoK) w
  refine wp_reg zd (l_to (to_box (zvA rfl) ?_))
  rintro b1 w1 zb1 HB1 e1 z1
  have := e1.size
  try simp only [Value.cells] at HB1
  refine l_v (v_assign rfl) (l_to (to_alloc (z := (.agg #[.int .i64 0, .slice none 0 0, .slice none 0 0])) (by unfold kZero; kernel_rfl) ?_))
  rintro b2 w2 zb2 HB2 e2 z2
  have := e2.size
  try simp only [Value.cells] at HB2
  refine l_nil (n_then (c_seq (c_seq (wp_regd (NoK) zk zd zd ?_))))
  refine rt_v (fun vals w hR hd => v_fieldAddr (off := 5) (ft := 4) zk rfl) ?_
  replace HBt := (HBt.ext e1).ext e2
  replace HB1 := HB1.ext e2
  refine rt_v (fun vals w hR hd => v_load zk (hd 0 rfl) (by first | exact (HB2.ext hR).pv 5 _ rfl | exact (HB1.ext hR).pv 5 _ rfl | exact (HBt.ext hR).pv 5 _ rfl | assumption)) ?_
  refine rt_v (fun vals w hR hd => zmB rfl) ?_
  refine rt_v (fun vals w hR hd => v_beql zk (hd 1 rfl) (hd 2 rfl)) ?_
  refine rt_v (fun vals w hR hd => v_move (t := .bool _) (hd 3 rfl)) ?_
  refine rt_g1 rfl (fun vals w hd => hd 4 rfl) (fun vals w hR hd hG => zmB rfl) ?_
  refine rt_g1 rfl (fun vals w hd => hd 4 rfl) (fun vals w hR hd hG => v_move (t := .bool _) (gd hG (hd 5 rfl))) ?_
  refine rt_g2 rfl (fun vals w hd => hd 6 rfl) (fun vals w hR hd hG => zmS rfl) ?_
  refine rt_g2 rfl (fun vals w hd => hd 6 rfl) (fun vals w hR hd hG => zmI rfl) ?_
  refine rt_g2 rfl (fun vals w hd => hd 6 rfl) (fun vals w hR hd hG => show OpVat _ _ _ _ (undef) from False.elim ((by simp at hG))) ?_
  refine rt_g2 rfl (fun vals w hd => hd 6 rfl) (fun vals w hR hd hG => show OpVat _ _ _ _ (undef) from False.elim ((by simp at hG))) ?_
  refine rt_g2 rfl (fun vals w hd => hd 6 rfl) (fun vals w hR hd hG => show OpVat _ _ _ _ (undef) from False.elim ((by simp at hG))) ?_
  refine rt_g2 rfl (fun vals w hd => hd 6 rfl) (fun vals w hR hd hG => show OpVat _ _ _ _ (undef) from False.elim ((by simp at hG))) ?_
  refine rt_g2 rfl (fun vals w hd => hd 6 rfl) (fun vals w hR hd hG => show OpVat _ _ _ _ (undef) from False.elim ((by simp at hG))) ?_
  refine rt_g2 rfl (fun vals w hd => hd 6 rfl) (fun vals w hR hd hG => show OpVat _ _ _ _ (.bool true) from False.elim ((by simp at hG))) ?_
  refine rt_g2 rfl (fun vals w hd => hd 6 rfl) (fun vals w hR hd hG => show OpVat _ _ _ _ (.bool true) from False.elim ((by simp at hG))) ?_
  refine rt_g1 rfl (fun vals w hd => hd 4 rfl) (fun vals w hR hd hG => v_and (gd hG (hd 6 rfl)) (gda hG (hd 15 rfl))) ?_
  refine rt_v (fun vals w hR hd => v_or (hd 4 rfl) (hd 16 rfl)) ?_
  refine rt_nil (fun w101 e101 => ?_)
  rintro _ rfl _ rfl _ rfl _ rfl _ rfl _ rfl _ rfl _ rfl _ rfl _ rfl _ rfl _ rfl _ rfl _ rfl _ rfl _ rfl _ rfl _ rfl
  have := e101.size
  replace E := ((E.trans e1.keep).trans e2.keep).trans e101.keep
  replace HSm := ((HSm.ext e1).ext e2).ext e101
  replace HS1 := ((HS1.ext e1).ext e2).ext e101
  replace HS3 := ((HS3.ext e1).ext e2).ext e101
  replace HS4 := ((HS4.ext e1).ext e2).ext e101
  replace HBt := HBt.ext e101
  replace HB1 := HB1.ext e101
  replace HB2 := HB2.ext e101
  refine fin_nil (n_then (c_cond rfl rfl (fun h28 => ?_) (fun h28 => ?_)))
  ·
   refine c_seq (wp_reg zd (l_v (zmS rfl) (l_v (v_load zk rfl (by first | exact HB2.cell rfl | exact HB1.cell rfl | exact HBt.cell rfl | assumption)) ?_)))
   refine l_to (to_call1 zk rfl (zvI rfl) (CallsR.mono (none_d) ?_))
   rintro _ w9 ⟨rfl, e9⟩
   have := e9.size
   replace HB2 := HB2.ext e9
   refine l_v (zaS rfl) (l_to (to_storeA (n := 3) rfl rfl (zvA rfl) zk rfl dj6 HB2 dj5 ?_))
   rintro w102 HX102 k102 z102
   have := k102.size
   replace HB2 := HX102
   clear HX102
   try simp only [zS, Nat.zero_add, Nat.reduceAdd, List.drop_nil] at HB2
   refine l_nil (n_then (c_ret (r_then (ret2tc (n := 3) rfl zq zq rfl zk HB2.pv rfl (zvS rfl) ?_))))
   have hx : misM m key was no = true := by simpa [misM, hh] using h28
   have hd : doM m (4, key, to, val, was, no, most) = (m, (12, [], [])) := by simp [doM, hx]
   replace E := (E.trans e9.keep).step k102 dj3
   replace HBt := (HBt.ext e9).keep k102 dj4
   replace HSm := (HSm.ext e9).keep k102 dj1
   replace HS1 := (HS1.ext e9).keep k102 dj1
   replace HS3 := (HS3.ext e9).keep k102 dj1
   replace HS4 := (HS4.ext e9).keep k102 dj1
   replace HB1 := (HB1.ext e9).keep k102 dj4
   refine ⟨_, _, rfl, ?_, ?_, E⟩
   ·
    rw [hd]; exact SlV.fx HSm _
   rw [hd]; exact an_err ⟨by decide, by decide⟩
  refine c_skip (n_then (c_seq (wp_reg zd (l_v (zmS rfl) (l_v (v_fieldAddr (off := 1) (ft := 26) zk rfl) (l_v (v_load zk rfl (by first | exact HB2.pv 1 _ rfl | exact HB1.pv 1 _ rfl | exact HBt.pv 1 _ rfl | assumption)) ?_))))))
  refine l_v (v_fieldAddr (off := 3) (ft := 26) zk rfl) (l_v (v_load zk rfl (by first | exact HB2.pv 3 _ rfl | exact HB1.pv 3 _ rfl | exact HBt.pv 3 _ rfl | assumption)) ?_)
  refine l_to (to_f3 zk (zvS rfl) (zvS rfl) (zvS rfl) (CallsR.mono (set_c HSm HS1 HS3 hm hn) ?_))
  rintro u9 w9 ⟨HS9, e9⟩
  have := e9.size
  obtain ⟨a9, c9, rfl⟩ := HS9.shape
  refine l_v (v_build (pl := [(0, 1), (1, 1), (2, 1)]) (z := .agg #[.int .i64 0, .slice none 0 0, .slice none 0 0]) (zl := [.int .i64 0, .slice none 0 0, .slice none 0 0]) zk (by unfold kZero; kernel_rfl) rfl rfl (cells := [_, _, _]) rfl) ?_
  replace HB2 := HB2.ext e9
  refine l_v (zaS rfl) (l_to (to_storeA (n := 3) rfl rfl (zvA rfl) zk rfl dj6 HB2 dj5 ?_))
  rintro w103 HX103 k103 z103
  have := k103.size
  replace HB2 := HX103
  clear HX103
  try simp only [zS, Nat.zero_add, Nat.reduceAdd, List.drop_nil] at HB2
  refine l_nil (n_then (c_ret (ret2tc (n := 3) rfl zq zq rfl zk HB2.pv rfl (zvS rfl) ?_)))
  have hx : misM m key was no = false := by simpa [misM, hh] using h28
  have hd : doM m (4, key, to, val, was, no, most) = (setM m key val, an0) := by simp [doM, hx]
  replace E := (E.trans e9.keep).step k103 dj3
  replace HBt := (HBt.ext e9).keep k103 dj4
  replace HSm := (HSm.ext e9).keep k103 dj1
  replace HS1 := (HS1.ext e9).keep k103 dj1
  replace HS3 := (HS3.ext e9).keep k103 dj1
  replace HS4 := (HS4.ext e9).keep k103 dj1
  replace HB1 := (HB1.ext e9).keep k103 dj4
  replace HS9 := HS9.keep k103 dj1
  refine ⟨_, _, rfl, ?_, ?_, E⟩
  ·
   rw [hd]; exact HS9.mono fun b _ h => h.imp (fun h => h.1) (fun h => by omega)
  rw [hd]; exact an0_ag
 have hp := hasM_lt hh
 obtain ⟨p, hx, _⟩ := getE (l := m) (i := posM m key) hp
 obtain ⟨q, cs, hqq, hF, _, HPq, hr⟩ := HSm.el hx
 subst hqq
 obtain ⟨a5, c5, a6, c6, rfl, HSk, HSv⟩ := tPr_cells hr
 have hmx := HSm.len_max
 refine enter 39 Try.func87 rfl rfl (by simp) ?_
 refine c_seq ?_
 have E := Keep.refl (K := NoK) w
 refine wp_reg zd (l_to (to_box (zvA rfl) ?_))
 rintro b1 w1 zb1 HB1 e1 z1
 have := e1.size
 try simp only [Value.cells] at HB1
 refine l_v (v_assign rfl) (l_to (to_alloc (z := (.agg #[.int .i64 0, .slice none 0 0, .slice none 0 0])) (by unfold kZero; kernel_rfl) ?_))
 rintro b2 w2 zb2 HB2 e2 z2
 have := e2.size
 try simp only [Value.cells] at HB2
 refine l_nil (n_then (c_seq (c_seq (wp_regd (NoK) zk zd zd ?_))))
 refine rt_v (fun vals w hR hd => v_fieldAddr (off := 5) (ft := 4) zk rfl) ?_
 replace HBt := (HBt.ext e1).ext e2
 replace HPq := (HPq.ext e1).ext e2
 replace HB1 := HB1.ext e2
 refine rt_v (fun vals w hR hd => v_load zk (hd 0 rfl) (by first | exact (HB2.ext hR).pv 5 _ rfl | exact (HB1.ext hR).pv 5 _ rfl | exact (HPq.ext hR) 5 _ rfl | exact pv_1 (HPq.ext hR) | exact (HBt.ext hR).pv 5 _ rfl | assumption)) ?_
 refine rt_v (fun vals w hR hd => zmB rfl) ?_
 refine rt_v (fun vals w hR hd => v_beql zk (hd 1 rfl) (hd 2 rfl)) ?_
 refine rt_v (fun vals w hR hd => v_move (t := .bool _) (hd 3 rfl)) ?_
 refine rt_g1 rfl (fun vals w hd => hd 4 rfl) (fun vals w hR hd hG => zmB rfl) ?_
 refine rt_g1 rfl (fun vals w hd => hd 4 rfl) (fun vals w hR hd hG => v_move (t := .bool _) (gd hG (hd 5 rfl))) ?_
 refine rt_g2 rfl (fun vals w hd => hd 6 rfl) (fun vals w hR hd hG => zmS rfl) ?_
 refine rt_g2 rfl (fun vals w hd => hd 6 rfl) (fun vals w hR hd hG => zmI rfl) ?_
 refine rt_g2 rfl (fun vals w hd => hd 6 rfl) (fun vals w hR hd hG => v_indexAddr (et := 50) (sz := 2) (k := posM m key) zk zk (gd hG (hd 7 rfl)) (gd hG (hd 8 rfl)) (by first | rfl | omega) zo) ?_
 refine rt_g2 rfl (fun vals w hd => hd 6 rfl) (fun vals w hR hd hG => v_fieldAddr (off := 1) (ft := 26) zk (gd hG (hd 9 rfl))) ?_
 refine rt_g2 rfl (fun vals w hd => hd 6 rfl) (fun vals w hR hd hG => v_load zk (gd hG (hd 10 rfl)) (by first | exact (HB2.ext hR).pv 1 _ rfl | exact (HB1.ext hR).pv 1 _ rfl | exact (HPq.ext hR) 1 _ rfl | exact pv_1 (HPq.ext hR) | exact (HBt.ext hR).pv 1 _ rfl | assumption)) ?_
 refine rt_g2 rfl (fun vals w hd => hd 6 rfl) (fun vals w hR hd hG => v_fieldAddr (off := 4) (ft := 26) zk rfl) ?_
 refine rt_g2 rfl (fun vals w hd => hd 6 rfl) (fun vals w hR hd hG => v_load zk (gd hG (hd 12 rfl)) (by first | exact (HB2.ext hR).pv 4 _ rfl | exact (HB1.ext hR).pv 4 _ rfl | exact (HPq.ext hR) 4 _ rfl | exact pv_1 (HPq.ext hR) | exact (HBt.ext hR).pv 4 _ rfl | assumption)) ?_
 replace HS4 := (HS4.ext e1).ext e2
 replace HSv := (HSv.ext e1).ext e2
 refine rt_g2f rfl (fun vals w hd => hd 6 rfl) (fun vals w hR hd hG => to_f2 zk (gd hG (hd 11 rfl)) (gd hG (hd 13 rfl)) (Equal_c (HSv.ext hR) (HS4.ext hR))) ?_
 refine rt_g2 rfl (fun vals w hd => hd 6 rfl) (fun vals w hR hd hG => v_not (gd hG (hd 14 rfl))) ?_
 refine rt_g1 rfl (fun vals w hd => hd 4 rfl) (fun vals w hR hd hG => v_and (gd hG (hd 6 rfl)) (gda hG (hd 15 rfl))) ?_
 refine rt_v (fun vals w hR hd => v_or (hd 4 rfl) (hd 16 rfl)) ?_
 refine rt_nil (fun w101 e101 => ?_)
 rintro _ rfl _ rfl _ rfl _ rfl _ rfl _ rfl _ rfl _ rfl _ rfl _ rfl _ rfl _ rfl _ rfl _ rfl _ rfl _ rfl _ rfl _ rfl
 have := e101.size
 replace E := ((E.trans e1.keep).trans e2.keep).trans e101.keep
 replace HSm := ((HSm.ext e1).ext e2).ext e101
 replace HS1 := ((HS1.ext e1).ext e2).ext e101
 replace HS3 := ((HS3.ext e1).ext e2).ext e101
 replace HBt := HBt.ext e101
 replace HS4 := HS4.ext e101
 replace HPq := HPq.ext e101
 replace HSv := HSv.ext e101
 replace HB1 := HB1.ext e101
 replace HB2 := HB2.ext e101
 refine fin_nil (n_then (c_cond rfl rfl (fun h28 => ?_) (fun h28 => ?_)))
 ·
  refine c_seq (wp_reg zd (l_v (zmS rfl) (l_v (v_load zk rfl (by first | exact HB2.cell rfl | exact HB1.cell rfl | exact pv_1 HPq | exact HBt.cell rfl | assumption)) ?_)))
  refine l_to (to_call1 zk rfl (zvI rfl) (CallsR.mono (none_d) ?_))
  rintro _ w9 ⟨rfl, e9⟩
  have := e9.size
  replace HB2 := HB2.ext e9
  refine l_v (zaS rfl) (l_to (to_storeA (n := 3) rfl rfl (zvA rfl) zk rfl dj6 HB2 dj5 ?_))
  rintro w102 HX102 k102 z102
  have := k102.size
  replace HB2 := HX102
  clear HX102
  try simp only [zS, Nat.zero_add, Nat.reduceAdd, List.drop_nil] at HB2
  refine l_nil (n_then (c_ret (r_then (ret2tc (n := 3) rfl zq zq rfl zk HB2.pv rfl (zvS rfl) ?_))))
  have hx : misM m key was no = true := by simpa [misM, hh, hx] using h28
  have hd : doM m (4, key, to, val, was, no, most) = (m, (12, [], [])) := by simp [doM, hx]
  replace E := (E.trans e9.keep).step k102 dj3
  replace HBt := (HBt.ext e9).keep k102 dj4
  replace HSm := (HSm.ext e9).keep k102 dj1
  replace HS1 := (HS1.ext e9).keep k102 dj1
  replace HS3 := (HS3.ext e9).keep k102 dj1
  replace HS4 := (HS4.ext e9).keep k102 dj1
  replace HPq := (HPq.ext e9).keep k102 (by intro h; (try dsimp only at h); (try simp only [add_block] at h); first | omega)
  replace HSv := (HSv.ext e9).keep k102 dj1
  replace HB1 := (HB1.ext e9).keep k102 dj4
  refine ⟨_, _, rfl, ?_, ?_, E⟩
  ·
   rw [hd]; exact SlV.fx HSm _
  rw [hd]; exact an_err ⟨by decide, by decide⟩
 refine c_skip (n_then (c_seq (wp_reg zd (l_v (zmS rfl) (l_v (v_fieldAddr (off := 1) (ft := 26) zk rfl) (l_v (v_load zk rfl (by first | exact HB2.pv 1 _ rfl | exact HB1.pv 1 _ rfl | exact HPq 1 _ rfl | exact pv_1 HPq | exact HBt.pv 1 _ rfl | assumption)) ?_))))))
 refine l_v (v_fieldAddr (off := 3) (ft := 26) zk rfl) (l_v (v_load zk rfl (by first | exact HB2.pv 3 _ rfl | exact HB1.pv 3 _ rfl | exact HPq 3 _ rfl | exact pv_1 HPq | exact HBt.pv 3 _ rfl | assumption)) ?_)
 refine l_to (to_f3 zk (zvS rfl) (zvS rfl) (zvS rfl) (CallsR.mono (set_c HSm HS1 HS3 hm hn) ?_))
 rintro u9 w9 ⟨HS9, e9⟩
 have := e9.size
 obtain ⟨a9, c9, rfl⟩ := HS9.shape
 refine l_v (v_build (pl := [(0, 1), (1, 1), (2, 1)]) (z := .agg #[.int .i64 0, .slice none 0 0, .slice none 0 0]) (zl := [.int .i64 0, .slice none 0 0, .slice none 0 0]) zk (by unfold kZero; kernel_rfl) rfl rfl (cells := [_, _, _]) rfl) ?_
 replace HB2 := HB2.ext e9
 refine l_v (zaS rfl) (l_to (to_storeA (n := 3) rfl rfl (zvA rfl) zk rfl dj6 HB2 dj5 ?_))
 rintro w103 HX103 k103 z103
 have := k103.size
 replace HB2 := HX103
 clear HX103
 try simp only [zS, Nat.zero_add, Nat.reduceAdd, List.drop_nil] at HB2
 refine l_nil (n_then (c_ret (ret2tc (n := 3) rfl zq zq rfl zk HB2.pv rfl (zvS rfl) ?_)))
 have hx : misM m key was no = false := by simpa [misM, hh, hx] using h28
 have hd : doM m (4, key, to, val, was, no, most) = (setM m key val, an0) := by simp [doM, hx]
 replace E := (E.trans e9.keep).step k103 dj3
 replace HBt := (HBt.ext e9).keep k103 dj4
 replace HSm := (HSm.ext e9).keep k103 dj1
 replace HS1 := (HS1.ext e9).keep k103 dj1
 replace HS3 := (HS3.ext e9).keep k103 dj1
 replace HS4 := (HS4.ext e9).keep k103 dj1
 replace HPq := (HPq.ext e9).keep k103 (by intro h; (try dsimp only at h); (try simp only [add_block] at h); first | omega)
 replace HSv := (HSv.ext e9).keep k103 dj1
 replace HB1 := (HB1.ext e9).keep k103 dj4
 replace HS9 := HS9.keep k103 dj1
 refine ⟨_, _, rfl, ?_, ?_, E⟩
 ·
  rw [hd]; exact HS9.mono fun b _ h => h.imp (fun h => h.1) (fun h => by omega)
 rw [hd]; exact an0_ag
theorem ask5_d (HSm : SlV tPr w F vm m) (HG1 : AgV tAk w F va (5, key, to, val, was, no, most)) (hm : mayMp m = true) (hn : m.length ≤ 900000) (h0 : 1 ≤ most) :
    CallsR Try.prog 88 (#[vm, va, .int .i64 (posM m key), .bool (hasM m key)] ++ #[]) w (AskR w F m (5, key, to, val, was, no, most)) := by
 show CallsR _ _ #[_, _, _, _] _ _
 obtain ⟨a, c, rfl⟩ := HSm.shape
 obtain ⟨a1, c1, a2, c2, a3, c3, a4, c4, rfl, HS1, HS2, HS3, HS4, hi1, hi2⟩ := HG1.ak
 simp only [] at HS1 HS2 HS3 HS4 hi1 hi2 ⊢
 have HSm := HSm.lt
 have HS1 := HS1.lt
 have HS2 := HS2.lt
 refine enter 41 Try.func88 rfl rfl (by simp) ?_
 refine c_seq ?_
 have E := Keep.refl (K := NoK) w
 refine wp_reg zd (l_to (to_box (zvA rfl) ?_))
 rintro b1 w1 zb1 HB1 e1 z1
 have := e1.size
 try simp only [Value.cells] at HB1
 refine l_v (v_assign rfl) (l_to (to_alloc (z := (.agg #[.int .i64 0, .slice none 0 0, .slice none 0 0])) (by unfold kZero; kernel_rfl) ?_))
 rintro b2 w2 zb2 HB2 e2 z2
 have := e2.size
 try simp only [Value.cells] at HB2
 replace HB1 := HB1.ext e2
 refine l_nil (n_then (c_seq (wp_reg zd (l_v (zmS rfl) (l_v (v_fieldAddr (off := 1) (ft := 26) zk rfl) (l_v (v_load zk rfl (by first | exact HB2.pv 1 _ rfl | exact HB1.pv 1 _ rfl | assumption)) ?_))))))
 refine l_v (v_fieldAddr (off := 2) (ft := 26) zk rfl) (l_v (v_load zk rfl (by first | exact HB2.pv 2 _ rfl | exact HB1.pv 2 _ rfl | assumption)) ?_)
 replace HSm := (HSm.ext e1).ext e2
 replace HS1 := (HS1.ext e1).ext e2
 replace HS2 := (HS2.ext e1).ext e2
 refine l_to (to_f3 zk (zvS rfl) (zvS rfl) (zvS rfl) (CallsR.mono (part_c HSm HS1 HS2 hm zo) ?_))
 rintro u9 w9 ⟨HSp, e9⟩
 have := e9.size
 obtain ⟨a9, c9, rfl⟩ := HSp.shape
 have hcp := SlV.cap_ge HSp
 have hmx := HSp.len_max
 refine l_v (zaS rfl) (l_nil (n_then (c_seq (c_seq (wp_reg zd (l_v (zmS rfl) (l_v (v_len (et := 50) zk rfl) ?_)))))))
 replace HB1 := HB1.ext e9
 replace HB2 := HB2.ext e9
 refine l_v (v_fieldAddr (off := 6) (ft := 3) zk rfl) (l_v (v_load zk rfl (by first | exact HB2.pv 6 _ rfl | exact HB1.pv 6 _ rfl | assumption)) ?_)
 refine l_v (v_leq rfl rfl) ?_
 replace E := ((E.trans e1.keep).trans e2.keep).trans e9.keep
 replace HSm := HSm.ext e9
 replace HS1 := HS1.ext e9
 replace HS2 := HS2.ext e9
 refine l_nil (n_then (c_cond rfl rfl (fun h21 => ?_) (fun h21 => ?_)))
 ·
  refine c_seq (wp_reg zd (l_v (zmS rfl) (l_v (zmS rfl) (l_v (v_build (pl := [(0, 1), (1, 1), (2, 1)]) (z := .agg #[.int .i64 0, .slice none 0 0, .slice none 0 0]) (zl := [.int .i64 0, .slice none 0 0, .slice none 0 0]) zk (by unfold kZero; kernel_rfl) rfl rfl (cells := [_, _, _]) rfl) ?_))))
  refine l_v (zaS rfl) (l_to (to_storeA (n := 3) rfl rfl (zvA rfl) zk rfl dj6 HB2 dj5 ?_))
  rintro w101 HX101 k101 z101
  have := k101.size
  replace HB2 := HX101
  clear HX101
  try simp only [zS, Nat.zero_add, Nat.reduceAdd, List.drop_nil] at HB2
  refine l_nil (n_then (c_ret (r_then (ret2tc (n := 3) rfl zq zq rfl zk HB2.pv rfl (zvS rfl) ?_))))
  have hd : doM m (5, key, to, val, was, no, most) = (m, (0, partM m key to, [])) := by simp [doM]; intro h; have := dtrue h21; omega
  replace E := E.step k101 dj3
  replace HSm := HSm.keep k101 dj1
  replace HS1 := HS1.keep k101 dj1
  replace HS2 := HS2.keep k101 dj1
  replace HB1 := HB1.keep k101 dj4
  replace HSp := HSp.keep k101 dj1
  refine ⟨_, _, rfl, ?_, ?_, E⟩
  ·
   rw [hd]; exact SlV.fx HSm _
  rw [hd]; exact AgV.mkAn (SlV.fx HSp _) (SlV.nil _ _ _) ⟨by decide, by decide⟩
 have hk : most < (partM m key to).length := by have := dfalse h21; omega
 obtain ⟨k, rfl⟩ := Int.eq_ofNat_of_zero_le (show 0 ≤ most by omega)
 obtain ⟨p, hx, _⟩ := getE (l := partM m key to) (i := k - 1) zo
 have hpl := okP_len (mayMp_ok hm p (partM_sub.subset (List.mem_of_getElem? hx)))
 obtain ⟨q, cs, hqq, hF, _, HPq, hr⟩ := HSp.el hx
 subst hqq
 obtain ⟨a5, c5, a6, c6, rfl, HSk, HSv⟩ := tPr_cells hr
 refine c_skip (n_then (c_seq (wp_any zk ?_)))
 have e102 : Ext w9 { w9 with drawn := w9.drawn + 1 } := Keep.drawn _ _
 generalize hw102 : ({ w9 with drawn := w9.drawn + 1 } : World) = w102 at e102 ⊢
 clear hw102
 have := e102.size
 refine r_cut 17 rfl zd zd zd ?_
 refine wp_regJW (fun k => w102.heap.size ≤ k) (CaJ 12 13 14 15 5 (p.1) ([0]) (fun u => .agg #[.int .i64 0, .slice (some q) k c9, u]) w102.heap.size) zd zd (fun vals done hd => CaJ.start (hd 12 zq) (hd 13 zq) (hd 14 zq) (hd 15 zq) (Nat.le_refl _)) ?_
 refine rj_vJ (fun done vals w hR hcl hdk hJ hdn hd => zmS rfl) (fun done vals w hdk hJ => hJ.other zq zq zq zq) ?_
 refine rj_vJ (fun done vals w hR hcl hdk hJ hdn hd => zmS rfl) (fun done vals w hdk hJ => hJ.other zq zq zq zq) ?_
 refine rj_vJ (fun done vals w hR hcl hdk hJ hdn hd => v_fieldAddr (off := 6) (ft := 3) zk rfl) (fun done vals w hdk hJ => hJ.other zq zq zq zq) ?_
 replace HB1 := HB1.ext e102
 replace HB2 := HB2.ext e102
 replace HPq := HPq.ext e102
 refine rj_vJ (fun done vals w hR hcl hdk hJ hdn hd => v_load zk (hd 2 rfl) (by first | exact (HPq.keep hR (by intro h; (try dsimp only at h); (try simp only [add_block] at h); first | omega)) 6 _ rfl | exact pv_1 (HPq.keep hR (by intro h; (try dsimp only at h); (try simp only [add_block] at h); first | omega)) | exact (HB2.keep hR dj4).pv 6 _ rfl | exact (HB1.keep hR dj4).pv 6 _ rfl | assumption)) (fun done vals w hdk hJ => hJ.other zq zq zq zq) ?_
 refine rj_vJ (fun done vals w hR hcl hdk hJ hdn hd => v_slicePre (et := 50) (sz := 2) (h := k) zk zk (hd 1 rfl) (hd 3 rfl) (by first | rfl | omega) zo) (fun done vals w hdk hJ => hJ.other zq zq zq zq) ?_
 refine rj_vJ (fun done vals w hR hcl hdk hJ hdn hd => zmS rfl) (fun done vals w hdk hJ => hJ.other zq zq zq zq) ?_
 refine rj_vJ (fun done vals w hR hcl hdk hJ hdn hd => v_fieldAddr (off := 6) (ft := 3) zk rfl) (fun done vals w hdk hJ => hJ.other zq zq zq zq) ?_
 refine rj_vJ (fun done vals w hR hcl hdk hJ hdn hd => v_load zk (hd 6 rfl) (by first | exact (HPq.keep hR (by intro h; (try dsimp only at h); (try simp only [add_block] at h); first | omega)) 6 _ rfl | exact pv_1 (HPq.keep hR (by intro h; (try dsimp only at h); (try simp only [add_block] at h); first | omega)) | exact (HB2.keep hR dj4).pv 6 _ rfl | exact (HB1.keep hR dj4).pv 6 _ rfl | assumption)) (fun done vals w hdk hJ => hJ.other zq zq zq zq) ?_
 refine rj_vJ (fun done vals w hR hcl hdk hJ hdn hd => v_sub (hd 7 rfl) rfl (by first | exact wr_i64 zo zo | rfl)) (fun done vals w hdk hJ => hJ.other zq zq zq zq) ?_
 refine rj_vJ (fun done vals w hR hcl hdk hJ hdn hd => v_indexAddr (et := 50) (sz := 2) (k := k - 1) zk zk (hd 5 rfl) (hd 8 rfl) zo zo) (fun done vals w hdk hJ => hJ.other zq zq zq zq) ?_
 refine rj_vJ (fun done vals w hR hcl hdk hJ hdn hd => v_fieldAddr (off := 0) (ft := 26) zk (hd 9 rfl)) (fun done vals w hdk hJ => hJ.other zq zq zq zq) ?_
 refine rj_vJ (fun done vals w hR hcl hdk hJ hdn hd => v_load zk (hd 10 rfl) (by first | exact (HPq.keep hR (by intro h; (try dsimp only at h); (try simp only [add_block] at h); first | omega)) 0 _ rfl | exact (HB2.keep hR dj4).pv 0 _ rfl | exact (HB1.keep hR dj4).pv 0 _ rfl | assumption)) (fun done vals w hdk hJ => hJ.other zq zq zq zq) ?_
 replace HSk := HSk.ext e102
 refine rj_d (fun done vals w hR hcl hdk hJ hdn hd => to_f1 zk (hd 11 rfl) (CallsR.mono (Clone_c (HSk.keep hR dj1) zo) fun v w1 h => ⟨Ext.keep h.2, hJ.clone hdk (h.1.base (by have := hR.size; omega)) h.2 zq zq zq⟩)) ?_
 refine rj_d (fun done vals w hR hcl hdk hJ hdn hd => to_slice1 (t := tU8) (et := 5) (bytes := 1) zk zq rfl (rep_u8 (F := NoK) 0 rfl) (fun b w1 hb HO e z => ⟨Ext.keep e, hJ.src hdk HO.view.allB e zq zq zq⟩)) ?_
 replace E := E.trans e102.keep
 replace HSm := HSm.ext e102
 replace HS1 := HS1.ext e102
 replace HS2 := HS2.ext e102
 replace HSp := HSp.ext e102
 refine rj_d (fun done vals w hR hcl hdk hJ hdn hd => by
   obtain ⟨h1, h2, h3⟩ := hJ.at hdk (hdn 12 rfl) (hdn 13 rfl)
   exact to_append (et := 5) (bytes := 1) zk (show _ = vals 12 from rfl) h1 (show _ = vals 13 from rfl) h2 flat_u8.to (by first | omega | (simp; omega)) (by simp only [maxLen]; first | omega | (simp; omega)) h3 (fun a9 n9 c9 w1 o hn kk ho _ => ⟨kk.mono (fun b _ hb => (h1.own_lt hb).1), hJ.app hdk (hdn 12 rfl) (hdn 13 rfl) o kk.size zq zq zq⟩)) ?_
 refine rj_d (fun done vals w hR hcl hdk hJ hdn hd => by
   obtain ⟨a9, c9, hva⟩ := (hJ.own (hdn 14 rfl)).shape
   exact OpTo.of_v (v_build (pl := [(0, 1), (1, 1), (2, 1)]) (z := .agg #[.int .i64 0, .slice none 0 0, .slice none 0 0]) (zl := [.int .i64 0, .slice none 0 0, .slice none 0 0]) zk (by unfold kZero; kernel_rfl) rfl (parts2 (hd 4 rfl) ((show _ = vals 14 from rfl).trans hva)) (cells := [_, _, _]) rfl) ⟨Keep.refl _, hJ.bld (hdn 14 rfl) (by rw [hva]) zq zq zq⟩) ?_
 refine rj_vJ (fun done vals w hR hcl hdk hJ hdn hd => v_assign (t := .slice _ _ _) (hd 0 rfl)) (fun done vals w hdk hJ => hJ.other zq zq zq zq) ?_
 refine rj_nil (fun vals w103 k103 J103 => ?_)
 rintro _ - rfl _ - rfl _ - rfl _ - rfl _ - rfl _ - rfl _ - rfl _ - rfl _ - rfl _ - rfl _ - rfl _ - rfl v37 qv12 - _ - - v39 qv14 - v40 qv15 - _ - rfl
 have := k103.size
 obtain ⟨HO39, hvb103⟩ := J103.fin
 try dsimp only at hvb103
 rw [← qv15, ← qv14] at hvb103
 rw [← qv14] at HO39
 clear qv14 qv15 qv12
 obtain ⟨a39, c39, rfl⟩ := HO39.shape
 obtain rfl := hvb103
 have zo_HO39 := fun (b : Nat) h => HO39.own_lt (b := b) h
 refine fin_nilJ (n_then (r_one zd rfl ?_))
 replace HB2 := HB2.keep k103 dj4
 refine l_to (to_storeA (n := 3) rfl rfl (zvA rfl) zk rfl dj6 HB2 dj5 ?_)
 rintro w104 HX104 k104 z104
 have := k104.size
 replace HB2 := HX104
 clear HX104
 try simp only [zS, Nat.zero_add, Nat.reduceAdd, List.drop_nil] at HB2
 refine l_nil (n_then (c_ret (ret2tc (n := 3) rfl zq zq rfl zk HB2.pv rfl (zvS rfl) ?_)))
 replace E := (E.step k103 dj3).step k104 dj3
 replace HSm := (HSm.keep k103 dj1).keep k104 dj1
 replace HS1 := (HS1.keep k103 dj1).keep k104 dj1
 replace HS2 := (HS2.keep k103 dj1).keep k104 dj1
 replace HB1 := (HB1.keep k103 dj4).keep k104 dj4
 replace HSp := (HSp.keep k103 dj1).keep k104 dj1
 replace HPq := (HPq.keep k103 (by intro h; (try dsimp only at h); (try simp only [add_block] at h); first | omega)).keep k104 (by intro h; (try dsimp only at h); (try simp only [add_block] at h); first | omega)
 replace HSk := (HSk.keep k103 dj1).keep k104 dj1
 replace HO39 := HO39.keep k104 (by intro i ho he; have he0 := he; have ho0 := ho; (try dsimp only [NoK] at he); (try simp only [Value.ownBlock, Option.some.injEq, reduceCtorEq] at ho); (try simp only [Value.ownBlock, Option.some.injEq, reduceCtorEq] at he); first | exact he.elim | exact ho.elim | omega | (have := zo_HO39 _ ho0; omega)) (by intro i _ hi _ he; have he0 := he; have hi := hi; have he := he; (try dsimp only [NoK, AllB] at hi he); (try simp only [Value.ownBlock, Option.some.injEq, reduceCtorEq] at he); all_goals first | exact hi.elim | exact hi.1.elim | exact he.elim | omega | (rcases hi with hi | hi <;> omega) | (rcases he with he | he <;> omega))
 have hd : doM m (5, key, to, val, was, no, (k : Int)) = (m, (0, (partM m key to).take k, p.1 ++ [0])) := by
  simp only [doM]; rw [if_neg zo, if_neg zo, if_neg zo, if_neg zo, if_neg zo, show ((k : Nat) : Int).toNat = k by omega, hx]
 refine ⟨_, _, rfl, ?_, ?_, E⟩
 ·
  rw [hd]; exact SlV.fx HSm _
 rw [hd]
 have h1 := HSp.pre (h := k) zo
 exact AgV.mkAn' (a := (0, (partM m key to).take k, p.1 ++ [0])) (by rw [show ((0 : Int), (partM m key to).take k, p.1 ++ [(0 : UInt8)]).2.1 = (partM m key to).take k from rfl]; exact SlV.fx h1 _) (HO39.view.mono fun b _ h => h.elim (fun h => .inr zo) (fun h => h.elim)) ⟨by simp, by simp⟩
end
end Go.Proofs.Ytifnkmflmgnfjaa

namespace Go.Proofs.Ytifnkmflmgnfjaa
open Go.Vc
set_option linter.unusedVariables false
set_option linter.unusedSimpArgs false
set_option maxRecDepth 100000

def askI (k : Int) : Nat := if k = 1 then 82 else if k = 2 then 83 else if k = 3 then 85 else if k = 4 then 87 else 88
def askC (k : Int) (bt : Nat) : Array Value := if k = 2 ∨ k = 5 then #[] else #[.pointer (some ⟨bt, 0, none⟩)]
def askF (k : Int) (bt : Nat) : Value := .func (.func (askI k)) #[] (askC k bt)
def asksL (bt : Nat) : List (Int × Value) := [(1, askF 1 bt), (2, askF 2 bt), (3, askF 3 bt), (4, askF 4 bt), (5, askF 5 bt)]
def AskMp (n : Nat) (W : World) (v : Value) : Prop := ∃ bm bt, v = .map (some bm) ∧ MpB kInt W bm (asksL bt) ∧ Blk W bt [.func (.func 81) #[] #[]] 108 ∧ n ≤ bt
theorem AskMp.ext {n : Nat} {W W' : World} {v : Value} (h : AskMp n W v) (e : Ext W W') : AskMp n W' v := by
  obtain ⟨bm, bt, h1, h2, h3, h4⟩ := h
  exact ⟨bm, bt, h1, h2.ext e, h3.ext e, h4⟩
theorem asks_c' {w : World} : CallsR Try.prog 62 #[] w (fun o w' => AskMp w.heap.size w' o ∧ Ext w w') := by
 refine enter 7 Try.func62 rfl rfl (by simp) ?_
 refine c_seq ?_
 have E := Keep.refl (K := NoK) w
 refine wp_reg zd (l_v (v_assign rfl) (l_nil (n_then (c_seq (wp_reg zd (l_to (to_alloc (z := .nilFunc) (by unfold kZero; kernel_rfl) ?_)))))))
 rintro bt w1 zb1 HB1 e1 z1
 have := e1.size
 try simp only [Value.cells] at HB1
 refine l_to (to_store rfl rfl rfl rfl zk HB1 dj5 ?_)
 rintro w101 HX101 k101 z101
 have := k101.size
 replace HB1 := HX101
 clear HX101
 try simp only [zS, Nat.zero_add, Nat.reduceAdd, List.drop_nil] at HB1
 refine l_nil (n_then (c_seq (wp_reg zd (l_to (to_makeMap kInt ?_)))))
 rintro bm w2 zm HM2 e2 z2
 have := e2.size
 refine l_v (v_makeFunc (by simp [ev]; rfl) (by simp [ev]; rfl)) ?_
 refine l_to (to_insert (el := 117) (k := 1) kInt ⟨25, by kernel_rfl, by kernel_rfl⟩ rfl (zvI rfl) rfl rfl HM2 ?_)
 rintro w3 HM2 k3 z3
 have := k3.size
 refine l_to (to_insert (el := 117) (k := 2) kInt ⟨25, by kernel_rfl, by kernel_rfl⟩ rfl (zvI rfl) rfl rfl HM2 ?_)
 rintro w4 HM2 k4 z4
 have := k4.size
 refine l_v (v_makeFunc (by simp [ev]; rfl) (by simp [ev]; rfl)) ?_
 refine l_to (to_insert (el := 117) (k := 3) kInt ⟨25, by kernel_rfl, by kernel_rfl⟩ rfl (zvI rfl) rfl rfl HM2 ?_)
 rintro w5 HM2 k5 z5
 have := k5.size
 refine l_v (v_makeFunc (by simp [ev]; rfl) (by simp [ev]; rfl)) ?_
 refine l_to (to_insert (el := 117) (k := 4) kInt ⟨25, by kernel_rfl, by kernel_rfl⟩ rfl (zvI rfl) rfl rfl HM2 ?_)
 rintro w6 HM2 k6 z6
 have := k6.size
 refine l_to (to_insert (el := 117) (k := 5) kInt ⟨25, by kernel_rfl, by kernel_rfl⟩ rfl (zvI rfl) rfl rfl HM2 ?_)
 rintro w7 HM2 k7 z7
 have := k7.size
 refine l_v (v_move (t := .map _) rfl) (l_v (v_assign (t := .map _) rfl) (l_nil (n_then (c_ret (ret1v rfl zq (show _ = (Value.map _) from rfl) ?_)))))
 replace E := (((((((E.trans e1.keep).step k101 dj3).trans e2.keep).step k3 dj3).step k4 dj3).step k5 dj3).step k6 dj3).step k7 dj3
 replace HB1 := (((((HB1.ext e2).keep k3 dj4).keep k4 dj4).keep k5 dj4).keep k6 dj4).keep k7 dj4
 exact ⟨⟨bm, bt, rfl, HM2, HB1, by omega⟩, E⟩
theorem mayAk_kind {a : AkV} (h : mayAk a = true) : a.1 = 1 ∨ a.1 = 2 ∨ a.1 = 3 ∨ a.1 = 4 ∨ a.1 = 5 := by
  obtain ⟨k, key, to, val, was, no, most⟩ := a
  simp only [mayAk] at h
  simp only
  by_cases h1 : k = 1 ∨ k = 3
  · omega
  · rw [if_neg h1] at h
    by_cases h2 : k = 2
    · omega
    · rw [if_neg h2] at h
      by_cases h4 : k = 4
      · omega
      · rw [if_neg h4] at h
        by_cases h5 : k = 5
        · omega
        · rw [if_neg h5] at h; cases h
theorem asks_get {a : AkV} (h : mayAk a = true) (bt : Nat) (z : Value) : (mpGet (asksL bt) a.1).getD z = askF a.1 bt := by
  rcases mayAk_kind h with h | h | h | h | h <;> rw [h] <;> rfl
theorem mayAk_most {key to val was : List UInt8} {no : Bool} {most : Int} (h : mayAk (5, key, to, val, was, no, most) = true) : 1 ≤ most ∧ most ≤ 32 := by
  simp only [mayAk] at h
  rw [if_neg zq, if_neg zq, if_neg zq] at h
  simp only [if_true] at h
  simp only [Bool.and_eq_true, decide_eq_true_eq] at h
  exact ⟨h.1.1.1.1.2, h.1.1.1.2⟩
theorem asked_c {w : World} {F : Nat → Prop} {vm va : Value} {m : MapV} {a : AkV} {bt : Nat} (HSm : SlV tPr w F vm m) (HG1 : AgV tAk w F va a) (HBt : Blk w bt [.func (.func 81) #[] #[]] 108) (hm : mayMp m = true) (hn : m.length ≤ 900000) (ha : mayAk a = true) :
    kBody Try.prog (askI a.1) = true ∧ CallsR Try.prog (askI a.1) (#[vm, va, .int .i64 (posM m a.2.1), .bool (hasM m a.2.1)] ++ askC a.1 bt) w (AskR w F m a) := by
  have hk := mayAk_kind ha
  obtain ⟨k, key, to, val, was, no, most⟩ := a
  simp only at hk ⊢
  rcases hk with rfl | rfl | rfl | rfl | rfl
  · exact ⟨by kernel_rfl, ask1_d HSm HG1 HBt⟩
  · exact ⟨by kernel_rfl, ask2_d HSm HG1 hm hn⟩
  · exact ⟨by kernel_rfl, ask3_d HSm HG1 HBt hn⟩
  · exact ⟨by kernel_rfl, ask4_d HSm HG1 HBt hm hn⟩
  · exact ⟨by kernel_rfl, ask5_d HSm HG1 hm hn (mayAk_most ha).1⟩
theorem do_c {w : World} {F : Nat → Prop} {vm va : Value} {m : MapV} {a : AkV} (HSm : SlV tPr w F vm m) (HG1 : AgV tAk w F va a) (hm : mayMp m = true) (hn : m.length ≤ 900000) (ha : mayAk a = true) :
    CallsR Try.prog 41 #[vm, va] w (AskR w F m a) := by
 obtain ⟨n0, hn0⟩ : ∃ n, n = w.heap.size := ⟨_, rfl⟩
 obtain ⟨a1, c1, a2, c2, a3, c3, a4, c4, rfl, HS1, HS2, HS3, HS4, hi1, hi2⟩ := HG1.ak
 replace HSm := HSm.mono (F' := fun b => F b ∧ b < n0) fun b hb h => ⟨h, by omega⟩
 replace HG1 := HG1.mono (F' := fun b => F b ∧ b < n0) fun b hb h => ⟨h, by omega⟩
 obtain ⟨am, cm, rfl⟩ := HSm.shape
 refine enter 26 Try.func41 rfl rfl (by simp) ?_
 refine c_seq ?_
 have E := Keep.refl (K := NoK) w
 replace HS1 := HS1.all
 refine wp_reg zd (l_to (to_box (zvA rfl) ?_))
 rintro b1 w1 zb1 HB1 e1 z1
 have := e1.size
 try simp only [Value.cells] at HB1
 refine l_v (v_assign rfl) (l_to (to_alloc (z := (.agg #[.int .i64 0, .slice none 0 0, .slice none 0 0])) (by unfold kZero; kernel_rfl) ?_))
 rintro b2 w2 zb2 HB2 e2 z2
 have := e2.size
 try simp only [Value.cells] at HB2
 replace HB1 := HB1.ext e2
 refine l_nil (n_then (c_seq (wp_reg zd (l_v (zmS rfl) (l_v (v_fieldAddr (off := 1) (ft := 26) zk rfl) (l_v (v_load zk rfl (by first | exact HB2.pv 1 _ rfl | exact HB1.pv 1 _ rfl | assumption)) ?_))))))
 replace HS1 := (HS1.ext e1).ext e2
 replace HSm := (HSm.ext e1).ext e2
 refine l_to (to_f2 zk (zvS rfl) (zvS rfl) (CallsR.mono (find_c HSm HS1 hm zo) ?_))
 rintro _ w101 ⟨rfl, e101⟩
 have := e101.size
 obtain ⟨n6, hn6⟩ : ∃ n, n = w101.heap.size := ⟨_, rfl⟩
 refine l_v (zmT rfl) (l_v (v_extract (t := .int _ _) rfl rfl) (l_v (v_extract (t := .bool _) rfl rfl) (l_v (zaI rfl) (l_v (zaB rfl) (l_nil (n_then (c_seq (wp_any zk ?_))))))))
 have e102 : Ext w101 { w101 with drawn := w101.drawn + 1 } := Keep.drawn _ _
 generalize hw102 : ({ w101 with drawn := w101.drawn + 1 } : World) = w102 at e102 ⊢
 clear hw102
 have := e102.size
 refine r_cut 8 rfl zd zd zd ?_
 refine wp_regdW (NoK) zd zd ?_
 refine rt_to (fun v W => AskMp n6 W v) (fun v w w' h k => h.ext k) (fun vals w hR hd => to_f0 zk (CallsR.mono asks_c' fun v w1 h => ⟨h.2, by obtain ⟨bm, bt, h1, h2, h3, h4⟩ := h.1; exact ⟨bm, bt, h1, h2, h3, by have := hR.size; omega⟩⟩)) ?_
 refine rt_v (fun vals w hR hd => v_fieldAddr (off := 0) (ft := 25) zk rfl) ?_
 replace HB1 := (HB1.ext e101).ext e102
 replace HB2 := (HB2.ext e101).ext e102
 refine rt_v (fun vals w hR hd => v_load zk (hd 1 rfl) (by first | exact (HB2.ext hR).pv 0 _ rfl | exact (HB1.ext hR).pv 0 _ rfl | assumption)) ?_
 refine rt_to (fun v W => ∃ bt, v = askF a.1 bt ∧ n6 ≤ bt ∧ Blk W bt [.func (.func 81) #[] #[]] 108) (fun v w w' h k => by obtain ⟨bt, h1, h2, h3⟩ := h; exact ⟨bt, h1, h2, h3.ext k⟩) (fun vals w hR hd => (by obtain ⟨bm, bt, h1, h2, h3, h4⟩ := (show AskMp n6 _ (vals 0) from hd 0 rfl); exact OpTo.of_v (v_lookupE (el := 117) (k := a.1) (z := .nilFunc) kInt ⟨25, by kernel_rfl, by kernel_rfl⟩ (by unfold kZero; kernel_rfl) ((show _ = vals 0 from rfl).trans h1) (hd 2 rfl) rfl h2 (asks_get ha bt _)) ⟨Keep.refl _, bt, rfl, h4, h3⟩)) ?_
 refine rt_v (fun vals w hR hd => zmS rfl) ?_
 refine rt_v (fun vals w hR hd => v_loadA zk rfl (by first | exact (HB2.ext hR).pv | exact (HB1.ext hR).pv | assumption) rfl) ?_
 refine rt_v (fun vals w hR hd => zmI rfl) ?_
 refine rt_v (fun vals w hR hd => zmB rfl) ?_
 refine rt_nil (fun w20 e20 => ?_)
 rintro v15 hv15 _ rfl _ rfl v18 hv18 _ rfl _ rfl _ rfl _ rfl
 have := e20.size
 obtain ⟨bt, rfl, hbt, HBt⟩ := hv18
 refine fin_nil (n_then (r_cut 1 rfl zd zd zd ?_))
 refine r_one zd rfl ?_
 replace HG1 := ((((HG1.ext e1).ext e2).ext e101).ext e102).ext e20
 replace HSm := ((HSm.ext e101).ext e102).ext e20
 obtain ⟨hb, hc⟩ := asked_c HSm HG1 HBt hm hn ha
 refine l_to (to_call4 hb rfl (zvS rfl) (zvA rfl) (zvI rfl) (zvB rfl) (CallsR.mono (hc) ?_))
 rintro _ w9 ⟨u, x, rfl, HSu, HGx, e9⟩
 have := e9.size
 replace HSu := HSu.mono (F' := fun b => (F b ∧ b < n0) ∨ n6 ≤ b) (fun b _ h => h.imp (fun h => h) (fun h => by omega))
 replace HGx := HGx.mono (F' := fun b => (F b ∧ b < n0) ∨ n6 ≤ b) (fun b _ h => h.imp (fun h => h) (fun h => by omega))
 obtain ⟨d5, d6, rfl⟩ := HSu.shape
 obtain ⟨d1, d2, d3, d4, rfl, _⟩ := HGx.an
 refine l_nil (n_then (r_cut 3 rfl zd zd zd ?_))
 refine wp_regdW (NoK) zd zd ?_
 refine rt_v (fun vals w hR hd => v_extract (t := .slice _ _ _) rfl rfl) ?_
 refine rt_v (fun vals w hR hd => v_extract (t := .agg _) rfl rfl) ?_
 refine rt_v (fun vals w hR hd => v_assign (t := .slice _ _ _) (hd 0 rfl)) ?_
 refine rt_nil (fun w103 e103 => ?_)
 rintro _ rfl _ rfl _ rfl
 have := e103.size
 refine fin_nil (n_then (r_one zd rfl ?_))
 replace HB2 := ((HB2.ext e20).ext e9).ext e103
 refine l_to (to_storeA (n := 3) rfl rfl (zvA rfl) zk rfl dj6 HB2 dj5 ?_)
 rintro w104 HX104 k104 z104
 have := k104.size
 replace HB2 := HX104
 clear HX104
 try simp only [zS, Nat.zero_add, Nat.reduceAdd, List.drop_nil] at HB2
 refine l_nil (n_then (c_ret (ret2tc (n := 3) rfl zq zq rfl zk HB2.pv rfl (zvS rfl) ?_)))
 replace E := (((((((E.trans e1.keep).trans e2.keep).trans e101.keep).trans e102.keep).trans e20.keep).trans e9.keep).trans e103.keep).step k104 dj3
 replace HSu := (HSu.ext e103).keep k104 dj1
 replace HGx := (HGx.ext e103).keep k104 dj1
 exact ⟨_, _, rfl, HSu.mono fun b _ h => h.imp (fun h => h.1) (fun h => by omega), HGx.mono fun b _ h => h.imp (fun h => h.1) (fun h => by omega), E⟩
end Go.Proofs.Ytifnkmflmgnfjaa
