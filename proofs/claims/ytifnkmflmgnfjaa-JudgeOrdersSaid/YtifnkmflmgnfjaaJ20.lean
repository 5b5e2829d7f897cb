/- A part of the proof: steps and lemmas for the walks through the given program. -/
import Derived.Test.YtifnkmflmgnfjaaJ19
import Derived.Test.YtifnkmflmgnfjaaJv
namespace Go.Proofs.Ytifnkmflmgnfjaa
open Go.Vc
set_option linter.unusedVariables false
set_option linter.unusedSimpArgs false
set_option maxRecDepth 100000

def okJ (i : Nat) (x : JdV) : Prop := mayAk x.1.2.2 = true ∧ 0 ≤ x.2.1 ∧ x.2.1 < (i : Int) ∧ (x.2.2.1 = -1 ∨ x.2.1 < x.2.2.1) ∧ mayAn x.2.2.2 = true ∧ 1 ≤ x.1.1 ∧ x.1.1 ≤ 4
theorem okJ_up {i k : Nat} {x : JdV} (h : okJ i x) (hk : i ≤ k) : okJ k x := ⟨h.1, h.2.1, by have := h.2.2.1; omega, h.2.2.2⟩
theorem ev_ok {out o : List JdV} {i : Nat} {e : EvV} (h : ∀ x ∈ out, okJ i x) (he : evStep out i e = some o) : ∀ x ∈ o, okJ (i + 1) x := by
  have hA : whoE e = true → askB e = true → okJ (i + 1) (newJ e i) := fun hw ha => by
    simp only [whoE, askB, Bool.and_eq_true, decide_eq_true_eq] at hw ha
    exact ⟨ha.1.2, by simp [newJ], by simp only [newJ]; omega, .inl rfl, by simp only [newJ]; decide, hw.1.1, hw.1.2⟩
  have hB : ∀ x ∈ out ++ [newJ e i], whoE e = true → askB e = true → okJ (i + 1) x := fun x hx hw ha => by
    rcases List.mem_append.1 hx with hx | hx
    · exact okJ_up (h x hx) zo
    · rw [List.mem_singleton] at hx
      subst hx
      exact hA hw ha
  cases hl : lastJ out e.2.1 with
  | none =>
    rw [ev_none hl] at he
    split at he
    · rename_i h1
      cases he
      rw [Bool.and_eq_true] at h1
      exact fun x hx => hB x hx h1.1 h1.2
    · cases he
  | some n =>
    obtain ⟨x0, hx0, _⟩ := lastJ_get hl
    rw [ev_some hl hx0] at he
    split at he
    · rename_i h1
      cases he
      simp only [Bool.and_eq_true] at h1
      exact fun x hx => hB x hx h1.1.1 h1.1.2
    · split at he
      · rename_i h1 h2
        cases he
        simp only [Bool.and_eq_true, ansB] at h2
        intro x hx
        rcases List.mem_or_eq_of_mem_set hx with hx | hx
        · exact okJ_up (h x hx) zo
        · subst hx
          have := h x0 (List.mem_of_getElem? hx0)
          exact ⟨this.1, this.2.1, by have := this.2.2.1; simp only []; omega, .inr (by have := this.2.2.1; simp only []; omega), h2.1.1.2.1.2, this.2.2.2.2.2⟩
      · cases he
theorem rdE_ok : ∀ (l : List EvV) (i : Nat) (out : List JdV), (∀ x ∈ out, okJ i x) → ∀ x ∈ (rdE l i out).1, okJ (i + l.length) x
  | [], i, out, h => h
  | e :: l, i, out, h => by
    rw [rdE]
    cases he : evStep out i e with
    | none => exact fun x hx => okJ_up (h x hx) zo
    | some o =>
      have := rdE_ok l (i + 1) o (ev_ok h he)
      simp only [List.length_cons]
      rw [show i + (l.length + 1) = i + 1 + l.length by omega]
      exact this
theorem bitN_rep : ∀ (n : Nat), bitN (List.replicate n false) = 0
  | 0 => rfl
  | n + 1 => by rw [List.replicate_succ, bitN, bitN_rep n]; rfl
theorem unD_rep (n : Nat) : unD (List.replicate n false) = n := by unfold unD; rw [List.count_replicate_self]
def RunR (l : List EvV) (o : Value) (W : World) : Prop := ∃ oa oc ma mc, o = .agg #[.int .i64 (jdg l).1, .int .i64 (jdg l).2.1, .slice oa (jdg l).2.2.1.length oc, .slice ma (jdg l).2.2.2.length mc] ∧ SlV (tInt .i64) W AllB (.slice oa (jdg l).2.2.1.length oc) (intsN (jdg l).2.2.1) ∧ SlV tPr W AllB (.slice ma (jdg l).2.2.2.length mc) (jdg l).2.2.2
def cntO (r : List JdV) (k : Nat) : Nat := ((r.take k).filter opnJ).length
theorem cntO_succ {r : List JdV} {k : Nat} {x : JdV} (hx : r[k]? = some x) : cntO r (k + 1) = cntO r k + (if opnJ x then 1 else 0) := by
  unfold cntO
  rw [List.take_add_one, hx, List.filter_append, List.length_append]
  simp only [Option.toList_some, List.filter_cons, List.filter_nil]
  split <;> simp
theorem seek_may {r : List JdV} (hak : ∀ x ∈ r, mayAk x.1.2.2 = true) : ∀ (n : Nat) {d : List Bool} {m : MapV} {y : List Nat × MapV}, mayMp m = true → seek r n d m = some y → mayMp y.2 = true ∧ y.2.length ≤ m.length + n
  | n, d, m, y, hm, h => by
    cases n with
    | zero =>
      rw [seek] at h
      split at h
      · cases h; exact ⟨hm, Nat.le_refl _⟩
      · cases h
    | succ n =>
      rw [seek] at h
      split at h
      · cases h; exact ⟨hm, Nat.le_add_right _ _⟩
      · obtain ⟨i, _, hi⟩ := List.exists_of_findSome?_eq_some h
        split at hi
        · cases hi
        · rename_i x hx
          split at hi
          · rw [Option.map_eq_some_iff] at hi
            obtain ⟨q, hq, rfl⟩ := hi
            have hax := hak x (List.mem_of_getElem? hx)
            have h1 := seek_may hak n (doM_may hm hax) hq
            have h2 := doM_len (m := m) hax
            exact ⟨h1.1, by have := h1.2; simp only []; omega⟩
          · cases hi
theorem rdE_len : ∀ (l : List EvV) (i : Nat) (out : List JdV), (rdE l i out).1.length ≤ out.length + l.length
  | [], i, out => Nat.le_refl _
  | e :: l, i, out => by
    rw [rdE]
    cases he : evStep out i e with
    | none => simp only [List.length_cons]; omega
    | some o =>
      have h1 := rdE_len l (i + 1) o
      have h2 : o.length ≤ out.length + 1 := by
        cases hl : lastJ out e.2.1 with
        | none =>
          rw [ev_none hl] at he
          split at he
          · cases he; simp
          · cases he
        | some n =>
          obtain ⟨x0, hx0, _⟩ := lastJ_get hl
          rw [ev_some hl hx0] at he
          split at he
          · cases he; simp
          · split at he
            · cases he; simp
            · cases he
      simp only [List.length_cons]; omega
theorem cntO_le (r : List JdV) (k : Nat) : cntO r k ≤ r.length := by
  have h1 := List.length_filter_le opnJ (r.take k)
  have h2 : (r.take k).length ≤ r.length := by rw [List.length_take]; omega
  unfold cntO; omega
theorem run_c {w : World} {F : Nat → Prop} {v : Value} {l : List EvV} (HSl : SlV tEv w F v l) (hn : l.length ≤ 100000) : CallsR Try.prog 49 #[v] w (fun o w' => RunR l o w' ∧ Ext w w') := by
 obtain ⟨al, cl, rfl⟩ := HSl.shape
 have hmx := HSl.len_max
 obtain ⟨n0, hn0⟩ : ∃ n, n = w.heap.size := ⟨_, rfl⟩
 obtain ⟨r, hr0⟩ : ∃ r, r = (rdE l 0 []).1 := ⟨_, rfl⟩
 obtain ⟨k, hk0⟩ : ∃ k, k = (rdE l 0 []).2 := ⟨_, rfl⟩
 have hrl : r.length ≤ 100000 := by have := rdE_len l 0 []; rw [hr0]; simp only [List.length_nil] at this; omega
 have hcb := cntO_le r
 have hok := rdE_ok l 0 [] (fun x hx => by cases hx)
 rw [← hr0] at hok
 have hak : ∀ x ∈ r, mayAk x.1.2.2 = true := fun x hx => (hok x hx).1
 refine enterM 55 Try.func49 rfl rfl (by simp) ?_
 refine c_seq ?_
 have E := Keep.refl (K := NoK) w
 replace HSl := HSl.all
 refine wp_reg zd (l_to (to_alloc (z := (.agg #[.int .i64 0, .int .i64 0, .slice none 0 0, .slice none 0 0])) (by unfold kZero; kernel_rfl) ?_))
 rintro b2 w2 zb2 HB2 e2 z2
 have := e2.size
 try simp only [Value.cells] at HB2
 replace HSl := HSl.ext e2
 refine l_nil (n_then (c_seq (wp_reg zd (l_v (zmS rfl) (l_to (to_f1 zk (zvS rfl) (CallsR.mono (read_c HSl hn) ?_)))))))
 rintro _ w3 ⟨rv, rfl, HSr, e3⟩
 have := e3.size
 rw [← hr0] at HSr
 replace HSr := HSr.mono (F' := fun b => b ≠ b2 ∧ b < w3.heap.size) fun b hb h => ⟨fun he => by rcases h with h | h <;> omega, hb⟩
 obtain ⟨ar, cr, rfl⟩ := HSr.shape
 refine l_v (zmT rfl) (l_v (v_extract (t := .slice _ _ _) rfl rfl) (l_v (v_extract (t := .int _ _) rfl rfl) (l_to (to_alloc (z := (.slice none 0 0)) (by unfold kZero; kernel_rfl) ?_))))
 rintro b3 w4 zb3 HB3 e4 z4
 have := e4.size
 try simp only [Value.cells] at HB3
 refine l_to (to_store rfl rfl (zvS rfl) rfl zk HB3 dj5 ?_)
 rintro w101 HX101 k101 z101
 have := k101.size
 replace HB3 := HX101
 clear HX101
 try simp only [zS, Nat.zero_add, Nat.reduceAdd, List.drop_nil] at HB3
 refine l_v (zaI rfl) (l_nil (n_then (c_seq (c_seq (wp_reg zd (l_v (zmI rfl) (l_v (zmS rfl) (l_v (v_len (et := 44) zk rfl) ?_))))))))
 refine l_v (v_lss rfl rfl) ?_
 replace E := (((E.trans e2.keep).trans e3.keep).trans e4.keep).step k101 dj3
 replace HSl := ((HSl.ext e3).ext e4).keep k101 dj1
 replace HB2 := ((HB2.ext e3).ext e4).keep k101 dj4
 replace HSr := (HSr.ext e4).keep k101 dj1
 refine l_nil (n_then (c_cond rfl rfl (fun h22 => ?_) (fun h22 => ?_)))
 ·
  refine c_seq (wp_reg zd (l_v (zmI rfl) (l_v (v_build (pl := [(0, 1), (1, 1), (2, 1), (3, 1)]) (z := .agg #[.int .i64 0, .int .i64 0, .slice none 0 0, .slice none 0 0]) (zl := [.int .i64 0, .int .i64 0, .slice none 0 0, .slice none 0 0]) zk (by unfold kZero; kernel_rfl) rfl rfl (cells := [_, _, _, _]) rfl) ?_)))
  refine l_to (to_storeA (n := 4) rfl rfl (zvA rfl) zk rfl dj6 HB2 dj5 ?_)
  rintro w102 HX102 k102 z102
  have := k102.size
  replace HB2 := HX102
  clear HX102
  try simp only [zS, Nat.zero_add, Nat.reduceAdd, List.drop_nil] at HB2
  refine l_nil (n_then (c_ret (r_then (retM0c (n := 4) HB2 rfl zq rfl zk rfl ?_))))
  have hj : jdg l = ((k : Int), 2, [], []) := by rw [jdg, if_pos (by rw [← hk0]; have := dtrue h22; omega), hk0]
  replace E := E.step k102 dj3
  replace HSl := HSl.keep k102 dj1
  replace HSr := HSr.keep k102 dj1
  replace HB3 := HB3.keep k102 dj4
  refine ⟨⟨none, 0, none, 0, ?_, ?_, ?_⟩, E⟩
  ·
   rw [hj, ← hk0]; rfl
  ·
   rw [hj]; exact SlV.nil _ _ _
  rw [hj]; exact SlV.nil _ _ _
 have hkl : ¬ (rdE l 0 []).2 < l.length := by rw [← hk0]; have := dfalse h22; omega
 obtain ⟨n3, hn3⟩ : ∃ n, n = w3.heap.size := ⟨_, rfl⟩
 refine c_skip (n_then (c_seq (wp_reg zd (l_to (to_alloc (z := (.int .i64 0)) (by unfold kZero; kernel_rfl) ?_)))))
 rintro b5 w5 zb5 HB5 e5 z5
 have := e5.size
 try simp only [Value.cells] at HB5
 refine l_to (to_store rfl rfl (zvI rfl) rfl zk HB5 dj5 ?_)
 rintro w103 HX103 k103 z103
 have := k103.size
 replace HB5 := HX103
 clear HX103
 try simp only [zS, Nat.zero_add, Nat.reduceAdd, List.drop_nil] at HB5
 refine l_nil (n_then (c_seq (c_seq (wp_reg zd (l_v (zmS rfl) (l_to (to_f1 zk (zvS rfl) (CallsR.mono (Requests_c) ?_))))))))
 replace HSl := (HSl.ext e5).keep k103 dj1
 replace HSr := (HSr.ext e5).keep k103 dj1
 rintro _ w6 ⟨b6, hb6, rfl, HB6, e6⟩
 have := e6.size
 have zl6 := HB6.lt
 refine l_nil (n_then (c_block ?_))
 replace E := ((E.trans e5.keep).step k103 dj3).trans e6.keep
 replace HB2 := ((HB2.ext e5).keep k103 dj4).ext e6
 replace HB3 := ((HB3.ext e5).keep k103 dj4).ext e6
 replace HSl := HSl.ext e6
 replace HSr := HSr.ext e6
 replace HB5 := HB5.ext e6
 refine c_rangeT (N := 55) rfl (show _ = (Value.func _ _ _) from rfl) zk zq E (fun x : Nat × List Value => [.int .i64 (x.1 : Int), .agg x.2.toArray]) (fun _ => rfl) (yJ (w6.heap.size + 2) (fun i => (i < w.heap.size ∧ i < w6.heap.size) ∨ w6.heap.size + 2 ≤ i) (rdE l 0 []).1) (fun xs => xs.length = (rdE l 0 []).1.length) (fun _ => True) (fun i => i = b5) (fun i h => by have h := h; (try dsimp only at h); exact ⟨fun _ => by omega, by omega⟩) (Reqs_seq (K := fun i => i = b5 ∨ i = w6.heap.size ∨ i = w6.heap.size + 1) HSl HB6 hn (fun h => by have h := h; (try dsimp only at h); omega) (fun i hi hf h => by have h := h; (try dsimp only at h); omega) (fun i h => by have h := h; (try dsimp only at h); omega)) (fun pre W => Blk W b5 [.int .i64 (cntO r pre.length : Nat)] 3) (fun _ _ _ => False) (fun s A B t h => h.turn t) (fun _ _ _ _ _ h => h) (HB5) (fun pre x e1 W => ∃ b7 jd, Holds [(5, .pointer (some ⟨b5, 0, none⟩)), (7, .pointer (some ⟨b7, 0, none⟩))] e1 ∧ Blk W b7 x.2 86 ∧ w6.heap.size + 2 ≤ b7 ∧ x.1 = pre.length ∧ r[x.1]? = some jd ∧ tJd.rep W (fun i => i < w.heap.size ∨ w6.heap.size + 2 ≤ i) x.2 jd) (fun pre x e1 W W' t h => by obtain ⟨b7, jd, h1, h2, h3, h4, h5, h6⟩ := h; exact ⟨b7, jd, h1, h2.keep t.keep (fun hh => by have hh := hh; (try dsimp only at hh); omega), h3, h4, h5, tJd.keep h6 t.keep (fun i _ hi hh => by rcases hi with hi | hi <;> omega)⟩) ?_ ?_ ?_ ?_
 ·
  rintro l pre x w104 E EK hY HB5
  have := EK.size
  have := E.size
  obtain ⟨hz9, hx1, jd, hjd, hr⟩ := hY
  rw [← hr0] at hjd
  replace HSl := HSl.keep EK dj1
  replace HB2 := HB2.keep EK dj4
  replace HSr := HSr.keep EK dj1
  replace HB3 := HB3.keep EK dj4
  replace HB6 := HB6.keep EK dj4
  replace hr := tJd.mono hr (F' := fun i => i < w.heap.size ∨ w6.heap.size + 2 ≤ i) fun i _ h => h.imp (fun h => h.1) (fun h => h)
  have EL1 := Keep.refl (K := NoK) w104
  refine wp_reg zd (l_to (to_alloc (z := (.agg #[.int .i64 0, .int .i64 0, .int .i64 0, .slice none 0 0, .slice none 0 0, .slice none 0 0, .slice none 0 0, .bool false, .int .i64 0, .int .i64 0, .int .i64 0, .int .i64 0, .slice none 0 0, .slice none 0 0])) (by unfold kZero; kernel_rfl) ?_))
  rintro b7 w7 zb7 HB7 e7 z7
  have := e7.size
  try simp only [Value.cells] at HB7
  refine l_to (to_storeA (n := 14) rfl rfl (zvA rfl) zk (tJd.len hr) (tJd.one hr) HB7 dj5 ?_)
  rintro w8 HB8 k8 z8
  have := k8.size
  rw [show x.2.toArray.toList = x.2 from rfl, setAt_all (by rw [tJd.len hr]; rfl)] at HB8
  refine l_nil (n_then ?_)
  replace HSl := (HSl.ext e7).keep k8 dj1
  replace HB2 := (HB2.ext e7).keep k8 dj4
  replace HSr := (HSr.ext e7).keep k8 dj1
  replace HB3 := (HB3.ext e7).keep k8 dj4
  replace HB6 := (HB6.ext e7).keep k8 dj4
  replace E := (E.trans e7.keep).step k8 dj3
  replace HB5 := (HB5.ext e7).keep k8 dj4
  replace EL1 := (EL1.trans e7.keep).step k8 dj3
  exact ⟨_, rfl, EL1, HB5, b7, jd, ⟨rfl, rfl, trivial⟩, HB8, by omega, hx1, hjd, tJd.keep hr EL1 (fun _ _ _ h => h)⟩
 ·
  rintro l pre x e1 w105 E EK HB5 ⟨b7, jd, hh, HB7, hb7, hx1, hjd, hr⟩
  have := EK.size
  have := E.size
  replace HSl := HSl.keep EK dj1
  replace HSr := HSr.keep EK dj1
  obtain ⟨jj, rfl⟩ : ∃ j, e1 = updL _ j := ⟨_, hh.upd⟩
  have EL1 := Keep.refl (K := fun i => i = b5) w105
  refine c_block (c_seq (wp_reg zd (l_v (v_loadA (n := 14) zk rfl HB7.pv (tJd.len hr)) ?_)))
  refine l_to (to_f1 zk (zvA rfl) (CallsR.mono (open_c ⟨_, rfl, hr⟩) ?_))
  rintro _ w106 ⟨rfl, e106⟩
  have := e106.size
  replace HB2 := (HB2.keep EK dj4).ext e106
  replace HB3 := (HB3.keep EK dj4).ext e106
  replace HB6 := (HB6.keep EK dj4).ext e106
  replace HSl := HSl.ext e106
  replace HSr := HSr.ext e106
  replace E := E.trans e106.keep
  replace HB5 := HB5.ext e106
  replace HB7 := HB7.ext e106
  replace EL1 := EL1.trans e106.keep
  refine l_nil (n_then (c_cond rfl rfl (fun hp => ?_) (fun hp => ?_)))
  ·
   have hcb1 := hcb pre.length
   refine wp_reg zd (l_v (v_load zk rfl (by first | exact HB7.cell rfl | exact HB5.cell rfl | exact HB6.cell rfl | exact HB3.cell rfl | exact HB2.cell rfl | assumption)) ?_)
   refine l_v (v_add rfl rfl (by first | exact wr_i64 zo zo | rfl)) ?_
   refine l_to (to_store rfl rfl (zvI rfl) rfl zk HB5 dj5 ?_)
   rintro w107 HX107 k107 z107
   have := k107.size
   replace HB5 := HX107
   clear HX107
   try simp only [zS, Nat.zero_add, Nat.reduceAdd, List.drop_nil] at HB5
   replace EL1 := EL1.step k107 dj3
   refine l_nil (n_blk (⟨EL1, ?_⟩))
   show Blk _ b5 [.int .i64 (cntO r (pre ++ [x]).length : Nat)] 3
   rw [List.length_append, List.length_singleton, cntO_succ (by rw [← hx1]; exact hjd), hp]
   exact HB5
  refine c_skip (n_blk (⟨EL1, ?_⟩))
  show Blk _ b5 [.int .i64 (cntO r (pre ++ [x]).length : Nat)] 3
  rw [List.length_append, List.length_singleton, cntO_succ (by rw [← hx1]; exact hjd), hp]
  exact HB5
 ·
  rintro D xs w108 hD E EK hS HB5 HD
  have := EK.size
  have := E.size
  refine n_blk (n_then (c_seq (c_seq ?_)))
  have hxl : cntO r xs.length = (r.filter opnJ).length := by rw [hS, ← hr0, cntO, List.take_length]
  rw [hxl] at HB5
  have hDl : D < w108.heap.size := (Array.getElem?_eq_some_iff.1 HD).1
  replace HB2 := HB2.keep EK dj4
  replace HB3 := HB3.keep EK dj4
  replace HB6 := HB6.keep EK dj4
  refine wp_reg zd (l_v (v_load zk rfl (by first | exact HB5.cell rfl | exact HB6.cell rfl | exact HB3.cell rfl | exact HB2.cell rfl | assumption)) ?_)
  refine l_v (v_len (et := 86) zk rfl) ?_
  refine l_v (v_gtr rfl rfl) ?_
  refine l_v (zmB rfl) (l_g1 rfl rfl (fun hG => v_load zk rfl (by first | exact HB5.cell rfl | exact HB6.cell rfl | exact HB3.cell rfl | exact HB2.cell rfl | assumption)) ?_)
  refine l_g1 rfl rfl (fun hG => v_gtr (gd hG rfl) rfl) ?_
  refine l_v (v_or rfl rfl) ?_
  replace HSl := HSl.keep EK dj1
  replace HSr := HSr.keep EK dj1
  refine l_nil (n_then (c_cond rfl rfl (fun h39 => ?_) (fun h39 => ?_)))
  ·
   refine c_seq (wp_reg zd (l_v (v_build (pl := [(0, 1), (1, 1), (2, 1), (3, 1)]) (z := .agg #[.int .i64 0, .int .i64 0, .slice none 0 0, .slice none 0 0]) (zl := [.int .i64 0, .int .i64 0, .slice none 0 0, .slice none 0 0]) zk (by unfold kZero; kernel_rfl) rfl rfl (cells := [_, _, _, _]) rfl) ?_))
   refine l_to (to_storeA (n := 4) rfl rfl (zvA rfl) zk rfl dj6 HB2 dj5 ?_)
   rintro w109 HX109 k109 z109
   have := k109.size
   replace HSl := HSl.keep k109 dj1
   replace HSr := HSr.keep k109 dj1
   replace HB3 := HB3.keep k109 dj4
   replace HB6 := HB6.keep k109 dj4
   replace E := E.step k109 dj3
   replace HB5 := HB5.keep k109 dj4
   replace HD := defB_keep HD k109 (by intro h; have he0 := h; have he := h; have h := h; (try dsimp only at h); first | omega)
   replace HB2 := HX109
   clear HX109
   try simp only [zS, Nat.zero_add, Nat.reduceAdd, List.drop_nil] at HB2
   refine l_nil (n_then (c_ret (r_then (retM1c (n := 4) HB2 HD rfl zq rfl zk rfl ?_))))
   have E := keep_put E (by omega : w.heap.size ≤ D) (.deferred none)
   have hj : jdg l = (0, 3, [], []) := by rw [jdg, if_neg hkl, if_pos (by rw [← hr0]; simp at h39; omega)]
   refine ⟨⟨none, 0, none, 0, ?_, ?_, ?_⟩, E⟩
   ·
    rw [hj]; rfl
   ·
    rw [hj]; exact SlV.nil _ _ _
   rw [hj]; exact SlV.nil _ _ _
  have hr32 : r.length ≤ 32 ∧ (r.filter opnJ).length ≤ 6 := by simp at h39; omega
  have hj9 : seek r r.length (List.replicate r.length false) [] = none → jdg l = (0, 9, [], []) := fun h => by rw [jdg, if_neg hkl, if_neg (by rw [← hr0]; omega), ← hr0, h]
  have hj0 : ∀ os m, seek r r.length (List.replicate r.length false) [] = some (os, m) → jdg l = (0, 0, os, m) := fun os m h => by rw [jdg, if_neg hkl, if_neg (by rw [← hr0]; omega), ← hr0, h]
  have hsu : seekU r (List.replicate r.length false) [] = seek r r.length (List.replicate r.length false) [] := by rw [seekU, unD_rep]
  refine c_skip (n_then (c_seq (wp_reg zd (l_to (to_makeMap kStr ?_)))))
  rintro bm w11 zm HM11 e11 z11
  have := e11.size
  replace HB2 := HB2.ext e11
  replace HSr := HSr.ext e11
  replace HB3 := HB3.ext e11
  replace E := E.trans e11.keep
  replace HD := defB_keep HD e11 (fun h => h)
  refine l_to (to_alloc (z := (.map none)) (by unfold kZero; kernel_rfl) ?_)
  rintro b8 w12 zb8 HB8 e12 z12
  have := e12.size
  replace HB2 := HB2.ext e12
  replace HSr := HSr.ext e12
  replace HB3 := HB3.ext e12
  replace E := E.trans e12.keep
  replace HD := defB_keep HD e12 (fun h => h)
  try simp only [Value.cells] at HB8
  refine l_to (to_store rfl rfl rfl rfl zk HB8 dj5 ?_)
  rintro w110 HX110 k110 z110
  have := k110.size
  replace HB2 := HB2.keep k110 dj4
  replace HSr := HSr.keep k110 dj1
  replace HB3 := HB3.keep k110 dj4
  replace E := E.step k110 dj3
  replace HD := defB_keep HD k110 (by intro h; have he0 := h; have he := h; have h := h; (try dsimp only at h); first | omega)
  replace HB8 := HX110
  clear HX110
  try simp only [zS, Nat.zero_add, Nat.reduceAdd, List.drop_nil] at HB8
  refine l_nil (n_then (c_seq (wp_reg zd (l_to (to_alloc (z := (.int .u64 0)) (by unfold kZero; kernel_rfl) ?_)))))
  rintro b9 w13 zb9 HB9 e13 z13
  have := e13.size
  replace HM11 := (HM11.ext e12).keep k110 dj4
  replace HB2 := HB2.ext e13
  replace HSr := HSr.ext e13
  replace HB3 := HB3.ext e13
  replace E := E.trans e13.keep
  replace HD := defB_keep HD e13 (fun h => h)
  try simp only [Value.cells] at HB9
  refine l_nil (n_then (c_seq (wp_reg zd (l_to (to_alloc (z := (.slice none 0 0)) (by unfold kZero; kernel_rfl) ?_)))))
  rintro b10 w14 zb10 HB10 e14 z14
  have := e14.size
  replace HB2 := HB2.ext e14
  replace HSr := HSr.ext e14
  replace HB3 := HB3.ext e14
  replace E := E.trans e14.keep
  replace HD := defB_keep HD e14 (fun h => h)
  try simp only [Value.cells] at HB10
  refine l_nil (n_then (c_seq (wp_reg zd (l_to (to_alloc (z := .nilFunc) (by unfold kZero; kernel_rfl) ?_)))))
  rintro b11 w15 zb11 HB11 e15 z15
  have := e15.size
  replace HB2 := HB2.ext e15
  replace HSr := HSr.ext e15
  replace HB3 := HB3.ext e15
  replace E := E.trans e15.keep
  replace HD := defB_keep HD e15 (fun h => h)
  try simp only [Value.cells] at HB11
  refine l_nil (n_then (c_seq ?_))
  obtain ⟨n1, hn1⟩ : ∃ n, n = w15.heap.size := ⟨_, rfl⟩
  refine wp_reg zd (l_v (v_makeFunc (by simp [ev]; rfl) (by simp [ev]; rfl)) ?_)
  refine l_to (to_store rfl rfl rfl rfl zk HB11 dj5 ?_)
  rintro w111 HX111 k111 z111
  have := k111.size
  replace HB2 := HB2.keep k111 dj4
  replace HSr := HSr.keep k111 dj1
  replace HB3 := HB3.keep k111 dj4
  replace E := E.step k111 dj3
  replace HD := defB_keep HD k111 (by intro h; have he0 := h; have he := h; have h := h; (try dsimp only at h); first | omega)
  replace HB11 := HX111
  clear HX111
  try simp only [zS, Nat.zero_add, Nat.reduceAdd, List.drop_nil] at HB11
  refine l_nil (n_then (c_seq ?_))
  replace HM11 := (((HM11.ext e13).ext e14).ext e15).keep k111 dj4
  replace HB8 := (((HB8.ext e13).ext e14).ext e15).keep k111 dj4
  replace HB9 := ((HB9.ext e14).ext e15).keep k111 dj4
  replace HB10 := (HB10.ext e15).keep k111 dj4
  have h9 := try_c (r := r) (br := b3) (bd := b9) (bv := b8) (bo := b10) (bt := b11) (bm := bm) (n1 := n1) hr32.1 hak ⟨by omega, by omega, by omega, by omega, by omega, by omega⟩ r.length (d := List.replicate r.length false) (ord := []) (m := []) (ml := []) (vm := .slice none 0 0) (ao := none) (co := 0) (unD_rep _) (by simp) rfl (by simp; omega) (by simp; omega) zo (VainOk.nil r) HB3 (HSr.mono fun b hb h => ⟨by omega, by omega, by omega, fun ho => by cases ho⟩) (by rw [bitN_rep]; exact HB9) HB8 HM11 HB10 (OwV.nil _ _ _ _ _) HB11 (SlV.nil _ _ _)
  refine wp_reg zd (l_v (v_load zk rfl (by first | exact HB11.cell rfl | exact HB2.cell rfl | assumption)) ?_)
  refine l_to (to_call1 zk rfl (zvS rfl) (CallsR.mono (h9) ?_))
  rintro _ w16 ⟨⟨ua, un, uc, bb, rfl, hT, hFl⟩, k16⟩
  have := k16.size
  replace HB2 := HB2.keep k16 (by intro h; have he0 := h; (try dsimp only at h); (try simp only [Value.ownBlock, Option.some.injEq] at h); first | omega | (have he := he0; (rcases he0 with h9 | h9 | h9 | h9; omega; omega; omega; cases h9)))
  replace E := E.step k16 (by intro i hi he; have he0 := he; (try dsimp only [NoK] at hi he ⊢); (try simp only [Value.ownBlock, Option.some.injEq] at he); first | exact he.elim | omega | exact he | ((rcases he0 with h9 | h9 | h9 | h9; omega; omega; omega; cases h9)))
  replace HD := defB_keep HD k16 (by intro h; have he0 := h; have he := h; have h := h; (try dsimp only at h); first | omega | ((rcases he0 with h9 | h9 | h9 | h9; omega; omega; omega; cases h9)))
  refine l_v (zmT rfl) (l_v (v_extract (t := .slice _ _ _) rfl rfl) (l_v (v_extract (t := .bool _) rfl rfl) (l_v (zaS rfl) (l_v (zaB rfl) (l_nil (n_then (c_seq (c_seq (wp_reg zd ?_)))))))))
  refine l_v (zmB rfl) (l_v (v_not rfl) ?_)
  replace HB11 := HB11.keep k16 (by intro h; have he0 := h; (try dsimp only at h); (try simp only [Value.ownBlock, Option.some.injEq] at h); first | omega | (have he := he0; (rcases he0 with h9 | h9 | h9 | h9; omega; omega; omega; cases h9)))
  refine l_nil (n_then (c_cond rfl rfl (fun h49 => ?_) (fun h49 => ?_)))
  ·
   have hbf : bb = false := by simpa using h49
   refine c_seq (wp_reg zd (l_v (v_build (pl := [(0, 1), (1, 1), (2, 1), (3, 1)]) (z := .agg #[.int .i64 0, .int .i64 0, .slice none 0 0, .slice none 0 0]) (zl := [.int .i64 0, .int .i64 0, .slice none 0 0, .slice none 0 0]) zk (by unfold kZero; kernel_rfl) rfl rfl (cells := [_, _, _, _]) rfl) ?_))
   refine l_to (to_storeA (n := 4) rfl rfl (zvA rfl) zk rfl dj6 HB2 dj5 ?_)
   rintro w112 HX112 k112 z112
   have := k112.size
   replace E := E.step k112 (by intro i hi he; have he0 := he; (try dsimp only [NoK] at hi he ⊢); (try simp only [Value.ownBlock, Option.some.injEq] at he); first | exact he.elim | omega | exact he | ((rcases he0 with h9 | h9 | h9 | h9; omega; omega; omega; cases h9)))
   replace HD := defB_keep HD k112 (by intro h; have he0 := h; have he := h; have h := h; (try dsimp only at h); first | omega | ((rcases he0 with h9 | h9 | h9 | h9; omega; omega; omega; cases h9)))
   replace HB2 := HX112
   clear HX112
   try simp only [zS, Nat.zero_add, Nat.reduceAdd, List.drop_nil] at HB2
   refine l_nil (n_then (c_ret (r_then (retM1c (n := 4) HB2 HD rfl zq rfl zk rfl ?_))))
   have E := keep_put E (by omega : w.heap.size ≤ D) (.deferred none)
   have hj := hj9 (by rw [← hsu]; exact (hFl hbf).1)
   refine ⟨⟨none, 0, none, 0, ?_, ?_, ?_⟩, E⟩
   ·
    rw [hj]; rfl
   ·
    rw [hj]; exact SlV.nil _ _ _
   rw [hj]; exact SlV.nil _ _ _
  have hbt : bb = true := by simpa using h49
  obtain ⟨os, m', ao', co', hs, HSm, HBo, HSo⟩ := hT hbt
  rw [List.nil_append] at HBo HSo
  have hj := hj0 os m' (by rw [← hsu]; exact hs)
  have hmm := seek_may hak r.length (m := []) rfl (by rw [← hsu]; exact hs)
  have hmd : ∀ p ∈ m', p.1.length ≤ 1000000 ∧ p.2.length ≤ 1000000 := fun p hp => by have := okP_len (mayMp_ok hmm.1 p hp); omega
  have hml := hmm.2
  simp only [List.length_nil] at hml
  obtain ⟨n9, hn9⟩ : ∃ n, n = w16.heap.size := ⟨_, rfl⟩
  replace HSo := HSo.mono (F' := fun b => n1 ≤ b ∧ b < n9) fun b hb h => ⟨h, by omega⟩
  refine c_skip (n_then (c_seq (wp_any zk ?_)))
  have e113 : Ext w16 { w16 with drawn := w16.drawn + 1 } := Keep.drawn _ _
  generalize hw113 : ({ w16 with drawn := w16.drawn + 1 } : World) = w113 at e113 ⊢
  clear hw113
  have := e113.size
  replace HB2 := HB2.ext e113
  replace E := E.trans e113.keep
  replace HD := defB_keep HD e113 (fun h => h)
  refine r_cut 3 rfl zd zd zd ?_
  refine wp_regdW (NoK) zd zd ?_
  replace HBo := HBo.ext e113
  refine rt_v (fun vals w hR hd => v_load zk rfl (by first | exact (HBo.ext hR).cell rfl | exact (HB2.ext hR).cell rfl | assumption)) ?_
  refine rt_v (fun vals w hR hd => zmS rfl) ?_
  replace HSm := HSm.ext e113
  refine rt_to (fun v W => SlV tPrF W (fun b => n9 ≤ b) v m') (fun v w w' h k => h.ext k) (fun vals w hR hd => to_f1 zk (hd 1 rfl) (CallsR.mono (jclone_c (HSm.ext hR) zo hmd) fun v w1 h => ⟨h.2, h.1.mono fun b _ h => by have := hR.size; omega⟩)) ?_
  refine rt_nil (fun w114 e114 => ?_)
  rintro _ rfl _ rfl v53 HS53
  have := e114.size
  have HS53 : SlV tPrF _ (fun b => n9 ≤ b) v53 m' := HS53
  obtain ⟨a53, c53, rfl⟩ := HS53.shape
  replace HB2 := HB2.ext e114
  replace E := E.trans e114.keep
  replace HD := defB_keep HD e114 (fun h => h)
  refine fin_nil (n_then (r_cut 1 rfl zd zd zd ?_))
  refine r_one zd rfl ?_
  refine l_v (v_build (pl := [(0, 1), (1, 1), (2, 1), (3, 1)]) (z := .agg #[.int .i64 0, .int .i64 0, .slice none 0 0, .slice none 0 0]) (zl := [.int .i64 0, .int .i64 0, .slice none 0 0, .slice none 0 0]) zk (by unfold kZero; kernel_rfl) rfl rfl (cells := [_, _, _, _]) rfl) ?_
  refine l_nil (n_then (r_one zd rfl ?_))
  refine l_to (to_storeA (n := 4) rfl rfl (zvA rfl) zk rfl dj6 HB2 dj5 ?_)
  rintro w115 HX115 k115 z115
  have := k115.size
  replace E := E.step k115 (by intro i hi he; have he0 := he; (try dsimp only [NoK] at hi he ⊢); (try simp only [Value.ownBlock, Option.some.injEq] at he); first | exact he.elim | omega | exact he | ((rcases he0 with h9 | h9 | h9 | h9; omega; omega; omega; cases h9)))
  replace HD := defB_keep HD k115 (by intro h; have he0 := h; have he := h; have h := h; (try dsimp only at h); first | omega | ((rcases he0 with h9 | h9 | h9 | h9; omega; omega; omega; cases h9)))
  replace HB2 := HX115
  clear HX115
  try simp only [zS, Nat.zero_add, Nat.reduceAdd, List.drop_nil] at HB2
  refine l_nil (n_then (c_ret (retM1c (n := 4) HB2 HD rfl zq rfl zk rfl ?_)))
  have E := keep_put E (by omega : w.heap.size ≤ D) (.deferred none)
  replace HSo := ((HSo.ext e113).ext e114).keep k115 (by intro i _ hi he; have he0 := he; (try dsimp only [NoK, AllB] at hi he); (try simp only [Value.ownBlock, Option.some.injEq] at he); first | exact hi.elim | exact he.elim | omega | (rcases hi with hi | hi <;> omega) | (rcases he with he | he <;> omega) | ((rcases he0 with h9 | h9 | h9 | h9; omega; omega; omega; cases h9)))
  replace HSm := HSm.ext e114
  replace HBo := (HBo.ext e114).keep k115 (by intro h; have he0 := h; (try dsimp only at h); (try simp only [Value.ownBlock, Option.some.injEq] at h); first | omega | (have he := he0; (rcases he0 with h9 | h9 | h9 | h9; omega; omega; omega; cases h9)))
  replace HS53 := HS53.keep k115 (by intro i _ hi he; have he0 := he; (try dsimp only [NoK, AllB] at hi he); (try simp only [Value.ownBlock, Option.some.injEq] at he); first | exact hi.elim | exact he.elim | omega | (rcases hi with hi | hi <;> omega) | (rcases he with he | he <;> omega) | ((rcases he0 with h9 | h9 | h9 | h9; omega; omega; omega; cases h9)))
  refine ⟨⟨ao', co', a53, c53, ?_, ?_, ?_⟩, E⟩
  ·
   rw [hj]; rfl
  ·
   rw [hj]; exact (HSo.keep (put_keep _ D _) fun b _ h he => by omega).allB
  rw [hj]; exact ((imp_pr.sl HS53).keep (put_keep _ D _) fun b _ h he => by omega).allB
 rintro D _ pre W hD E EK hpre h HD; exact h.elim
end Go.Proofs.Ytifnkmflmgnfjaa
