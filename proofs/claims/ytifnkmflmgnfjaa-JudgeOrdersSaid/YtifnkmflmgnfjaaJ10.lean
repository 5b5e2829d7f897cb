/- A part of the proof: steps and lemmas for the walks through the given program. -/
import Derived.Test.YtifnkmflmgnfjaaJe
import Derived.Test.YtifnkmflmgnfjaaVc48
namespace Go.Proofs.Ytifnkmflmgnfjaa
open Go.Vc
set_option linter.unusedVariables false
set_option linter.unusedSimpArgs false
set_option maxRecDepth 100000

set_option maxHeartbeats 2000000 in
theorem refDo_c {w : World} {F : Nat → Prop} {vm va : Value} {m : MapV} {a : AkV} (HSm : SlV tPr w F vm m) (HG1 : AgV tAk w F va a) (hm : mayMp m = true) (hn : m.length ≤ 900000) (ha : mayAk a = true) :
    CallsR Try.prog 37 #[vm, va] w (AskR w F m a) := by
 obtain ⟨k, key, to, val, was, no, most⟩ := a
 obtain ⟨n0, hn0⟩ : ∃ n, n = w.heap.size := ⟨_, rfl⟩
 obtain ⟨am, cm, rfl⟩ := HSm.shape
 obtain ⟨a1, c1, a2, c2, a3, c3, a4, c4, rfl, HS1, HS2, HS3, HS4, hi1, hi2⟩ := HG1.ak
 simp only [] at HS1 HS2 HS3 HS4 hi1 hi2 ⊢
 have hcm := SlV.cap_ge HSm
 have hlk := posM_le m key
 have hkk := mayAk_kind ha
 simp only at hkk
 have hp1 := @hasM_lt m key
 have hlp : (m.take (posM m key)).length = posM m key := by rw [List.length_take]; omega
 replace HSm := HSm.lt
 replace HS1 := HS1.lt
 replace HS2 := HS2.lt
 replace HS3 := HS3.lt
 replace HS4 := HS4.lt
 rw [← hn0] at HSm HS1 HS2 HS3 HS4
 obtain ⟨p, hpx⟩ : ∃ p, hasM m key = true → m[posM m key]? = some p := by
  cases hh : hasM m key with
  | true => exact ⟨_, fun _ => List.getElem?_eq_getElem (hp1 hh)⟩
  | false => exact ⟨([], []), fun h => by cases h⟩
 refine enter 117 Try.func37 rfl rfl (by simp) ?_
 refine c_seq ?_
 have E := Keep.refl (K := NoK) w
 refine wp_reg zd (l_to (to_box (zvA rfl) ?_))
 rintro b1 w1 zb1 HB1 e1 z1
 have := e1.size
 try simp only [Value.cells] at HB1
 refine l_v (v_assign rfl) (l_to (to_alloc (z := (.agg #[.int .i64 0, .slice none 0 0, .slice none 0 0])) (by unfold kZero; kernel_rfl) ?_))
 rintro b2 w2 zb2 HB2 e2 z2
 have := e2.size
 try simp only [Value.cells] at HB2
 replace HB1 := HB1.ext e2
 refine l_nil (n_then (c_seq (wp_reg zd (l_v (zmS rfl) (l_v (v_fieldAddr (off := 1) (ft := 26) zk rfl) (l_v (v_load zk rfl (by first | exact HB2.pv 1 _ rfl | exact HB1.pv 1 _ rfl | assumption)) ?_))))))
 replace HSm := (HSm.ext e1).ext e2
 replace HS1 := (HS1.ext e1).ext e2
 refine l_to (to_f2 zk (zvS rfl) (zvS rfl) (CallsR.mono (reffind_c HSm HS1) ?_))
 rintro _ w101 ⟨rfl, e101⟩
 have := e101.size
 refine l_v (zmT rfl) (l_v (v_extract (t := .int _ _) rfl rfl) (l_v (v_extract (t := .bool _) rfl rfl) (l_v (zaI rfl) (l_v (zaB rfl) (l_nil (n_then (c_seq (c_seq (wp_reg zd ?_)))))))))
 replace HB1 := HB1.ext e101
 replace HB2 := HB2.ext e101
 refine l_v (v_fieldAddr (off := 0) (ft := 25) zk rfl) (l_v (v_load zk rfl (by first | exact HB2.pv 0 _ rfl | exact HB1.pv 0 _ rfl | assumption)) ?_)
 refine l_nil (n_then (c_block (c_seq (wp_reg zd (l_v (v_eql rfl rfl) ?_)))))
 replace E := ((E.trans e1.keep).trans e2.keep).trans e101.keep
 replace HS2 := ((HS2.ext e1).ext e2).ext e101
 replace HS3 := ((HS3.ext e1).ext e2).ext e101
 replace HS4 := ((HS4.ext e1).ext e2).ext e101
 replace HSm := HSm.ext e101
 replace HS1 := HS1.ext e101
 refine l_v (zaB rfl) (l_nil (n_then (c_cond rfl rfl (fun h18 => ?_) (fun h18 => ?_))))
 ·
  have hk : k = 1 := dtrue h18
  subst hk
  refine c_seq (c_seq (wp_reg zd (l_v (zmB rfl) (l_v (v_not rfl) ?_))))
  refine l_nil (n_then (c_cond rfl rfl (fun h21 => ?_) (fun h21 => ?_)))
  ·
   refine c_seq (wp_reg zd (l_v (zmS rfl) (l_to (to_f1 zk (zvI rfl) (CallsR.mono (refnone_c) ?_)))))
   rintro _ w9 ⟨rfl, e9⟩
   have := e9.size
   replace HB2 := HB2.ext e9
   refine l_v (zaS rfl) (l_to (to_storeA (n := 3) rfl rfl (zvA rfl) zk rfl dj6 HB2 dj5 ?_))
   rintro w102 HX102 k102 z102
   have := k102.size
   replace HB2 := HX102
   clear HX102
   try simp only [zS, Nat.zero_add, Nat.reduceAdd, List.drop_nil] at HB2
   refine l_nil (n_then (c_ret (r_then (r_blk (r_then (ret2tc (n := 3) rfl zq zq rfl zk HB2.pv rfl (zvS rfl) ?_))))))
   have hh : hasM m key = false := by simpa using h21
   have hd : doM m (1, key, to, val, was, no, most) = (m, (6, [], [])) := by simp [doM, hh]
   replace E := (E.trans e9.keep).step k102 dj3
   replace HSm := (HSm.ext e9).keep k102 dj1
   replace HS1 := (HS1.ext e9).keep k102 dj1
   replace HS2 := (HS2.ext e9).keep k102 dj1
   replace HS3 := (HS3.ext e9).keep k102 dj1
   replace HS4 := (HS4.ext e9).keep k102 dj1
   replace HB1 := (HB1.ext e9).keep k102 dj4
   refine ⟨_, _, rfl, ?_, ?_, E⟩
   ·
    rw [hd]; exact SlV.fx HSm _
   rw [hd]; exact an_err ⟨by decide, by decide⟩
  have hh : hasM m key = true := by simpa using h21
  have hp := hp1 hh
  have hmx := HSm.len_max
  refine c_skip (n_then (c_seq (wp_any zk ?_)))
  have e103 : Ext w101 { w101 with drawn := w101.drawn + 1 } := Keep.drawn _ _
  generalize hw103 : ({ w101 with drawn := w101.drawn + 1 } : World) = w103 at e103 ⊢
  clear hw103
  have := e103.size
  refine r_cut 8 rfl zd zd zd ?_
  refine wp_regdW (NoK) zd zd ?_
  refine rt_v (fun vals w hR hd => zmS rfl) ?_
  refine rt_v (fun vals w hR hd => zmS rfl) ?_
  refine rt_v (fun vals w hR hd => zmI rfl) ?_
  refine rt_v (fun vals w hR hd => zmI rfl) ?_
  refine rt_v (fun vals w hR hd => v_add (hd 3 rfl) rfl (by first | exact wr_i64 zo zo | rfl)) ?_
  refine rt_v (fun vals w hR hd => v_slice (et := 50) (sz := 2) (l := posM m key) (h := posM m key + 1) zk zk (hd 1 rfl) ⟨.i64, ((hd 2 rfl)).trans (congrArg (Value.int _) zo)⟩ ⟨.i64, ((hd 4 rfl)).trans (congrArg (Value.int _) zo)⟩ zo zo) ?_
  refine rt_v (fun vals w hR hd => v_build (pl := [(0, 1), (1, 1), (2, 1)]) (z := .agg #[.int .i64 0, .slice none 0 0, .slice none 0 0]) (zl := [.int .i64 0, .slice none 0 0, .slice none 0 0]) (ps := [(1, .slice (slA am cm (posM m key) 2) (posM m key + 1 - posM m key) (cm - posM m key))]) zk (by unfold kZero; kernel_rfl) rfl (by refine parts1 (v0 := .slice (slA am cm (posM m key) 2) (posM m key + 1 - posM m key) (cm - posM m key)) ?_; exact (hd 5 rfl)) (cells := [.int .i64 0, .slice (slA am cm (posM m key) 2) (posM m key + 1 - posM m key) (cm - posM m key), .slice none 0 0]) rfl) ?_
  refine rt_v (fun vals w hR hd => v_assign (t := .slice _ _ _) (hd 0 rfl)) ?_
  refine rt_nil (fun w20 e20 => ?_)
  rintro _ rfl _ rfl _ rfl _ rfl _ rfl _ rfl _ rfl _ rfl
  have := e20.size
  refine fin_nil (n_then (r_one zd rfl ?_))
  replace HB2 := (HB2.ext e103).ext e20
  refine l_to (to_storeA (n := 3) rfl rfl (zvA rfl) zk rfl dj6 HB2 dj5 ?_)
  rintro w104 HX104 k104 z104
  have := k104.size
  replace HB2 := HX104
  clear HX104
  try simp only [zS, Nat.zero_add, Nat.reduceAdd, List.drop_nil] at HB2
  refine l_nil (n_then (c_ret (r_blk (r_then (ret2tc (n := 3) rfl zq zq rfl zk HB2.pv rfl (zvS rfl) ?_)))))
  have hd : doM m (1, key, to, val, was, no, most) = (m, (0, (m.drop (posM m key)).take 1, [])) := by simp [doM, hh]
  replace E := ((E.trans e103.keep).trans e20.keep).step k104 dj3
  replace HSm := ((HSm.ext e103).ext e20).keep k104 dj1
  replace HS1 := ((HS1.ext e103).ext e20).keep k104 dj1
  replace HS2 := ((HS2.ext e103).ext e20).keep k104 dj1
  replace HS3 := ((HS3.ext e103).ext e20).keep k104 dj1
  replace HS4 := ((HS4.ext e103).ext e20).keep k104 dj1
  replace HB1 := ((HB1.ext e103).ext e20).keep k104 dj4
  refine ⟨_, _, rfl, ?_, ?_, E⟩
  ·
   rw [hd]; exact SlV.fx HSm _
  rw [hd]
  have h := HSm.sub (l := posM m key) (h := posM m key + 1) zo zo
  have h2 : (m.take (posM m key + 1)).drop (posM m key) = (m.drop (posM m key)).take 1 := by rw [List.drop_take]; congr 1; omega
  rw [h2] at h
  exact AgV.mkAn (SlV.fx h _) (SlV.nil _ _ _) ⟨by decide, by decide⟩
 refine c_seq (wp_reg zd (l_v (v_eql rfl rfl) ?_))
 refine l_v (zaB rfl) (l_nil (n_then (c_cond rfl rfl (fun h31 => ?_) (fun h31 => ?_))))
 ·
  have hk : k = 2 := dtrue h31
  subst hk
  refine c_seq (wp_reg zd (l_v (zmS rfl) (l_v (v_fieldAddr (off := 1) (ft := 26) zk rfl) (l_v (v_load zk rfl (by first | exact HB2.pv 1 _ rfl | exact HB1.pv 1 _ rfl | assumption)) ?_))))
  refine l_v (v_fieldAddr (off := 3) (ft := 26) zk rfl) (l_v (v_load zk rfl (by first | exact HB2.pv 3 _ rfl | exact HB1.pv 3 _ rfl | assumption)) ?_)
  refine l_to (to_f3 zk (zvS rfl) (zvS rfl) (zvS rfl) (CallsR.mono (refset_c HSm HS1 HS3 hn) ?_))
  rintro u9 w9 ⟨HS9, e9⟩
  have := e9.size
  obtain ⟨a9, c9, rfl⟩ := HS9.shape
  refine l_v (v_build (pl := [(0, 1), (1, 1), (2, 1)]) (z := .agg #[.int .i64 0, .slice none 0 0, .slice none 0 0]) (zl := [.int .i64 0, .slice none 0 0, .slice none 0 0]) zk (by unfold kZero; kernel_rfl) rfl rfl (cells := [_, _, _]) rfl) ?_
  replace HB2 := HB2.ext e9
  refine l_v (zaS rfl) (l_to (to_storeA (n := 3) rfl rfl (zvA rfl) zk rfl dj6 HB2 dj5 ?_))
  rintro w105 HX105 k105 z105
  have := k105.size
  replace HB2 := HX105
  clear HX105
  try simp only [zS, Nat.zero_add, Nat.reduceAdd, List.drop_nil] at HB2
  refine l_nil (n_then (c_ret (r_blk (r_then (ret2tc (n := 3) rfl zq zq rfl zk HB2.pv rfl (zvS rfl) ?_)))))
  have hd : doM m (2, key, to, val, was, no, most) = (setM m key val, an0) := by simp [doM]
  replace E := (E.trans e9.keep).step k105 dj3
  replace HSm := (HSm.ext e9).keep k105 dj1
  replace HS1 := (HS1.ext e9).keep k105 dj1
  replace HS2 := (HS2.ext e9).keep k105 dj1
  replace HS3 := (HS3.ext e9).keep k105 dj1
  replace HS4 := (HS4.ext e9).keep k105 dj1
  replace HB1 := (HB1.ext e9).keep k105 dj4
  replace HS9 := HS9.keep k105 dj1
  refine ⟨_, _, rfl, ?_, ?_, E⟩
  ·
   rw [hd]; exact HS9.mono fun b _ h => h.imp (fun h => h.1) (fun h => by omega)
  rw [hd]; exact an0_ag
 refine c_seq (wp_reg zd (l_v (v_eql rfl rfl) ?_))
 refine l_v (zaB rfl) (l_nil (n_then (c_cond rfl rfl (fun h40 => ?_) (fun h40 => ?_))))
 ·
  have hk : k = 3 := dtrue h40
  subst hk
  refine c_seq (c_seq (wp_reg zd (l_v (zmB rfl) (l_v (v_not rfl) ?_))))
  refine l_nil (n_then (c_cond rfl rfl (fun h43 => ?_) (fun h43 => ?_)))
  ·
   refine c_seq (wp_reg zd (l_v (zmS rfl) (l_to (to_f1 zk (zvI rfl) (CallsR.mono (refnone_c) ?_)))))
   rintro _ w9 ⟨rfl, e9⟩
   have := e9.size
   replace HB2 := HB2.ext e9
   refine l_v (zaS rfl) (l_to (to_storeA (n := 3) rfl rfl (zvA rfl) zk rfl dj6 HB2 dj5 ?_))
   rintro w106 HX106 k106 z106
   have := k106.size
   replace HB2 := HX106
   clear HX106
   try simp only [zS, Nat.zero_add, Nat.reduceAdd, List.drop_nil] at HB2
   refine l_nil (n_then (c_ret (r_then (r_blk (r_then (ret2tc (n := 3) rfl zq zq rfl zk HB2.pv rfl (zvS rfl) ?_))))))
   have hh : hasM m key = false := by simpa using h43
   have hd : doM m (3, key, to, val, was, no, most) = (m, (6, [], [])) := by simp [doM, hh]
   replace E := (E.trans e9.keep).step k106 dj3
   replace HSm := (HSm.ext e9).keep k106 dj1
   replace HS1 := (HS1.ext e9).keep k106 dj1
   replace HS2 := (HS2.ext e9).keep k106 dj1
   replace HS3 := (HS3.ext e9).keep k106 dj1
   replace HS4 := (HS4.ext e9).keep k106 dj1
   replace HB1 := (HB1.ext e9).keep k106 dj4
   refine ⟨_, _, rfl, ?_, ?_, E⟩
   ·
    rw [hd]; exact SlV.fx HSm _
   rw [hd]; exact an_err ⟨by decide, by decide⟩
  have hh : hasM m key = true := by simpa using h43
  have hp := hp1 hh
  have hmx := HSm.len_max
  obtain ⟨n6, hn6⟩ : ∃ n, n = w101.heap.size := ⟨_, rfl⟩
  refine c_skip (n_then (c_seq (wp_any zk ?_)))
  have e107 : Ext w101 { w101 with drawn := w101.drawn + 1 } := Keep.drawn _ _
  generalize hw107 : ({ w101 with drawn := w101.drawn + 1 } : World) = w107 at e107 ⊢
  clear hw107
  have := e107.size
  refine r_cut 11 rfl zd zd zd ?_
  refine wp_regJW (fun k => w107.heap.size ≤ k) (EqJ [(10, 8)] (ChainJ (tPr) (50) w107.heap.size (w107.heap.size) (fun b => (F b ∧ b < n0) ∨ n6 ≤ b) (fun b => (F b ∧ b < n0) ∨ n6 ≤ b) (.slice none 0 0 : Value) ([]) [3, 8] [none, none] [m.take (posM m key), m.drop (posM m key + 1)])) zd zd (fun vals done hd => EqJ.start (ChainJ.start (OwV.nil _ _ _ _ _) (Nat.le_refl _) (Nat.le_refl _) (fun i hi => hd i (dOf_lt zq hi))) (fun k j hq => hd k (dQ_lt zq k j hq))) ?_
  refine rj_v (EqJ.on ChainJ.on) zq (fun done vals w hR hJ hdn hd => zmS rfl) ?_
  refine rj_v (EqJ.on ChainJ.on) zq (fun done vals w hR hJ hdn hd => zmI rfl) ?_
  refine rj_v (EqJ.on ChainJ.on) zq (fun done vals w hR hJ hdn hd => v_slicePre (et := 50) (sz := 2) (h := posM m key) zk zk (hd 0 rfl) (hd 1 rfl) (by first | rfl | omega) zo) ?_
  replace E := E.trans e107.keep
  replace HSm := HSm.ext e107
  replace HS1 := HS1.ext e107
  replace HS2 := HS2.ext e107
  replace HS3 := HS3.ext e107
  replace HS4 := HS4.ext e107
  replace HB1 := HB1.ext e107
  replace HB2 := HB2.ext e107
  refine rj_d (fun done vals w hR hcl hdk hJ hdn hd => by
    have := hR.size
    obtain ⟨hacc, hown, hsrc⟩ := hJ.1.at (n := 0) rfl hdk (fun m h => by cases h)
    exact to_append (et := 50) (bytes := 48) zk rfl hacc (hd 2 rfl) ((HSm.keep hR dj2).pre (h := posM m key) zo) (fun cs x h => Ty.mono _ h (fun b _ h => ⟨.inl h, fun ho => (hown b ho).elim (fun h' => by cases h') (fun h' => by omega)⟩)) (by (simp; omega)) (by simp only [maxLen]; (simp; omega)) zo (fun a n cc w1 o hn kk ho _ => ⟨kk.mono (fun b _ h => (hown b h).resolve_left (fun h => by cases h)), hJ.step hdk zq (hJ.1.app (n := 0) rfl hdk (fun m h => by cases h) rfl (once_as zq) (ps_ne zq) o kk ho)⟩)) ?_
  refine rj_v (EqJ.on ChainJ.on) zq (fun done vals w hR hJ hdn hd => zmS rfl) ?_
  refine rj_v (EqJ.on ChainJ.on) zq (fun done vals w hR hJ hdn hd => zmI rfl) ?_
  refine rj_v (EqJ.on ChainJ.on) zq (fun done vals w hR hJ hdn hd => v_add (hd 5 rfl) rfl (by first | exact wr_i64 zo zo | rfl)) ?_
  refine rj_v (EqJ.on ChainJ.on) zq (fun done vals w hR hJ hdn hd => v_slice (et := 50) (sz := 2) (l := posM m key + 1) (h := m.length) zk zk (hd 4 rfl) ⟨.i64, ((hd 6 rfl)).trans (congrArg (Value.int _) zo)⟩ rfl zo zo) ?_
  refine rj_d (fun done vals w hR hcl hdk hJ hdn hd => by
    have := hR.size
    obtain ⟨hacc, hown, hsrc⟩ := hJ.1.at (n := 1) rfl hdk (fun m h => ⟨3, by cases h; rfl, hdn 3 rfl⟩)
    exact to_append (et := 50) (bytes := 48) zk rfl hacc (hd 7 rfl) (by have h := (HSm.keep hR dj2).sub (l := posM m key + 1) (h := m.length) zo zo; rw [List.take_length] at h; exact h) (fun cs x h => Ty.mono _ h (fun b _ h => ⟨.inl h, fun ho => (hown b ho).elim (fun h' => by cases h') (fun h' => by omega)⟩)) (by (simp; omega)) (by simp only [maxLen]; (simp; omega)) zo (fun a n cc w1 o hn kk ho _ => ⟨kk.mono (fun b _ h => (hown b h).resolve_left (fun h => by cases h)), hJ.step hdk zq (hJ.1.app (n := 1) rfl hdk (fun m h => ⟨3, by cases h; rfl, hdn 3 rfl⟩) rfl (once_as zq) (ps_ne zq) o kk ho)⟩)) ?_
  refine rj_v (EqJ.on ChainJ.on) zq (fun done vals w hR hJ hdn hd => v_build (pl := [(0, 1), (1, 1), (2, 1)]) (z := .agg #[.int .i64 0, .slice none 0 0, .slice none 0 0]) (zl := [.int .i64 0, .slice none 0 0, .slice none 0 0]) zk (by unfold kZero; kernel_rfl) rfl rfl (cells := [_, _, _]) rfl) ?_
  refine rj_d (fun done vals w hR hcl hdk hJ hdn hd => OpTo.of_v (v_assign rfl) ⟨Keep.refl _, hJ.mv ChainJ.on zq hdk (hdn 8 rfl) zq⟩) ?_
  refine rj_nil (fun vals w108 k108 J108 => ?_)
  rintro _ _ rfl _ _ rfl _ _ rfl _ rfl - _ _ rfl _ _ rfl _ _ rfl _ _ rfl v54 hv54 - _ _ rfl m10 hm10 -
  have := k108.size
  have HO54 : OwV (tPr) (50) w108 (w107.heap.size) (fun b => (F b ∧ b < n0) ∨ n6 ≤ b) v54 (m.take (posM m key) ++ m.drop (posM m key + 1)) := by
   have h := J108.1.fin (by exact Nat.le_refl _)
   have h2 : [] ++ ([m.take (posM m key), m.drop (posM m key + 1)]).flatten = m.take (posM m key) ++ m.drop (posM m key + 1) := by simp
   rw [h2] at h; rw [hv54]; exact h
  obtain rfl : m10 = v54 := by rw [hm10, hv54, (J108.2 10 8 zq rfl).2]
  clear hm10
  clear hv54
  obtain ⟨a54, c54, rfl⟩ := HO54.shape
  have zo_HO54 := fun (b : Nat) h => HO54.own_lt (b := b) h
  refine fin_nilJ (n_then (r_one zd rfl ?_))
  replace HB2 := HB2.keep k108 dj4
  refine l_to (to_storeA (n := 3) rfl rfl (zvA rfl) zk rfl dj6 HB2 dj5 ?_)
  rintro w109 HX109 k109 z109
  have := k109.size
  replace HB2 := HX109
  clear HX109
  try simp only [zS, Nat.zero_add, Nat.reduceAdd, List.drop_nil] at HB2
  refine l_nil (n_then (c_ret (r_blk (r_then (ret2tc (n := 3) rfl zq zq rfl zk HB2.pv rfl (zvS rfl) ?_)))))
  have hd : doM m (3, key, to, val, was, no, most) = (delM m key, an0) := by simp [doM, hh]
  replace E := (E.step k108 dj3).step k109 dj3
  replace HSm := (HSm.keep k108 dj1).keep k109 dj1
  replace HS1 := (HS1.keep k108 dj1).keep k109 dj1
  replace HS2 := (HS2.keep k108 dj1).keep k109 dj1
  replace HS3 := (HS3.keep k108 dj1).keep k109 dj1
  replace HS4 := (HS4.keep k108 dj1).keep k109 dj1
  replace HB1 := (HB1.keep k108 dj4).keep k109 dj4
  replace HO54 := HO54.keep k109 (by intro i ho he; have he0 := he; have ho0 := ho; (try dsimp only [NoK] at he); (try simp only [Value.ownBlock, Option.some.injEq, reduceCtorEq] at ho); (try simp only [Value.ownBlock, Option.some.injEq, reduceCtorEq] at he); first | exact he.elim | exact ho.elim | omega | (have := zo_HO54 _ ho0; omega)) (by intro i _ hi _ he; have he0 := he; have hi := hi; have he := he; (try dsimp only [NoK, AllB] at hi he); (try simp only [Value.ownBlock, Option.some.injEq, reduceCtorEq] at he); all_goals first | exact hi.elim | exact hi.1.elim | exact he.elim | omega | (rcases hi with hi | hi <;> omega) | (rcases he with he | he <;> omega))
  refine ⟨_, _, rfl, ?_, ?_, E⟩
  ·
   rw [hd]; exact HO54.view.mono fun b _ h => h.elim (fun h => .inr zo) (fun h => h.elim (fun h => .inl h.1) (fun h => .inr zo))
  rw [hd]; exact an0_ag
 refine c_seq (wp_reg zd (l_v (v_eql rfl rfl) ?_))
 refine l_v (zaB rfl) (l_nil (n_then (c_cond rfl rfl (fun h56 => ?_) (fun h56 => ?_))))
 ·
  have hk : k = 4 := dtrue h56
  subst hk
  by_cases hh : hasM m key = true
  ·
   refine c_seq (c_seq ?_)
   have hp := hp1 hh
   have hx := hpx hh
   obtain ⟨q, cs, hqq, hF, _, HPq, hr⟩ := HSm.el hx
   subst hqq
   obtain ⟨a5, c5, a6, c6, rfl, HSk, HSv⟩ := tPr_cells hr
   have hmx := HSm.len_max
   refine wp_regd (NoK) zk zd zd ?_
   refine rt_v (fun vals w hR hd => v_fieldAddr (off := 5) (ft := 4) zk rfl) ?_
   refine rt_v (fun vals w hR hd => v_load zk (hd 0 rfl) (by first | exact (HPq.ext hR) 5 _ rfl | exact pv_1 (HPq.ext hR) | exact (HB2.ext hR).pv 5 _ rfl | exact (HB1.ext hR).pv 5 _ rfl | assumption)) ?_
   refine rt_v (fun vals w hR hd => zmB rfl) ?_
   refine rt_v (fun vals w hR hd => v_beql zk (hd 1 rfl) (hd 2 rfl)) ?_
   refine rt_v (fun vals w hR hd => v_move (t := .bool _) (hd 3 rfl)) ?_
   refine rt_g1 rfl (fun vals w hd => hd 4 rfl) (fun vals w hR hd hG => zmB rfl) ?_
   refine rt_g1 rfl (fun vals w hd => hd 4 rfl) (fun vals w hR hd hG => v_move (t := .bool _) (gd hG (hd 5 rfl))) ?_
   refine rt_g2 rfl (fun vals w hd => hd 6 rfl) (fun vals w hR hd hG => zmS rfl) ?_
   refine rt_g2 rfl (fun vals w hd => hd 6 rfl) (fun vals w hR hd hG => zmI rfl) ?_
   refine rt_g2 rfl (fun vals w hd => hd 6 rfl) (fun vals w hR hd hG => v_indexAddr (et := 50) (sz := 2) (k := posM m key) zk zk (gd hG (hd 7 rfl)) (gd hG (hd 8 rfl)) (by first | rfl | omega) zo) ?_
   refine rt_g2 rfl (fun vals w hd => hd 6 rfl) (fun vals w hR hd hG => v_fieldAddr (off := 1) (ft := 26) zk (gd hG (hd 9 rfl))) ?_
   refine rt_g2 rfl (fun vals w hd => hd 6 rfl) (fun vals w hR hd hG => v_load zk (gd hG (hd 10 rfl)) (by first | exact (HPq.ext hR) 1 _ rfl | exact pv_1 (HPq.ext hR) | exact (HB2.ext hR).pv 1 _ rfl | exact (HB1.ext hR).pv 1 _ rfl | assumption)) ?_
   refine rt_g2 rfl (fun vals w hd => hd 6 rfl) (fun vals w hR hd hG => v_b2s (et := 5) zk zk zk (gd hG (hd 11 rfl)) (by first | exact (HSv.ext hR) | exact (HS4.ext hR) | exact (HS3.ext hR) | exact (HS2.ext hR) | exact (HS1.ext hR) | exact (HSm.ext hR) | assumption)) ?_
   refine rt_g2 rfl (fun vals w hd => hd 6 rfl) (fun vals w hR hd hG => v_fieldAddr (off := 4) (ft := 26) zk rfl) ?_
   refine rt_g2 rfl (fun vals w hd => hd 6 rfl) (fun vals w hR hd hG => v_load zk (gd hG (hd 13 rfl)) (by first | exact (HPq.ext hR) 4 _ rfl | exact pv_1 (HPq.ext hR) | exact (HB2.ext hR).pv 4 _ rfl | exact (HB1.ext hR).pv 4 _ rfl | assumption)) ?_
   refine rt_g2 rfl (fun vals w hd => hd 6 rfl) (fun vals w hR hd hG => v_b2s (et := 5) zk zk zk (gd hG (hd 14 rfl)) (by first | exact (HSv.ext hR) | exact (HS4.ext hR) | exact (HS3.ext hR) | exact (HS2.ext hR) | exact (HS1.ext hR) | exact (HSm.ext hR) | assumption)) ?_
   refine rt_g2 rfl (fun vals w hd => hd 6 rfl) (fun vals w hR hd hG => v_sne (gd hG (hd 12 rfl)) (gd hG (hd 15 rfl))) ?_
   refine rt_g1 rfl (fun vals w hd => hd 4 rfl) (fun vals w hR hd hG => v_and (gd hG (hd 6 rfl)) (gda hG (hd 16 rfl))) ?_
   refine rt_v (fun vals w hR hd => v_or (hd 4 rfl) (hd 17 rfl)) ?_
   refine rt_nil (fun w110 e110 => ?_)
   rintro _ rfl _ rfl _ rfl _ rfl _ rfl _ rfl _ rfl _ rfl _ rfl _ rfl _ rfl _ rfl _ rfl _ rfl _ rfl _ rfl _ rfl _ rfl _ rfl
   have := e110.size
   replace E := E.trans e110.keep
   replace HSm := HSm.ext e110
   replace HS1 := HS1.ext e110
   replace HS2 := HS2.ext e110
   replace HS3 := HS3.ext e110
   replace HS4 := HS4.ext e110
   replace HB1 := HB1.ext e110
   replace HB2 := HB2.ext e110
   replace HPq := HPq.ext e110
   replace HSv := HSv.ext e110
   refine fin_nil (n_then (c_cond rfl rfl (fun h76 => ?_) (fun h76 => ?_)))
   ·
    refine c_seq (wp_reg zd (l_v (zmS rfl) (l_to (to_f1 zk (zvI rfl) (CallsR.mono (refnone_c) ?_)))))
    rintro _ w9 ⟨rfl, e9⟩
    have := e9.size
    replace HB2 := HB2.ext e9
    refine l_v (zaS rfl) (l_to (to_storeA (n := 3) rfl rfl (zvA rfl) zk rfl dj6 HB2 dj5 ?_))
    rintro w111 HX111 k111 z111
    have := k111.size
    replace HB2 := HX111
    clear HX111
    try simp only [zS, Nat.zero_add, Nat.reduceAdd, List.drop_nil] at HB2
    refine l_nil (n_then (c_ret (r_then (r_blk (r_then (ret2tc (n := 3) rfl zq zq rfl zk HB2.pv rfl (zvS rfl) ?_))))))
    have hx : misM m key was no = true := by simpa [misM, hh, hx] using h76
    have hd : doM m (4, key, to, val, was, no, most) = (m, (12, [], [])) := by simp [doM, hx]
    replace E := (E.trans e9.keep).step k111 dj3
    replace HSm := (HSm.ext e9).keep k111 dj1
    replace HS1 := (HS1.ext e9).keep k111 dj1
    replace HS2 := (HS2.ext e9).keep k111 dj1
    replace HS3 := (HS3.ext e9).keep k111 dj1
    replace HS4 := (HS4.ext e9).keep k111 dj1
    replace HB1 := (HB1.ext e9).keep k111 dj4
    replace HPq := (HPq.ext e9).keep k111 (by intro h; (try dsimp only at h); (try simp only [add_block] at h); first | omega)
    replace HSv := (HSv.ext e9).keep k111 dj1
    refine ⟨_, _, rfl, ?_, ?_, E⟩
    ·
     rw [hd]; exact SlV.fx HSm _
    rw [hd]; exact an_err ⟨by decide, by decide⟩
   refine c_skip (n_then (c_seq (wp_reg zd (l_v (zmS rfl) (l_v (v_fieldAddr (off := 1) (ft := 26) zk rfl) (l_v (v_load zk rfl (by first | exact HPq 1 _ rfl | exact pv_1 HPq | exact HB2.pv 1 _ rfl | exact HB1.pv 1 _ rfl | assumption)) ?_))))))
   refine l_v (v_fieldAddr (off := 3) (ft := 26) zk rfl) (l_v (v_load zk rfl (by first | exact HPq 3 _ rfl | exact pv_1 HPq | exact HB2.pv 3 _ rfl | exact HB1.pv 3 _ rfl | assumption)) ?_)
   refine l_to (to_f3 zk (zvS rfl) (zvS rfl) (zvS rfl) (CallsR.mono (refset_c HSm HS1 HS3 hn) ?_))
   rintro u9 w9 ⟨HS9, e9⟩
   have := e9.size
   obtain ⟨a9, c9, rfl⟩ := HS9.shape
   refine l_v (v_build (pl := [(0, 1), (1, 1), (2, 1)]) (z := .agg #[.int .i64 0, .slice none 0 0, .slice none 0 0]) (zl := [.int .i64 0, .slice none 0 0, .slice none 0 0]) zk (by unfold kZero; kernel_rfl) rfl rfl (cells := [_, _, _]) rfl) ?_
   replace HB2 := HB2.ext e9
   refine l_v (zaS rfl) (l_to (to_storeA (n := 3) rfl rfl (zvA rfl) zk rfl dj6 HB2 dj5 ?_))
   rintro w112 HX112 k112 z112
   have := k112.size
   replace HB2 := HX112
   clear HX112
   try simp only [zS, Nat.zero_add, Nat.reduceAdd, List.drop_nil] at HB2
   refine l_nil (n_then (c_ret (r_blk (r_then (ret2tc (n := 3) rfl zq zq rfl zk HB2.pv rfl (zvS rfl) ?_)))))
   have hx : misM m key was no = false := by simpa [misM, hh, hx] using h76
   have hd : doM m (4, key, to, val, was, no, most) = (setM m key val, an0) := by simp [doM, hx]
   replace E := (E.trans e9.keep).step k112 dj3
   replace HSm := (HSm.ext e9).keep k112 dj1
   replace HS1 := (HS1.ext e9).keep k112 dj1
   replace HS2 := (HS2.ext e9).keep k112 dj1
   replace HS3 := (HS3.ext e9).keep k112 dj1
   replace HS4 := (HS4.ext e9).keep k112 dj1
   replace HB1 := (HB1.ext e9).keep k112 dj4
   replace HPq := (HPq.ext e9).keep k112 (by intro h; (try dsimp only at h); (try simp only [add_block] at h); first | omega)
   replace HSv := (HSv.ext e9).keep k112 dj1
   replace HS9 := HS9.keep k112 dj1
   refine ⟨_, _, rfl, ?_, ?_, E⟩
   ·
    rw [hd]; exact HS9.mono fun b _ h => h.imp (fun h => h.1) (fun h => by omega)
   rw [hd]; exact an0_ag
  refine c_seq (c_seq ?_)
  have hh : hasM m key = false := by simpa using hh
  refine wp_regd (NoK) zk zd zd ?_
  refine rt_v (fun vals w hR hd => v_fieldAddr (off := 5) (ft := 4) zk rfl) ?_
  refine rt_v (fun vals w hR hd => v_load zk (hd 0 rfl) (by first | exact (HB2.ext hR).pv 5 _ rfl | exact (HB1.ext hR).pv 5 _ rfl | assumption)) ?_
  refine rt_v (fun vals w hR hd => zmB rfl) ?_
  refine rt_v (fun vals w hR hd => v_beql zk (hd 1 rfl) (hd 2 rfl)) ?_
  refine rt_v (fun vals w hR hd => v_move (t := .bool _) (hd 3 rfl)) ?_
  refine rt_g1 rfl (fun vals w hd => hd 4 rfl) (fun vals w hR hd hG => zmB rfl) ?_
  refine rt_g1 rfl (fun vals w hd => hd 4 rfl) (fun vals w hR hd hG => v_move (t := .bool _) (gd hG (hd 5 rfl))) ?_
  refine rt_g2 rfl (fun vals w hd => hd 6 rfl) (fun vals w hR hd hG => zmS rfl) ?_
  refine rt_g2 rfl (fun vals w hd => hd 6 rfl) (fun vals w hR hd hG => zmI rfl) ?_
  refine rt_g2 rfl (fun vals w hd => hd 6 rfl) (fun vals w hR hd hG => show OpVat _ _ _ _ (undef) from False.elim ((by simp [hh] at hG))) ?_
  refine rt_g2 rfl (fun vals w hd => hd 6 rfl) (fun vals w hR hd hG => show OpVat _ _ _ _ (undef) from False.elim ((by simp [hh] at hG))) ?_
  refine rt_g2 rfl (fun vals w hd => hd 6 rfl) (fun vals w hR hd hG => show OpVat _ _ _ _ (undef) from False.elim ((by simp [hh] at hG))) ?_
  refine rt_g2 rfl (fun vals w hd => hd 6 rfl) (fun vals w hR hd hG => show OpVat _ _ _ _ (undef) from False.elim ((by simp [hh] at hG))) ?_
  refine rt_g2 rfl (fun vals w hd => hd 6 rfl) (fun vals w hR hd hG => show OpVat _ _ _ _ (undef) from False.elim ((by simp [hh] at hG))) ?_
  refine rt_g2 rfl (fun vals w hd => hd 6 rfl) (fun vals w hR hd hG => show OpVat _ _ _ _ (undef) from False.elim ((by simp [hh] at hG))) ?_
  refine rt_g2 rfl (fun vals w hd => hd 6 rfl) (fun vals w hR hd hG => show OpVat _ _ _ _ (undef) from False.elim ((by simp [hh] at hG))) ?_
  refine rt_g2 rfl (fun vals w hd => hd 6 rfl) (fun vals w hR hd hG => show OpVat _ _ _ _ (.bool true) from False.elim ((by simp [hh] at hG))) ?_
  refine rt_g1 rfl (fun vals w hd => hd 4 rfl) (fun vals w hR hd hG => v_and (gd hG (hd 6 rfl)) (gda hG (hd 16 rfl))) ?_
  refine rt_v (fun vals w hR hd => v_or (hd 4 rfl) (hd 17 rfl)) ?_
  refine rt_nil (fun w113 e113 => ?_)
  rintro _ rfl _ rfl _ rfl _ rfl _ rfl _ rfl _ rfl _ rfl _ rfl _ rfl _ rfl _ rfl _ rfl _ rfl _ rfl _ rfl _ rfl _ rfl _ rfl
  have := e113.size
  replace E := E.trans e113.keep
  replace HSm := HSm.ext e113
  replace HS1 := HS1.ext e113
  replace HS2 := HS2.ext e113
  replace HS3 := HS3.ext e113
  replace HS4 := HS4.ext e113
  replace HB1 := HB1.ext e113
  replace HB2 := HB2.ext e113
  refine fin_nil (n_then (c_cond rfl rfl (fun h76 => ?_) (fun h76 => ?_)))
  ·
   refine c_seq (wp_reg zd (l_v (zmS rfl) (l_to (to_f1 zk (zvI rfl) (CallsR.mono (refnone_c) ?_)))))
   rintro _ w9 ⟨rfl, e9⟩
   have := e9.size
   replace HB2 := HB2.ext e9
   refine l_v (zaS rfl) (l_to (to_storeA (n := 3) rfl rfl (zvA rfl) zk rfl dj6 HB2 dj5 ?_))
   rintro w114 HX114 k114 z114
   have := k114.size
   replace HB2 := HX114
   clear HX114
   try simp only [zS, Nat.zero_add, Nat.reduceAdd, List.drop_nil] at HB2
   refine l_nil (n_then (c_ret (r_then (r_blk (r_then (ret2tc (n := 3) rfl zq zq rfl zk HB2.pv rfl (zvS rfl) ?_))))))
   have hx : misM m key was no = true := by simpa [misM, hh] using h76
   have hd : doM m (4, key, to, val, was, no, most) = (m, (12, [], [])) := by simp [doM, hx]
   replace E := (E.trans e9.keep).step k114 dj3
   replace HSm := (HSm.ext e9).keep k114 dj1
   replace HS1 := (HS1.ext e9).keep k114 dj1
   replace HS2 := (HS2.ext e9).keep k114 dj1
   replace HS3 := (HS3.ext e9).keep k114 dj1
   replace HS4 := (HS4.ext e9).keep k114 dj1
   replace HB1 := (HB1.ext e9).keep k114 dj4
   refine ⟨_, _, rfl, ?_, ?_, E⟩
   ·
    rw [hd]; exact SlV.fx HSm _
   rw [hd]; exact an_err ⟨by decide, by decide⟩
  refine c_skip (n_then (c_seq (wp_reg zd (l_v (zmS rfl) (l_v (v_fieldAddr (off := 1) (ft := 26) zk rfl) (l_v (v_load zk rfl (by first | exact HB2.pv 1 _ rfl | exact HB1.pv 1 _ rfl | assumption)) ?_))))))
  refine l_v (v_fieldAddr (off := 3) (ft := 26) zk rfl) (l_v (v_load zk rfl (by first | exact HB2.pv 3 _ rfl | exact HB1.pv 3 _ rfl | assumption)) ?_)
  refine l_to (to_f3 zk (zvS rfl) (zvS rfl) (zvS rfl) (CallsR.mono (refset_c HSm HS1 HS3 hn) ?_))
  rintro u9 w9 ⟨HS9, e9⟩
  have := e9.size
  obtain ⟨a9, c9, rfl⟩ := HS9.shape
  refine l_v (v_build (pl := [(0, 1), (1, 1), (2, 1)]) (z := .agg #[.int .i64 0, .slice none 0 0, .slice none 0 0]) (zl := [.int .i64 0, .slice none 0 0, .slice none 0 0]) zk (by unfold kZero; kernel_rfl) rfl rfl (cells := [_, _, _]) rfl) ?_
  replace HB2 := HB2.ext e9
  refine l_v (zaS rfl) (l_to (to_storeA (n := 3) rfl rfl (zvA rfl) zk rfl dj6 HB2 dj5 ?_))
  rintro w115 HX115 k115 z115
  have := k115.size
  replace HB2 := HX115
  clear HX115
  try simp only [zS, Nat.zero_add, Nat.reduceAdd, List.drop_nil] at HB2
  refine l_nil (n_then (c_ret (r_blk (r_then (ret2tc (n := 3) rfl zq zq rfl zk HB2.pv rfl (zvS rfl) ?_)))))
  have hx : misM m key was no = false := by simpa [misM, hh] using h76
  have hd : doM m (4, key, to, val, was, no, most) = (setM m key val, an0) := by simp [doM, hx]
  replace E := (E.trans e9.keep).step k115 dj3
  replace HSm := (HSm.ext e9).keep k115 dj1
  replace HS1 := (HS1.ext e9).keep k115 dj1
  replace HS2 := (HS2.ext e9).keep k115 dj1
  replace HS3 := (HS3.ext e9).keep k115 dj1
  replace HS4 := (HS4.ext e9).keep k115 dj1
  replace HB1 := (HB1.ext e9).keep k115 dj4
  replace HS9 := HS9.keep k115 dj1
  refine ⟨_, _, rfl, ?_, ?_, E⟩
  ·
   rw [hd]; exact HS9.mono fun b _ h => h.imp (fun h => h.1) (fun h => by omega)
  rw [hd]; exact an0_ag
 have hk : k = 5 := by have h1 := dfalse h18; have h2 := dfalse h31; have h3 := dfalse h40; have h4 := dfalse h56; omega
 subst hk
 have h0 := (mayAk_most ha).1
 refine c_skip (n_blk (n_then (c_seq (wp_reg zd (l_v (zmS rfl) (l_v (v_fieldAddr (off := 1) (ft := 26) zk rfl) (l_v (v_load zk rfl (by first | exact HB2.pv 1 _ rfl | exact HB1.pv 1 _ rfl | assumption)) ?_)))))))
 refine l_v (v_fieldAddr (off := 2) (ft := 26) zk rfl) (l_v (v_load zk rfl (by first | exact HB2.pv 2 _ rfl | exact HB1.pv 2 _ rfl | assumption)) ?_)
 refine l_to (to_f3 zk (zvS rfl) (zvS rfl) (zvS rfl) (CallsR.mono (reffrom_c HSm HS1 HS2 zo) ?_))
 rintro u9 w9 ⟨HSp, e9⟩
 have := e9.size
 rw [← partM_from hm] at HSp
 obtain ⟨a9, c9, rfl⟩ := HSp.shape
 have hcp := SlV.cap_ge HSp
 have hmx := HSp.len_max
 replace HSp := HSp.mono (F' := fun b => (F b ∧ b < n0) ∨ (b2 < b ∧ b < w9.heap.size)) fun b hb h => h.imp (fun h => h) (fun h => ⟨by omega, hb⟩)
 refine l_v (zaS rfl) (l_nil (n_then (c_seq (c_seq (wp_reg zd (l_v (zmS rfl) (l_v (v_len (et := 50) zk rfl) ?_)))))))
 replace HB1 := HB1.ext e9
 replace HB2 := HB2.ext e9
 refine l_v (v_fieldAddr (off := 6) (ft := 3) zk rfl) (l_v (v_load zk rfl (by first | exact HB2.pv 6 _ rfl | exact HB1.pv 6 _ rfl | assumption)) ?_)
 refine l_v (v_leq rfl rfl) ?_
 replace E := E.trans e9.keep
 replace HSm := HSm.ext e9
 replace HS1 := HS1.ext e9
 replace HS2 := HS2.ext e9
 replace HS3 := HS3.ext e9
 replace HS4 := HS4.ext e9
 refine l_nil (n_then (c_cond rfl rfl (fun h96 => ?_) (fun h96 => ?_)))
 ·
  refine c_seq (wp_reg zd (l_v (zmS rfl) (l_v (zmS rfl) (l_v (v_build (pl := [(0, 1), (1, 1), (2, 1)]) (z := .agg #[.int .i64 0, .slice none 0 0, .slice none 0 0]) (zl := [.int .i64 0, .slice none 0 0, .slice none 0 0]) zk (by unfold kZero; kernel_rfl) rfl rfl (cells := [_, _, _]) rfl) ?_))))
  refine l_v (zaS rfl) (l_to (to_storeA (n := 3) rfl rfl (zvA rfl) zk rfl dj6 HB2 dj5 ?_))
  rintro w116 HX116 k116 z116
  have := k116.size
  replace HB2 := HX116
  clear HX116
  try simp only [zS, Nat.zero_add, Nat.reduceAdd, List.drop_nil] at HB2
  refine l_nil (n_then (c_ret (r_then (ret2tc (n := 3) rfl zq zq rfl zk HB2.pv rfl (zvS rfl) ?_))))
  have hd : doM m (5, key, to, val, was, no, most) = (m, (0, partM m key to, [])) := by simp [doM]; intro h; have := dtrue h96; omega
  replace E := E.step k116 dj3
  replace HSm := HSm.keep k116 dj1
  replace HS1 := HS1.keep k116 dj1
  replace HS2 := HS2.keep k116 dj1
  replace HS3 := HS3.keep k116 dj1
  replace HS4 := HS4.keep k116 dj1
  replace HB1 := HB1.keep k116 dj4
  replace HSp := HSp.keep k116 dj1
  refine ⟨_, _, rfl, ?_, ?_, E⟩
  ·
   rw [hd]; exact SlV.fx HSm _
  rw [hd]; exact AgV.mkAn (HSp.mono fun b _ h => h.imp (fun h => h.1) (fun h => by omega)) (SlV.nil _ _ _) ⟨by decide, by decide⟩
 have hk : most < (partM m key to).length := by have := dfalse h96; omega
 obtain ⟨k, rfl⟩ := Int.eq_ofNat_of_zero_le (show 0 ≤ most by omega)
 obtain ⟨p, hx, _⟩ := getE (l := partM m key to) (i := k - 1) zo
 have hpl := okP_len (mayMp_ok hm p (partM_sub.subset (List.mem_of_getElem? hx)))
 obtain ⟨q, cs, hqq, hF, _, HPq, hr⟩ := HSp.el hx
 subst hqq
 obtain ⟨a5, c5, a6, c6, rfl, HSk, HSv⟩ := tPr_cells hr
 refine c_skip (n_then (c_seq (wp_reg zd (l_v (zmS rfl) (l_v (v_fieldAddr (off := 6) (ft := 3) zk rfl) (l_v (v_load zk rfl (by first | exact HPq 6 _ rfl | exact pv_1 HPq | exact HB2.pv 6 _ rfl | exact HB1.pv 6 _ rfl | assumption)) ?_))))))
 refine l_v (v_slicePre (et := 50) (sz := 2) (h := k) zk zk rfl rfl (by first | rfl | omega) zo) ?_
 refine l_v (zaS rfl) (l_nil (n_then (c_seq (wp_reg zd (l_v (zmS rfl) (l_v (zmS rfl) (l_v (zmS rfl) (l_v (zmS rfl) (l_v (v_len (et := 50) zk rfl) ?_)))))))))
 refine l_v (v_sub rfl rfl (by first | exact wr_i64 zo zo | rfl)) ?_
 refine l_v (v_indexAddr (et := 50) (sz := 2) (k := k - 1) zk zk rfl rfl (by first | rfl | omega) zo) ?_
 refine l_v (v_fieldAddr (off := 0) (ft := 26) zk rfl) (l_v (v_load zk rfl (by first | exact HPq 0 _ rfl | exact HB2.pv 0 _ rfl | exact HB1.pv 0 _ rfl | assumption)) ?_)
 refine l_to (to_appNil (et := 5) (bytes := 1) (F := NoK) zk rfl (zvS rfl) HSk (fun cs z h => h) zo ?_)
 rintro v20 w20 HO20 e20
 have := e20.size
 obtain ⟨a20, c20, rfl⟩ := HO20.shape
 have zo_HO20 := fun (b : Nat) h => HO20.own_lt (b := b) h
 refine l_to (to_slice1 (t := tU8) (et := 5) (bytes := 1) zk zq (zvI rfl) (rep_u8 (F := NoK) 0 rfl) ?_)
 rintro b21 w21 zb21 HO21 e21 z21
 have := e21.size
 have zo_HO21 := fun (b : Nat) h => HO21.own_lt (b := b) h
 have HS21 := HO21.view.mono (F' := fun b => b21 ≤ b) fun b _ h => h.elim (fun h => h) (fun h => h.1.elim)
 replace HO20 := HO20.ext e21
 refine l_to (to_append (et := 5) (bytes := 1) zk (zvS rfl) HO20 (zvS rfl) HS21 (flat_u8.to) (by first | omega | (simp; done) | (simp; omega)) (by simp only [maxLen]; first | omega | (simp; done) | (simp; omega)) zo ?_)
 rintro a22 n22 c22 w22 HO22 hn22 k22 h22 i22
 have := k22.size
 subst hn22
 have zo_HO22 := fun (b : Nat) h => HO22.own_lt (b := b) h
 refine l_v (v_build (pl := [(0, 1), (1, 1), (2, 1)]) (z := .agg #[.int .i64 0, .slice none 0 0, .slice none 0 0]) (zl := [.int .i64 0, .slice none 0 0, .slice none 0 0]) zk (by unfold kZero; kernel_rfl) rfl rfl (cells := [_, _, _]) rfl) ?_
 replace HB2 := ((HB2.ext e20).ext e21).keep k22 (by intro h; have he0 := h; (try dsimp only at h); (try simp only [Value.ownBlock, Option.some.injEq] at h); first | omega | (have := (HO20).own_lt he0; omega) | (have := zo_HO20 _ he0; omega) | (have he := he0; have := zo_HO20 _ he; omega))
 refine l_v (zaS rfl) (l_to (to_storeA (n := 3) rfl rfl (zvA rfl) zk rfl dj6 HB2 dj5 ?_))
 rintro w117 HX117 k117 z117
 have := k117.size
 replace HB2 := HX117
 clear HX117
 try simp only [zS, Nat.zero_add, Nat.reduceAdd, List.drop_nil] at HB2
 refine l_nil (n_then (c_ret (ret2tc (n := 3) rfl zq zq rfl zk HB2.pv rfl (zvS rfl) ?_)))
 replace E := (((E.trans e20.keep).trans e21.keep).step k22 (by intro i hi he; have he0 := he; (try dsimp only [NoK] at hi he ⊢); (try simp only [Value.ownBlock, Option.some.injEq] at he); first | exact he.elim | omega | exact he | (have := (HO20).own_lt he0; omega) | (have := zo_HO20 _ he0; omega) | (have := (HO20).own_lt he0; rcases hi with hi | hi <;> omega) | (have := zo_HO20 _ he; omega))).step k117 (by intro i hi he; have he0 := he; (try dsimp only [NoK] at hi he ⊢); (try simp only [Value.ownBlock, Option.some.injEq] at he); first | exact he.elim | omega | exact he | (have := zo_HO20 _ he; omega))
 replace HSm := (((HSm.ext e20).ext e21).keep k22 (by intro i _ hi he; have he0 := he; (try dsimp only [NoK, AllB] at hi he); (try simp only [Value.ownBlock, Option.some.injEq] at he); first | exact hi.elim | exact he.elim | omega | (rcases hi with hi | hi <;> omega) | (rcases he with he | he <;> omega) | (have := (HO20).own_lt he0; omega) | (have := zo_HO20 _ he0; omega) | (have := (HO20).own_lt he0; rcases hi with hi | hi <;> omega) | (have := zo_HO20 _ he; omega))).keep k117 (by intro i _ hi he; have he0 := he; (try dsimp only [NoK, AllB] at hi he); (try simp only [Value.ownBlock, Option.some.injEq] at he); first | exact hi.elim | exact he.elim | omega | (rcases hi with hi | hi <;> omega) | (rcases he with he | he <;> omega) | (have := zo_HO20 _ he; omega))
 replace HS1 := (((HS1.ext e20).ext e21).keep k22 (by intro i _ hi he; have he0 := he; (try dsimp only [NoK, AllB] at hi he); (try simp only [Value.ownBlock, Option.some.injEq] at he); first | exact hi.elim | exact he.elim | omega | (rcases hi with hi | hi <;> omega) | (rcases he with he | he <;> omega) | (have := (HO20).own_lt he0; omega) | (have := zo_HO20 _ he0; omega) | (have := (HO20).own_lt he0; rcases hi with hi | hi <;> omega) | (have := zo_HO20 _ he; omega))).keep k117 (by intro i _ hi he; have he0 := he; (try dsimp only [NoK, AllB] at hi he); (try simp only [Value.ownBlock, Option.some.injEq] at he); first | exact hi.elim | exact he.elim | omega | (rcases hi with hi | hi <;> omega) | (rcases he with he | he <;> omega) | (have := zo_HO20 _ he; omega))
 replace HS2 := (((HS2.ext e20).ext e21).keep k22 (by intro i _ hi he; have he0 := he; (try dsimp only [NoK, AllB] at hi he); (try simp only [Value.ownBlock, Option.some.injEq] at he); first | exact hi.elim | exact he.elim | omega | (rcases hi with hi | hi <;> omega) | (rcases he with he | he <;> omega) | (have := (HO20).own_lt he0; omega) | (have := zo_HO20 _ he0; omega) | (have := (HO20).own_lt he0; rcases hi with hi | hi <;> omega) | (have := zo_HO20 _ he; omega))).keep k117 (by intro i _ hi he; have he0 := he; (try dsimp only [NoK, AllB] at hi he); (try simp only [Value.ownBlock, Option.some.injEq] at he); first | exact hi.elim | exact he.elim | omega | (rcases hi with hi | hi <;> omega) | (rcases he with he | he <;> omega) | (have := zo_HO20 _ he; omega))
 replace HS3 := (((HS3.ext e20).ext e21).keep k22 (by intro i _ hi he; have he0 := he; (try dsimp only [NoK, AllB] at hi he); (try simp only [Value.ownBlock, Option.some.injEq] at he); first | exact hi.elim | exact he.elim | omega | (rcases hi with hi | hi <;> omega) | (rcases he with he | he <;> omega) | (have := (HO20).own_lt he0; omega) | (have := zo_HO20 _ he0; omega) | (have := (HO20).own_lt he0; rcases hi with hi | hi <;> omega) | (have := zo_HO20 _ he; omega))).keep k117 (by intro i _ hi he; have he0 := he; (try dsimp only [NoK, AllB] at hi he); (try simp only [Value.ownBlock, Option.some.injEq] at he); first | exact hi.elim | exact he.elim | omega | (rcases hi with hi | hi <;> omega) | (rcases he with he | he <;> omega) | (have := zo_HO20 _ he; omega))
 replace HS4 := (((HS4.ext e20).ext e21).keep k22 (by intro i _ hi he; have he0 := he; (try dsimp only [NoK, AllB] at hi he); (try simp only [Value.ownBlock, Option.some.injEq] at he); first | exact hi.elim | exact he.elim | omega | (rcases hi with hi | hi <;> omega) | (rcases he with he | he <;> omega) | (have := (HO20).own_lt he0; omega) | (have := zo_HO20 _ he0; omega) | (have := (HO20).own_lt he0; rcases hi with hi | hi <;> omega) | (have := zo_HO20 _ he; omega))).keep k117 (by intro i _ hi he; have he0 := he; (try dsimp only [NoK, AllB] at hi he); (try simp only [Value.ownBlock, Option.some.injEq] at he); first | exact hi.elim | exact he.elim | omega | (rcases hi with hi | hi <;> omega) | (rcases he with he | he <;> omega) | (have := zo_HO20 _ he; omega))
 replace HB1 := (((HB1.ext e20).ext e21).keep k22 (by intro h; have he0 := h; (try dsimp only at h); (try simp only [Value.ownBlock, Option.some.injEq] at h); first | omega | (have := (HO20).own_lt he0; omega) | (have := zo_HO20 _ he0; omega) | (have he := he0; have := zo_HO20 _ he; omega))).keep k117 (by intro h; have he0 := h; (try dsimp only at h); (try simp only [Value.ownBlock, Option.some.injEq] at h); first | omega | (have he := he0; have := zo_HO20 _ he; omega))
 replace HSp := (((HSp.ext e20).ext e21).keep k22 (by intro i _ hi he; have he0 := he; (try dsimp only [NoK, AllB] at hi he); (try simp only [Value.ownBlock, Option.some.injEq] at he); first | exact hi.elim | exact he.elim | omega | (rcases hi with hi | hi <;> omega) | (rcases he with he | he <;> omega) | (have := (HO20).own_lt he0; omega) | (have := zo_HO20 _ he0; omega) | (have := (HO20).own_lt he0; rcases hi with hi | hi <;> omega) | (have := zo_HO20 _ he; omega))).keep k117 (by intro i _ hi he; have he0 := he; (try dsimp only [NoK, AllB] at hi he); (try simp only [Value.ownBlock, Option.some.injEq] at he); first | exact hi.elim | exact he.elim | omega | (rcases hi with hi | hi <;> omega) | (rcases he with he | he <;> omega) | (have := zo_HO20 _ he; omega))
 replace HPq := (HPq.ext e20).ext e21
 replace HSk := (HSk.ext e20).ext e21
 replace HS21 := HS21.keep k22 (by intro i _ hi he; have he0 := he; (try dsimp only [NoK, AllB] at hi he); (try simp only [Value.ownBlock, Option.some.injEq] at he); first | exact hi.elim | exact he.elim | omega | (rcases hi with hi | hi <;> omega) | (rcases he with he | he <;> omega) | (have := (HO20).own_lt he0; omega) | (have := zo_HO20 _ he0; omega) | (have := (HO20).own_lt he0; rcases hi with hi | hi <;> omega) | (have := zo_HO20 _ he; omega))
 replace HO22 := HO22.keep k117 (by intro i ho he; have he0 := he; have ho0 := ho; (try dsimp only [NoK] at he); (try simp only [Value.ownBlock, Option.some.injEq, reduceCtorEq] at ho); (try simp only [Value.ownBlock, Option.some.injEq, reduceCtorEq] at he); first | exact he.elim | exact ho.elim | omega | (have := zo_HO22 _ ho0; omega) | (have := zo_HO20 _ he; omega)) (by intro i _ hi _ he; have he0 := he; have hi := hi; have he := he; (try dsimp only [NoK, AllB] at hi he); (try simp only [Value.ownBlock, Option.some.injEq, reduceCtorEq] at he); all_goals first | exact hi.elim | exact hi.1.elim | exact he.elim | omega | (rcases hi with hi | hi <;> omega) | (rcases he with he | he <;> omega) | (have := zo_HO20 _ he; omega))
 have hd : doM m (5, key, to, val, was, no, (k : Int)) = (m, (0, (partM m key to).take k, p.1 ++ [0])) := by
  simp only [doM]; rw [if_neg zo, if_neg zo, if_neg zo, if_neg zo, if_neg zo, show ((k : Nat) : Int).toNat = k by omega, hx]
 refine ⟨_, _, rfl, ?_, ?_, E⟩
 ·
  rw [hd]; exact SlV.fx HSm _
 rw [hd]
 have h1 := HSp.pre (h := k) zo
 exact AgV.mkAn' (a := (0, (partM m key to).take k, p.1 ++ [0])) (by rw [show ((0 : Int), (partM m key to).take k, p.1 ++ [(0 : UInt8)]).2.1 = (partM m key to).take k from rfl]; exact h1.mono fun b _ h => h.imp (fun h => h.1) (fun h => by omega)) (HO22.view.mono fun b _ h => h.elim (fun h => .inr zo) (fun h => h.elim)) ⟨by simp, by simp⟩
end Go.Proofs.Ytifnkmflmgnfjaa
