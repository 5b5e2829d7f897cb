/- A part of the proof: steps and lemmas for the walks through the given program. -/
import Derived.Test.YtogafjlbpodgjaaGreatC11
namespace Go.Proofs.YtogafjlbpodgjaaGreat
open Go.Vc
set_option linter.unusedVariables false
set_option linter.unusedSimpArgs false
set_option maxRecDepth 100000

theorem rdBytes_wB' {x r : List UInt8} {most : Nat} (hl : x.length ≤ most) (hm : most < 18446744073709551616) : rdBytes most (wBytes x ++ r) = .ok (x, r) := by
  rw [rdBytes, tryRd, wBytes, List.append_assoc, rdNum_wNum zo]
  simp only [hl, if_true]
  rw [rdSome, if_pos (by simp)]
  simp
theorem rdBytes_le' {m : Nat} {l : List UInt8} {x : List UInt8} {r : List UInt8} (h : rdBytes m l = .ok (x, r)) : r.length ≤ l.length ∧ x.length ≤ m ∧ l = wBytes x ++ r := by
  rw [rdBytes, tryRd] at h
  rcases hd : rdNum l with _ | ⟨n, l'⟩
  · rw [hd] at h; cases h
  · rw [hd] at h
    simp only [] at h
    have hf := rdNum_form hd
    by_cases hn : n ≤ m
    · rw [if_pos hn, rdSome] at h
      by_cases h2 : n ≤ l'.length
      · rw [if_pos h2] at h
        cases h
        have hl := congrArg List.length hf
        rw [List.length_append] at hl
        have e1 : (l'.take n).length = n := by rw [List.length_take]; omega
        refine ⟨by rw [List.length_drop]; omega, by omega, ?_⟩
        rw [wBytes, e1, List.append_assoc, List.take_append_drop]; exact hf
      · rw [if_neg h2] at h; cases h
    · rw [if_neg hn] at h; cases h
theorem numV_an (l : List UInt8) : ∃ (n : Nat) (e : Int), numV l = .tuple #[.int .u64 n, .int .i64 e] ∧ n < 18446744073709551616 ∧ (rest l).length ≤ l.length ∧ ((e = 0 ∧ rdNum l = some (n, rest l)) ∨ (e = 4 ∧ n = 0 ∧ rest l = l ∧ rdNum l = none)) := by
  rcases hd : rdNum l with _ | ⟨n, r⟩
  · exact ⟨0, 4, by rw [numV, hd]; rfl, by decide, by rw [rest, hd]; exact Nat.le_refl _, .inr ⟨rfl, rfl, by rw [rest, hd], rfl⟩⟩
  · have hr : rest l = r := by rw [rest, hd]
    have := congrArg List.length (rdNum_form hd)
    rw [List.length_append] at this
    exact ⟨n, 0, by rw [numV, hd], rdNum_lt hd, by rw [hr]; omega, .inl ⟨rfl, by rw [hr]⟩⟩
/-- a number as the program has it, whatever it is -/
def cvI (n : Nat) : Int := IntKind.i64.wrap (n : Int)
theorem cvI_eq {n : Nat} : cvI n = if (n : Int) % 18446744073709551616 ≥ 9223372036854775808 then (n : Int) % 18446744073709551616 - 18446744073709551616 else (n : Int) % 18446744073709551616 := by
  simp [cvI, IntKind.wrap, IntKind.bits, IntKind.signed]
theorem cvI_lt {n : Nat} (h : n < 9223372036854775808) : cvI n = n := by rw [cvI_eq, if_neg zo]; omega
theorem cvI_1 {n : Nat} (h : n < 18446744073709551616) {k : Nat} (hk : k < 9223372036854775808) : cvI n = k ↔ n = k := by
  rw [cvI_eq]; split <;> omega
theorem cvI_i {n : Nat} : I64' (cvI n) := by rw [cvI_eq]; split <;> omega
def finI (x : IkV) (l : List UInt8) : Option IkV := if l = [] ∧ mayIk x = true then some x else none
/-- the entry that bytes are, or none -/
def rdIk (l : List UInt8) : Option IkV := match rdBytes 32 l with
  | .error _ => none
  | .ok (key, l1) => match rdNum l1 with
    | none => none
    | some (sq, l2) => match rdNum l2 with
      | none => none
      | some (kd, l3) => if kd = 1 then (match rdBytes 65536 l3 with
        | .error _ => none
        | .ok (v, l4) => finI (key, sq, kd, v) l4) else finI (key, sq, kd, []) l3
theorem finI_ok {x y : IkV} {l : List UInt8} (h : finI x l = some y) : l = [] ∧ mayIk x = true ∧ x = y := by
  unfold finI at h
  split at h
  · next h1 => cases h; exact ⟨h1.1, h1.2, rfl⟩
  · cases h
theorem rdIk_ok {l : List UInt8} {x : IkV} (h : rdIk l = some x) : mayIk x = true ∧ ikW x = l := by
  rw [rdIk] at h
  rcases h1 : rdBytes 32 l with e | ⟨key, l1⟩
  · rw [h1] at h; cases h
  · rw [h1] at h; simp only [] at h
    rcases h2 : rdNum l1 with _ | ⟨sq, l2⟩
    · rw [h2] at h; cases h
    · rw [h2] at h; simp only [] at h
      rcases h3 : rdNum l2 with _ | ⟨kd, l3⟩
      · rw [h3] at h; cases h
      · rw [h3] at h; simp only [] at h
        have f1 := (rdBytes_le' h1).2.2
        have f2 := rdNum_form h2
        have f3 := rdNum_form h3
        by_cases hk : kd = 1
        · rw [if_pos hk] at h
          rcases h4 : rdBytes 65536 l3 with e | ⟨v, l4⟩
          · rw [h4] at h; cases h
          · rw [h4] at h
            obtain ⟨rfl, hm, rfl⟩ := finI_ok h
            have f4 := (rdBytes_le' h4).2.2
            refine ⟨hm, ?_⟩
            rw [f1, f2, f3, f4]; subst hk; simp [ikW]
        · rw [if_neg hk] at h
          obtain ⟨rfl, hm, rfl⟩ := finI_ok h
          refine ⟨hm, ?_⟩
          rw [f1, f2, f3]; simp [ikW]; omega
theorem rdIk_back {x : IkV} (hm : mayIk x = true) : rdIk (ikW x) = some x := by
  obtain ⟨key, seq, kind, val⟩ := x
  have hm2 := hm
  simp only [mayIk, Bool.and_eq_true, decide_eq_true_eq, Bool.or_eq_true] at hm2
  obtain ⟨⟨⟨⟨⟨g1, g2⟩, g3⟩, g4⟩, g5⟩, g6⟩ := hm2
  obtain ⟨sq, rfl⟩ := Int.eq_ofNat_of_zero_le (show 0 ≤ seq by omega)
  obtain ⟨kd, rfl⟩ := Int.eq_ofNat_of_zero_le (show 0 ≤ kind by rcases g6 with h | ⟨h, _⟩ <;> omega)
  have hkd : kd ≤ 2 := by rcases g6 with h | ⟨h, _⟩ <;> omega
  rw [rdIk]
  simp only [ikW, List.append_assoc, Int.toNat_natCast]
  rw [rdBytes_wB' g2 zq]; simp only []
  rw [rdNum_wNum zo]; simp only []
  rw [rdNum_wNum zo]; simp only []
  by_cases hk : kd = 1
  · subst hk
    rw [if_pos rfl, if_pos (show ((1 : Nat) : Int) = 1 from rfl)]
    have := rdBytes_wB' (x := val) (r := []) (most := 65536) g5 zq
    rw [List.append_nil] at this
    rw [this]
    exact if_pos ⟨rfl, hm⟩
  · rw [if_neg hk, if_neg zo]
    have hv : val = [] := by
      rcases g6 with h | ⟨_, h⟩
      · omega
      · simpa using h
    subst hv
    exact if_pos ⟨rfl, hm⟩
theorem rdIk_inv {l : List UInt8} {x : IkV} (h : rdIk l = some x) : ∃ key l1 sq l2 kd l3, rdBytes 32 l = .ok (key, l1) ∧ rdNum l1 = some (sq, l2) ∧ rdNum l2 = some (kd, l3) ∧ sq ≤ 2147483647 ∧ kd ≤ 2 ∧
    ((kd = 1 ∧ ∃ v, rdBytes 65536 l3 = .ok (v, []) ∧ mayIk (key, sq, kd, v) = true) ∨ (kd ≠ 1 ∧ l3 = [] ∧ mayIk (key, sq, kd, []) = true)) := by
  have hb : ∀ {key : List UInt8} {sq kd : Nat} {v : List UInt8}, mayIk (key, (sq : Int), (kd : Int), v) = true → sq ≤ 2147483647 ∧ kd ≤ 2 := by
    intro key sq kd v hm
    simp only [mayIk, Bool.and_eq_true, decide_eq_true_eq, Bool.or_eq_true] at hm
    omega
  rw [rdIk] at h
  rcases h1 : rdBytes 32 l with e | ⟨key, l1⟩
  · rw [h1] at h; cases h
  · rw [h1] at h; simp only [] at h
    rcases h2 : rdNum l1 with _ | ⟨sq, l2⟩
    · rw [h2] at h; cases h
    · rw [h2] at h; simp only [] at h
      rcases h3 : rdNum l2 with _ | ⟨kd, l3⟩
      · rw [h3] at h; cases h
      · rw [h3] at h; simp only [] at h
        by_cases hk : kd = 1
        · rw [if_pos hk] at h
          rcases h4 : rdBytes 65536 l3 with e | ⟨v, l4⟩
          · rw [h4] at h; cases h
          · rw [h4] at h
            obtain ⟨rfl, hm, rfl⟩ := finI_ok h
            exact ⟨key, l1, sq, l2, kd, l3, rfl, h2, h3, (hb hm).1, (hb hm).2, .inl ⟨hk, v, h4, hm⟩⟩
        · rw [if_neg hk] at h
          obtain ⟨rfl, hm, rfl⟩ := finI_ok h
          exact ⟨key, l1, sq, l2, kd, [], rfl, h2, h3, (hb hm).1, (hb hm).2, .inr ⟨hk, rfl, hm⟩⟩
theorem mayIk_cv {key v : List UInt8} {n kd : Nat} (hn : n ≤ 2147483647) (hk : kd < 18446744073709551616) (h : mayIk (key, cvI n, cvI kd, v) = true) : cvI n = n ∧ cvI kd = kd ∧ kd ≤ 2 := by
  have h1 := cvI_lt (n := n) zo
  simp only [mayIk, Bool.and_eq_true, decide_eq_true_eq, Bool.or_eq_true] at h
  rcases h.2 with h2 | ⟨h2, _⟩
  · have := (cvI_1 hk (k := 1) zq).1 h2; subst this; exact ⟨h1, h2, by omega⟩
  · have := (cvI_1 hk (k := 2) zq).1 h2; subst this; exact ⟨h1, h2, by omega⟩
def ik0 : IkV := ([], 0, 0, [])
theorem ik0_ag {w : World} {F : Nat → Prop} : AgV tIk w F (.agg #[.slice none 0 0, .int .i64 0, .int .i64 0, .slice none 0 0]) ik0 := ⟨_, rfl, tIk_mk (SlV.nil _ _ _) (SlV.nil _ _ _) ⟨by decide, by decide⟩ ⟨by decide, by decide⟩⟩
set_option maxHeartbeats 4000000 in
theorem iRead_c {w : World} {F : Nat → Prop} {v : Value} {l : List UInt8} (HS1 : Bv w F v l) (hl : l.length ≤ 1000000) : CallsR Tryz.prog 83 #[v] w (fun o w' => (∃ u x e, o = .tuple #[u, .int .i64 e] ∧ AgV tIk w' (fun i => w.heap.size ≤ i) u x ∧ ((e = 0 ∧ rdIk l = some x) ∨ (e = 4 ∧ x = ik0 ∧ rdIk l = none))) ∧ Ext w w') := by
 obtain ⟨a0, c0, rfl⟩ := HS1.shape
 refine enter 76 Tryz.func83 rfl rfl (by simp) ?_
 refine c_seq ?_
 have E := Keep.refl (K := NoK) w
 replace HS1 := HS1.all
 refine wp_reg zd (l_to (to_alloc (z := (.agg #[.slice none 0 0, .int .i64 0, .int .i64 0, .slice none 0 0])) (by unfold kZero; kernel_rfl) ?_))
 rintro b2 w2 zb2 HB2 e2 z2
 have := e2.size
 try simp only [Value.cells] at HB2
 replace HS1 := HS1.ext e2
 refine l_v (v_assign rfl) (l_nil (n_then (c_seq (wp_reg zd (l_v (zmS rfl) (l_to (to_f1 zk (zvS rfl) (CallsR.mono (Open_c HS1 zo) ?_))))))))
 rintro _ w11 ⟨b4, rfl, HR4, hb4, e11, zb4⟩
 have := e11.size
 refine l_v (zaP rfl) (l_nil (n_then (c_seq (wp_reg zd (l_v (zmP rfl) (l_to (to_f2 zk (zvP rfl) (zvI rfl) (CallsR.mono (Bytes2_c (most := 32) HR4 (fun k hk => hk.2) zq zq zo) ?_))))))))
 rintro r w12 ⟨hr12, k12⟩
 have := k12.size
 obtain ⟨a5, c5, er5, fr, l1, rfl, HO5, HR5, hx5⟩ := TryV_any hr12
 have HS5 := HO5.view.mono (F' := fun i => w2.heap.size ≤ i ∧ i ≠ b4 ∧ i < w12.heap.size) (fun i hi h => h.elim (fun h => by omega) (fun h => by omega))
 replace E := (E.trans e2.keep).trans e11.keep
 replace HS1 := HS1.ext e11
 replace HB2 := HB2.ext e11
 have hl1 : l1.length ≤ l.length := by
  rcases hx5 with ⟨_, hq⟩ | ⟨_, _, h, _⟩
  ·
   exact (rdBytes_le' (m := 32) hq).1
  rw [h]; omega
 have zo_HO5 := fun (b : Nat) h => HO5.own_lt (b := b) h
 refine l_v (zmT rfl) (l_v (v_extract (t := .slice _ _ _) rfl rfl) (l_v (v_extract (t := .int _ _) rfl rfl) (l_v (zaS rfl) (l_v (zaI rfl) (l_nil (n_then (c_seq (wp_reg zd (l_v (zmP rfl) ?_)))))))))
 refine l_to (to_f1 zk (zvP rfl) (CallsR.mono (rNumber_c HR5 (fun h => by omega)) ?_))
 rintro o13 w13 ⟨ho13, HR6, k13⟩
 have := k13.size
 obtain ⟨n, e6, hn6, hn6b, hr6, hx6⟩ := numV_an l1
 rw [hn6] at ho13
 subst ho13
 refine l_v (zmT rfl) (l_v (v_extract (t := .int _ _) rfl rfl) (l_v (v_extract (t := .int _ _) rfl rfl) (l_v (zaI rfl) (l_v (zaI rfl) (l_nil (n_then (c_seq (wp_reg zd (l_v (zmP rfl) ?_)))))))))
 refine l_to (to_f1 zk (zvP rfl) (CallsR.mono (rNumber_c HR6 (fun h => by omega)) ?_))
 rintro o14 w14 ⟨ho14, HR7, k14⟩
 have := k14.size
 obtain ⟨kd, e7, hn7, hn7b, hr7, hx7⟩ := numV_an (rest l1)
 rw [hn7] at ho14
 subst ho14
 refine l_v (zmT rfl) (l_v (v_extract (t := .int _ _) rfl rfl) (l_v (v_extract (t := .int _ _) rfl rfl) (l_v (zaI rfl) (l_v (zaI rfl) (l_nil (n_then (c_seq (wp_reg zd (l_v (zmS rfl) ?_)))))))))
 refine l_v (zmI rfl) (l_v (v_conv (t := (cvI n)) (ds := .int .u64) zk zk rfl (rfl)) ?_)
 refine l_v (zmI rfl) (l_v (v_conv (t := (cvI kd)) (ds := .int .u64) zk zk rfl (rfl)) ?_)
 refine l_v (v_build (pl := [(0, 1), (1, 1), (2, 1), (3, 1)]) (z := .agg #[.slice none 0 0, .int .i64 0, .int .i64 0, .slice none 0 0]) (zl := [.slice none 0 0, .int .i64 0, .int .i64 0, .slice none 0 0]) zk (by unfold kZero; kernel_rfl) rfl rfl (cells := [_, _, _, _]) rfl) ?_
 refine l_to (to_alloc (z := (.agg #[.slice none 0 0, .int .i64 0, .int .i64 0, .slice none 0 0])) (by unfold kZero; kernel_rfl) ?_)
 rintro b11 w15 zb11 HB11 e15 z15
 have := e15.size
 try simp only [Value.cells] at HB11
 refine l_to (to_storeA (n := 4) rfl rfl (zvA rfl) zk rfl dj6 HB11 dj5 ?_)
 rintro w101 HX101 k101 z101
 have := k101.size
 replace HB11 := HX101
 clear HX101
 try simp only [zS, Nat.zero_add, Nat.reduceAdd, List.drop_nil] at HB11
 replace HB2 := ((((HB2.keep k12 dj4).keep k13 dj4).keep k14 dj4).ext e15).keep k101 dj4
 refine l_nil (n_then (c_seq (c_seq (wp_reg zd (l_v (v_fieldAddr (off := 2) (ft := 91) zk rfl) (l_v (v_load zk rfl (by first | exact HB11.pv 2 _ rfl | exact HB2.pv 2 _ rfl | assumption)) ?_))))))
 refine l_v (v_eql rfl rfl) ?_
 replace E := ((((E.step k12 dj3).step k13 dj3).step k14 dj3).trans e15.keep).step k101 dj3
 replace HS1 := ((((HS1.keep k12 dj1).keep k13 dj1).keep k14 dj1).ext e15).keep k101 dj1
 replace HS5 := (((HS5.keep k13 dj1).keep k14 dj1).ext e15).keep k101 dj1
 replace HR7 := (HR7.ext e15).keep k101 dj7 (by intro i hi he; have hi0 := hi; have hi := hi; have he := he; (try dsimp only [NoK] at hi he); first | exact he.elim | omega | (have := hF i hi0; omega))
 refine l_nil (n_then (c_cond rfl rfl (fun hk => ?_) (fun hk => ?_)))
 ·
  have hk1 : kd = 1 := (cvI_1 hn7b (k := 1) zq).1 (dtrue hk)
  obtain ⟨n15, hn15⟩ : ∃ n, n = w101.heap.size := ⟨_, rfl⟩
  refine c_seq (wp_reg zd (l_v (zmP rfl) (l_to (to_f2 zk (zvP rfl) (zvI rfl) (CallsR.mono (Bytes2_c (most := 65536) HR7 (fun k hk => hk.2) zq zq zo) ?_)))))
  rintro r16 w16 ⟨hr16, k16⟩
  have := k16.size
  obtain ⟨a8, c8, er8, fv, l4, rfl, HO8, HR8, hx8⟩ := TryV_any hr16
  have HS8 := HO8.view.mono (F' := fun i => n15 ≤ i) (fun i _ h => h.elim (fun h => by omega) (fun h => by omega))
  have zo_HO8 := fun (b : Nat) h => HO8.own_lt (b := b) h
  refine l_v (zmT rfl) (l_v (v_extract (t := .slice _ _ _) rfl rfl) (l_v (v_extract (t := .int _ _) rfl rfl) (l_v (zaS rfl) (l_v (zaI rfl) (l_nil (n_then (c_seq (c_seq (wp_reg zd ?_)))))))))
  refine l_v (zmI rfl) (l_v (v_neq rfl rfl) ?_)
  replace E := E.step k16 dj3
  replace HS1 := HS1.keep k16 dj1
  replace HB2 := HB2.keep k16 dj4
  replace HS5 := HS5.keep k16 dj1
  replace HB11 := HB11.keep k16 dj4
  refine l_nil (n_then (c_cond rfl rfl (fun he => ?_) (fun he => ?_)))
  ·
   refine c_seq (wp_reg zd (l_v (v_build (pl := [(0, 1), (1, 1), (2, 1), (3, 1)]) (z := .agg #[.slice none 0 0, .int .i64 0, .int .i64 0, .slice none 0 0]) (zl := [.slice none 0 0, .int .i64 0, .int .i64 0, .slice none 0 0]) zk (by unfold kZero; kernel_rfl) rfl rfl (cells := [_, _, _, _]) rfl) ?_))
   refine l_to (to_storeA (n := 4) rfl rfl (zvA rfl) zk rfl dj6 HB2 dj5 ?_)
   rintro w102 HX102 k102 z102
   have := k102.size
   replace HB2 := HX102
   clear HX102
   try simp only [zS, Nat.zero_add, Nat.reduceAdd, List.drop_nil] at HB2
   refine l_v (v_assign rfl) (l_nil (n_then (c_ret (r_then (r_then (ret2cv (n := 4) rfl zq zq rfl zk HB2.pv rfl (zvI rfl) ?_))))))
   replace E := E.step k102 dj3
   refine ⟨⟨_, ik0, 4, rfl, ik0_ag, .inr ⟨rfl, rfl, ?_⟩⟩, E⟩
   replace HS1 := HS1.keep k102 dj1
   replace HS5 := HS5.keep k102 dj1
   replace HB11 := HB11.keep k102 dj4
   replace HR8 := HR8.keep k102 dj7 (by intro i hi he; have hi0 := hi; have hi := hi; have he := he; (try dsimp only [NoK] at hi he); first | exact he.elim | omega | (have := hF i hi0; omega))
   replace HS8 := HS8.keep k102 dj1
   cases hrd : rdIk l with
   | none => rfl
   | some x =>
    exfalso
    obtain ⟨key, y1, sq, y2, kk, y3, i1, i2, i3, i4, i5, i6⟩ := rdIk_inv hrd
    rcases hx5 with ⟨_, hq5⟩ | ⟨_, _, _, _, _, hq5⟩
    ·
     rw [show rdBytes 32 l = _ from hq5] at i1; cases i1
     rcases hx6 with ⟨_, hq6⟩ | ⟨_, _, _, hq6⟩
     ·
      rw [hq6] at i2; cases i2
      rcases hx7 with ⟨_, hq7⟩ | ⟨_, _, _, hq7⟩
      ·
       rw [hq7] at i3; cases i3
       rcases i6 with ⟨_, v, i7, _⟩ | ⟨i7, _⟩
       ·
        rcases hx8 with ⟨h8, _⟩ | ⟨_, _, _, _, _, hq8⟩
        ·
         rw [h8] at he; cases he
        rw [show rdBytes 65536 _ = _ from hq8] at i7; cases i7
       exact i7 hk1
      rw [hq7] at i3; cases i3
     rw [hq6] at i2; cases i2
    rw [show rdBytes 32 l = _ from hq5] at i1; cases i1
  refine c_skip (n_then (wp_reg zd (l_v (zmS rfl) (l_v (v_fieldAddr (off := 3) (ft := 24) zk rfl) (l_to (to_store rfl rfl (zvS rfl) rfl zk HB11 dj5 ?_))))))
  rintro w103 HX103 k103 z103
  have := k103.size
  replace HB11 := HX103
  clear HX103
  try simp only [zS, Nat.zero_add, Nat.reduceAdd, List.drop_nil] at HB11
  refine l_nil (n_then (c_seq (c_seq ?_)))
  replace HS5 := HS5.keep k103 dj1
  replace HS8 := HS8.keep k103 dj1
  have HG9 : AgV tIk _ (fun i => w2.heap.size ≤ i ∧ i ≠ b4) (.agg #[_, _, _, _]) (fr, cvI n, cvI kd, fv) := ⟨_, rfl, tIk_mk (HS5.mono fun i _ h => ⟨h.1, h.2.1⟩) (HS8.mono fun i _ h => by omega) cvI_i cvI_i⟩
  refine wp_reg zd (l_v (zmI rfl) (l_v (v_neq rfl rfl) ?_))
  refine l_v (zmB rfl) (l_g1 rfl rfl (fun hG => zmI rfl) (l_g1 rfl rfl (fun hG => v_neq (gd hG rfl) rfl) ?_))
  refine l_v (v_or rfl rfl) ?_
  refine l_v (zmB rfl) (l_g1 rfl rfl (fun hG => zmI rfl) (l_g1 rfl rfl (fun hG => v_neq (gd hG rfl) rfl) ?_))
  refine l_v (v_or rfl rfl) ?_
  replace HR8 := HR8.keep k103 dj7 (by intro i hi he; have hi0 := hi; have hi := hi; have he := he; (try dsimp only [NoK] at hi he); first | exact he.elim | omega | (have := hF i hi0; omega))
  refine l_v (zmB rfl) (l_g1 rfl rfl (fun hG => zmP rfl) (l_g1f rfl rfl (fun hG => to_f1 zk (gd hG rfl) (End_c HR8)) ?_))
  rintro w104 e104
  have := e104.size
  refine l_g1 rfl rfl (fun hG => v_neq (gd hG rfl) rfl) ?_
  refine l_v (v_or rfl rfl) ?_
  refine l_v (zmB rfl) (l_g1 rfl rfl (fun hG => zmI rfl) (l_g1 rfl rfl (fun hG => v_gtr (gd hG rfl) rfl) ?_))
  refine l_v (v_or rfl rfl) ?_
  replace HB2 := (HB2.keep k103 dj4).ext e104
  replace HB11 := HB11.ext e104
  refine l_v (zmB rfl) (l_g1 rfl rfl (fun hG => v_loadA zk rfl (by first | exact HB11.pv | exact HB2.pv | assumption) rfl) ?_)
  replace HG9 := HG9.ext e104
  refine l_g1f rfl rfl (fun hG => to_f1 zk (gd hG rfl) (iMay_c HG9)) ?_
  rintro w105 e105
  have := e105.size
  refine l_g1 rfl rfl (fun hG => v_not (gd hG rfl)) ?_
  refine l_v (v_or rfl rfl) ?_
  replace E := ((E.step k103 dj3).trans e104.keep).trans e105.keep
  replace HS1 := ((HS1.keep k103 dj1).ext e104).ext e105
  replace HS5 := (HS5.ext e104).ext e105
  replace HR8 := (HR8.ext e104).ext e105
  replace HS8 := (HS8.ext e104).ext e105
  replace HB2 := HB2.ext e105
  replace HB11 := HB11.ext e105
  replace HG9 := HG9.ext e105
  refine l_nil (n_then (c_cond rfl rfl (fun hc => ?_) (fun hc => ?_)))
  ·
   refine c_seq (wp_reg zd (l_v (v_build (pl := [(0, 1), (1, 1), (2, 1), (3, 1)]) (z := .agg #[.slice none 0 0, .int .i64 0, .int .i64 0, .slice none 0 0]) (zl := [.slice none 0 0, .int .i64 0, .int .i64 0, .slice none 0 0]) zk (by unfold kZero; kernel_rfl) rfl rfl (cells := [_, _, _, _]) rfl) ?_))
   refine l_to (to_storeA (n := 4) rfl rfl (zvA rfl) zk rfl dj6 HB2 dj5 ?_)
   rintro w106 HX106 k106 z106
   have := k106.size
   replace HB2 := HX106
   clear HX106
   try simp only [zS, Nat.zero_add, Nat.reduceAdd, List.drop_nil] at HB2
   refine l_v (v_assign rfl) (l_nil (n_then (c_ret (r_then (ret2cv (n := 4) rfl zq zq rfl zk HB2.pv rfl (zvI rfl) ?_)))))
   replace E := E.step k106 dj3
   refine ⟨⟨_, ik0, 4, rfl, ik0_ag, .inr ⟨rfl, rfl, ?_⟩⟩, E⟩
   replace HS1 := HS1.keep k106 dj1
   replace HS5 := HS5.keep k106 dj1
   replace HB11 := HB11.keep k106 dj4
   replace HR8 := HR8.keep k106 dj7 (by intro i hi he; have hi0 := hi; have hi := hi; have he := he; (try dsimp only [NoK] at hi he); first | exact he.elim | omega | (have := hF i hi0; omega))
   replace HS8 := HS8.keep k106 dj1
   replace HG9 := HG9.keep k106 dj1
   cases hrd : rdIk l with
   | none => rfl
   | some x =>
    exfalso
    obtain ⟨key, y1, sq, y2, kk, y3, i1, i2, i3, i4, i5, i6⟩ := rdIk_inv hrd
    rcases hx5 with ⟨h5, hq5⟩ | ⟨_, _, _, _, _, hq5⟩
    ·
     rw [show rdBytes 32 l = _ from hq5] at i1; cases i1
     rcases hx6 with ⟨h6, hq6⟩ | ⟨_, _, _, hq6⟩
     ·
      rw [hq6] at i2; cases i2
      rcases hx7 with ⟨h7, hq7⟩ | ⟨_, _, _, hq7⟩
      ·
       rw [hq7] at i3; cases i3
       rcases i6 with ⟨_, v, i7, i8⟩ | ⟨i7, _⟩
       ·
        rcases hx8 with ⟨h8, hq8⟩ | ⟨_, _, _, _, _, hq8⟩
        ·
         rw [show rdBytes 65536 _ = _ from hq8] at i7; cases i7
         rw [h5, h6, h7, cvI_lt (n := n) zo, cvI_lt (n := kd) zo, i8] at hc
         simp at hc; omega
        rw [show rdBytes 65536 _ = _ from hq8] at i7; cases i7
       exact i7 hk1
      rw [hq7] at i3; cases i3
     rw [hq6] at i2; cases i2
    rw [show rdBytes 32 l = _ from hq5] at i1; cases i1
  refine c_skip (n_then (c_seq (wp_reg zd (l_v (v_loadA zk rfl (by first | exact HB11.pv | exact HB2.pv | assumption) rfl) ?_))))
  refine l_to (to_storeA (n := 4) rfl rfl (zvA rfl) zk rfl dj6 HB2 dj5 ?_)
  rintro w107 HX107 k107 z107
  have := k107.size
  replace HB2 := HX107
  clear HX107
  try simp only [zS, Nat.zero_add, Nat.reduceAdd, List.drop_nil] at HB2
  refine l_v (v_assign rfl) (l_nil (n_then (c_ret (ret2cv (n := 4) rfl zq zq rfl zk HB2.pv rfl (zvI rfl) ?_))))
  simp only [Bool.or_eq_false_iff, Bool.not_eq_false', decide_eq_true_eq, decide_eq_false_iff_not, Bool.not_eq_eq_eq_not, Bool.not_false, Bool.not_true] at hc
  obtain ⟨⟨⟨⟨⟨h5, h6⟩, h7⟩, h8⟩, hn⟩, hm⟩ := hc
  replace E := E.step k107 dj3
  replace HS1 := HS1.keep k107 dj1
  replace HS5 := HS5.keep k107 dj1
  replace HB11 := HB11.keep k107 dj4
  replace HR8 := HR8.keep k107 dj7 (by intro i hi he; have hi0 := hi; have hi := hi; have he := he; (try dsimp only [NoK] at hi he); first | exact he.elim | omega | (have := hF i hi0; omega))
  replace HS8 := HS8.keep k107 dj1
  replace HG9 := HG9.keep k107 dj1
  obtain ⟨m1, m2, m3⟩ := mayIk_cv zo hn7b hm
  refine ⟨⟨_, (fr, cvI n, cvI kd, fv), 0, rfl, HG9.mono (fun i _ h => by have := h.1; omega), .inl ⟨rfl, ?_⟩⟩, E⟩
  rcases hx5 with ⟨_, hq5⟩ | ⟨h, _⟩
  ·
   rcases hx6 with ⟨_, hq6⟩ | ⟨h, _⟩
   ·
    rcases hx7 with ⟨_, hq7⟩ | ⟨h, _⟩
    ·
     rcases hx8 with ⟨_, hq8⟩ | ⟨h, _⟩
     ·
      have hl4 : l4 = [] := (by by_cases hz : l4 = []; exact hz; (rw [if_neg hz] at h8; simp at h8))
      subst hl4
      rw [m1, m2] at hm ⊢
      rw [rdIk, show rdBytes 32 l = _ from hq5]; simp only []
      rw [hq6]; simp only []
      rw [hq7]; simp only []
      rw [if_pos hk1, show rdBytes 65536 _ = _ from hq8]
      exact if_pos ⟨rfl, hm⟩
     exact absurd (by simpa using he) h
    omega
   omega
  exact absurd (by simpa using h5) h
 have hk1 : ¬ kd = 1 := fun h => dfalse hk ((cvI_1 hn7b (k := 1) zq).2 h)
 have HG9 : AgV tIk _ (fun i => w2.heap.size ≤ i ∧ i ≠ b4) (.agg #[_, _, _, _]) (fr, cvI n, cvI kd, []) := ⟨_, rfl, tIk_mk (HS5.mono fun i _ h => ⟨h.1, h.2.1⟩) (SlV.nil _ _ _) cvI_i cvI_i⟩
 refine c_skip (n_then (c_seq (c_seq (wp_reg zd (l_v (zmI rfl) (l_v (v_neq rfl rfl) ?_))))))
 refine l_v (zmB rfl) (l_g1 rfl rfl (fun hG => zmI rfl) (l_g1 rfl rfl (fun hG => v_neq (gd hG rfl) rfl) ?_))
 refine l_v (v_or rfl rfl) ?_
 refine l_v (zmB rfl) (l_g1 rfl rfl (fun hG => zmI rfl) (l_g1 rfl rfl (fun hG => v_neq (gd hG rfl) rfl) ?_))
 refine l_v (v_or rfl rfl) ?_
 refine l_v (zmB rfl) (l_g1 rfl rfl (fun hG => zmP rfl) (l_g1f rfl rfl (fun hG => to_f1 zk (gd hG rfl) (End_c HR7)) ?_))
 rintro w108 e108
 have := e108.size
 refine l_g1 rfl rfl (fun hG => v_neq (gd hG rfl) rfl) ?_
 refine l_v (v_or rfl rfl) ?_
 refine l_v (zmB rfl) (l_g1 rfl rfl (fun hG => zmI rfl) (l_g1 rfl rfl (fun hG => v_gtr (gd hG rfl) rfl) ?_))
 refine l_v (v_or rfl rfl) ?_
 replace HB2 := HB2.ext e108
 replace HB11 := HB11.ext e108
 refine l_v (zmB rfl) (l_g1 rfl rfl (fun hG => v_loadA zk rfl (by first | exact HB11.pv | exact HB2.pv | assumption) rfl) ?_)
 replace HG9 := HG9.ext e108
 refine l_g1f rfl rfl (fun hG => to_f1 zk (gd hG rfl) (iMay_c HG9)) ?_
 rintro w109 e109
 have := e109.size
 refine l_g1 rfl rfl (fun hG => v_not (gd hG rfl)) ?_
 refine l_v (v_or rfl rfl) ?_
 replace E := (E.trans e108.keep).trans e109.keep
 replace HS1 := (HS1.ext e108).ext e109
 replace HS5 := (HS5.ext e108).ext e109
 replace HR7 := (HR7.ext e108).ext e109
 replace HB2 := HB2.ext e109
 replace HB11 := HB11.ext e109
 replace HG9 := HG9.ext e109
 refine l_nil (n_then (c_cond rfl rfl (fun hc => ?_) (fun hc => ?_)))
 ·
  refine c_seq (wp_reg zd (l_v (v_build (pl := [(0, 1), (1, 1), (2, 1), (3, 1)]) (z := .agg #[.slice none 0 0, .int .i64 0, .int .i64 0, .slice none 0 0]) (zl := [.slice none 0 0, .int .i64 0, .int .i64 0, .slice none 0 0]) zk (by unfold kZero; kernel_rfl) rfl rfl (cells := [_, _, _, _]) rfl) ?_))
  refine l_to (to_storeA (n := 4) rfl rfl (zvA rfl) zk rfl dj6 HB2 dj5 ?_)
  rintro w110 HX110 k110 z110
  have := k110.size
  replace HB2 := HX110
  clear HX110
  try simp only [zS, Nat.zero_add, Nat.reduceAdd, List.drop_nil] at HB2
  refine l_v (v_assign rfl) (l_nil (n_then (c_ret (r_then (ret2cv (n := 4) rfl zq zq rfl zk HB2.pv rfl (zvI rfl) ?_)))))
  replace E := E.step k110 dj3
  refine ⟨⟨_, ik0, 4, rfl, ik0_ag, .inr ⟨rfl, rfl, ?_⟩⟩, E⟩
  replace HS1 := HS1.keep k110 dj1
  replace HS5 := HS5.keep k110 dj1
  replace HR7 := HR7.keep k110 dj7 (by intro i hi he; have hi0 := hi; have hi := hi; have he := he; (try dsimp only [NoK] at hi he); first | exact he.elim | omega | (have := hF i hi0; omega))
  replace HB11 := HB11.keep k110 dj4
  replace HG9 := HG9.keep k110 dj1
  cases hrd : rdIk l with
  | none => rfl
  | some x =>
   exfalso
   obtain ⟨key, y1, sq, y2, kk, y3, i1, i2, i3, i4, i5, i6⟩ := rdIk_inv hrd
   rcases hx5 with ⟨h5, hq5⟩ | ⟨_, _, _, _, _, hq5⟩
   ·
    rw [show rdBytes 32 l = _ from hq5] at i1; cases i1
    rcases hx6 with ⟨h6, hq6⟩ | ⟨_, _, _, hq6⟩
    ·
     rw [hq6] at i2; cases i2
     rcases hx7 with ⟨h7, hq7⟩ | ⟨_, _, _, hq7⟩
     ·
      rw [hq7] at i3; cases i3
      rcases i6 with ⟨i7, _⟩ | ⟨_, i7, i8⟩
      ·
       exact hk1 i7
      rw [h5, h6, h7, i7, cvI_lt (n := n) zo, cvI_lt (n := kd) zo, i8] at hc
      simp at hc; omega
     rw [hq7] at i3; cases i3
    rw [hq6] at i2; cases i2
   rw [show rdBytes 32 l = _ from hq5] at i1; cases i1
 refine c_skip (n_then (c_seq (wp_reg zd (l_v (v_loadA zk rfl (by first | exact HB11.pv | exact HB2.pv | assumption) rfl) ?_))))
 refine l_to (to_storeA (n := 4) rfl rfl (zvA rfl) zk rfl dj6 HB2 dj5 ?_)
 rintro w111 HX111 k111 z111
 have := k111.size
 replace HB2 := HX111
 clear HX111
 try simp only [zS, Nat.zero_add, Nat.reduceAdd, List.drop_nil] at HB2
 refine l_v (v_assign rfl) (l_nil (n_then (c_ret (ret2cv (n := 4) rfl zq zq rfl zk HB2.pv rfl (zvI rfl) ?_))))
 simp only [Bool.or_eq_false_iff, Bool.not_eq_false', decide_eq_true_eq, decide_eq_false_iff_not, Bool.not_eq_eq_eq_not, Bool.not_false, Bool.not_true] at hc
 obtain ⟨⟨⟨⟨⟨h5, h6⟩, h7⟩, h8⟩, hn⟩, hm⟩ := hc
 replace E := E.step k111 dj3
 replace HS1 := HS1.keep k111 dj1
 replace HS5 := HS5.keep k111 dj1
 replace HR7 := HR7.keep k111 dj7 (by intro i hi he; have hi0 := hi; have hi := hi; have he := he; (try dsimp only [NoK] at hi he); first | exact he.elim | omega | (have := hF i hi0; omega))
 replace HB11 := HB11.keep k111 dj4
 replace HG9 := HG9.keep k111 dj1
 obtain ⟨m1, m2, m3⟩ := mayIk_cv zo hn7b hm
 refine ⟨⟨_, (fr, cvI n, cvI kd, []), 0, rfl, HG9.mono (fun i _ h => by have := h.1; omega), .inl ⟨rfl, ?_⟩⟩, E⟩
 rcases hx5 with ⟨_, hq5⟩ | ⟨h, _⟩
 ·
  rcases hx6 with ⟨_, hq6⟩ | ⟨h, _⟩
  ·
   rcases hx7 with ⟨_, hq7⟩ | ⟨h, _⟩
   ·
    have hl4 : rest (rest l1) = [] := (by by_cases hz : rest (rest l1) = []; exact hz; (rw [if_neg hz] at h8; simp at h8))
    rw [m1, m2] at hm ⊢
    rw [rdIk, show rdBytes 32 l = _ from hq5]; simp only []
    rw [hq6]; simp only []
    rw [hq7]; simp only []
    rw [if_neg hk1]
    exact if_pos ⟨hl4, hm⟩
   omega
  omega
 exact absurd (by simpa using h5) h
end Go.Proofs.YtogafjlbpodgjaaGreat

namespace Go.Proofs.YtogafjlbpodgjaaGreat
open Go.Vc
set_option linter.unusedVariables false
set_option linter.unusedSimpArgs false
set_option maxRecDepth 100000

theorem ikW_le2 {e : IkV} (h : mayIk e = true) : (ikW e).length ≤ 65636 := by
  obtain ⟨key, seq, kind, val⟩ := e
  simp only [mayIk, Bool.and_eq_true, decide_eq_true_eq, Bool.or_eq_true] at h
  obtain ⟨⟨⟨⟨⟨h1, h2⟩, h3⟩, h4⟩, h5⟩, h6⟩ := h
  have b1 := wNum_len 0 key.length zo
  have b2 := wNum_len 2 val.length zo
  have b3 := wNum_len 4 seq.toNat zo
  have hk : kind.toNat ≤ 2 := by rcases h6 with h6 | ⟨h6, _⟩ <;> omega
  have b4 := wNum_len 0 kind.toNat zo
  simp only [ikW, wBytes, List.length_append]
  split
  · simp only [List.length_append]; omega
  · simp only [List.length_nil]; omega
/-- one entry of a list -/
def rdLi (l : List UInt8) : Except Int (IkV × List UInt8) := match rdBytes 65636 l with
  | .error e => .error e
  | .ok (x, r) => match rdIk x with
    | some y => .ok (y, r)
    | none => .error 4
theorem rdLi_ok {l : List UInt8} {x : IkV} {r : List UInt8} (h : rdLi l = .ok (x, r)) : l = spI x ++ r ∧ mayIk x = true ∧ r.length < l.length := by
  rw [rdLi] at h
  rcases h1 : rdBytes 65636 l with e | ⟨y, l1⟩
  · rw [h1] at h; cases h
  · rw [h1] at h; simp only [] at h
    rcases h2 : rdIk y with _ | z
    · rw [h2] at h; cases h
    · rw [h2] at h; cases h
      obtain ⟨a1, a2, a3⟩ := rdBytes_le' h1
      obtain ⟨b1, b2⟩ := rdIk_ok h2
      refine ⟨by rw [a3, spI, b2], b1, ?_⟩
      have hp := wNum_pos y.length
      have := congrArg List.length a3
      rw [wBytes, List.length_append, List.length_append] at this
      omega
theorem rdLi_short : ∀ l x r, rdLi l = .ok (x, r) → r.length < l.length := fun l x r h => (rdLi_ok h).2.2
theorem rdLi_back {x : IkV} {r : List UInt8} (h : mayIk x = true) : rdLi (spI x ++ r) = .ok (x, r) := by
  rw [rdLi, spI, rdBytes_wB' (ikW_le2 h) zq]
  simp only []
  rw [rdIk_back h]
theorem rdList_back' {α : Type} {ρ : List UInt8 → Except Int (α × List UInt8)} {sp : α → List UInt8} : ∀ (xs : List α) (r : List UInt8), (∀ x ∈ xs, ∀ r, ρ (sp x ++ r) = .ok (x, r)) → rdList ρ xs.length ((xs.map sp).flatten ++ r) = .ok (xs, r)
  | [], r, _ => by simp [rdList]
  | x :: xs, r, h => by
    have h1 := rdList_back' xs r (fun y hy => h y (List.mem_cons_of_mem _ hy))
    simp only [List.map_cons, List.flatten_cons, List.length_cons, rdList, List.append_assoc]
    rw [h x List.mem_cons_self]
    simp only []
    rw [h1]
theorem rdList_all {α : Type} {ρ : List UInt8 → Except Int (α × List UInt8)} {sp : α → List UInt8} {p : α → Prop} (h : ∀ l x r, ρ l = .ok (x, r) → l = sp x ++ r ∧ p x) : ∀ (n : Nat) (l : List UInt8) (xs : List α) (r : List UInt8), rdList ρ n l = .ok (xs, r) → xs.length = n ∧ l = (xs.map sp).flatten ++ r ∧ ∀ x ∈ xs, p x
  | 0, l, xs, r, h1 => by rw [rdList] at h1; cases h1; simp
  | n + 1, l, xs, r, h1 => by
    rw [rdList] at h1
    rcases h2 : ρ l with e | ⟨x, l2⟩
    · rw [h2] at h1; cases h1
    · rw [h2] at h1; simp only [] at h1
      rcases h3 : rdList ρ n l2 with e | ⟨ys, l3⟩
      · rw [h3] at h1; cases h1
      · rw [h3] at h1; cases h1
        obtain ⟨a1, a2⟩ := h _ _ _ h2
        obtain ⟨b1, b2, b3⟩ := rdList_all h n l2 ys _ h3
        refine ⟨by simp [b1], by rw [a1, b2]; simp, fun y hy => ?_⟩
        rcases List.mem_cons.1 hy with rfl | hy
        · exact a2
        · exact b3 y hy
/-- the entries that bytes are, or none -/
def rdLs (l : List UInt8) : Option (List IkV) := match tryRd (rdList rdLi) 65536 l with
  | .ok (xs, []) => some xs
  | _ => none
theorem rdLs_ok {l : List UInt8} {xs : List IkV} (h : rdLs l = some xs) : (∀ e ∈ xs, mayIk e = true) ∧ xs.length ≤ 65536 ∧ wList spI xs = l := by
  rw [rdLs] at h
  split at h
  · next ys hq =>
    cases h
    rw [tryRd] at hq
    rcases hd : rdNum l with _ | ⟨n, l'⟩
    · rw [hd] at hq; cases hq
    · rw [hd] at hq; simp only [] at hq
      by_cases hn : n ≤ 65536
      · rw [if_pos hn] at hq
        obtain ⟨b1, b2, b3⟩ := rdList_all (sp := spI) (p := fun x => mayIk x = true) (fun l x r h => ⟨(rdLi_ok h).1, (rdLi_ok h).2.1⟩) _ _ _ _ hq
        refine ⟨b3, by omega, ?_⟩
        rw [wList, b1, rdNum_form hd, b2, List.append_nil]
      · rw [if_neg hn] at hq; cases hq
  · cases h
theorem rdLs_back {xs : List IkV} (h : ∀ e ∈ xs, mayIk e = true) (hl : xs.length ≤ 65536) : rdLs (wList spI xs) = some xs := by
  rw [rdLs, tryRd, wList, rdNum_wNum zo]
  simp only []
  rw [if_pos hl]
  have := rdList_back' (ρ := rdLi) (sp := spI) xs [] (fun x hx r => rdLi_back (h x hx))
  rw [List.append_nil] at this
  rw [this]
/-- what reading one thing hands back -/
def OneVI (w1 w2 : World) (c : Nat) (F : Nat → Prop) : Except Int (IkV × List UInt8) → Value → Prop
  | .ok (x, l2), r => ∃ cs, r = .tuple #[.agg cs.toArray, .int .i64 0] ∧ (tIk).rep w2 (fun b => w1.heap.size ≤ b) cs x ∧ Rd nRd w2 c F l2
  | .error e, r => e ≠ 0 ∧ ∃ cs x, r = .tuple #[.agg cs.toArray, .int .i64 e] ∧ (tIk).rep w2 (fun b => w1.heap.size ≤ b) cs x
theorem OneVI_any {w1 w2 : World} {c : Nat} {F : Nat → Prop} {q : Except Int (IkV × List UInt8)} {r : Value} (h : OneVI w1 w2 c F q r) : ∃ (cs : List Value) (x : IkV) (er : Int), r = .tuple #[.agg cs.toArray, .int .i64 er] ∧ (tIk).rep w2 (fun b => w1.heap.size ≤ b) cs x ∧
    ((er = 0 ∧ ∃ l2, q = .ok (x, l2) ∧ Rd nRd w2 c F l2) ∨ (er ≠ 0 ∧ q = .error er)) := by
  match q, h with
  | .ok (x, l2), ⟨cs, hr, h1, h2⟩ => exact ⟨cs, x, 0, hr, h1, .inl ⟨rfl, l2, rfl, h2⟩⟩
  | .error e, ⟨he, cs, x, hr, h1⟩ => exact ⟨cs, x, e, hr, h1, .inr ⟨he, rfl⟩⟩

theorem takeInI_c {w : World} {b pf : Nat} {pT : TypeId} {F : Nat → Prop} {l : List UInt8} {n fr : Nat} {cap : Array Value} (hr : Rd nRd w b F l) (hF : ∀ k, F k → k < w.heap.size) (hFb : ¬ F b) (hn : n ≤ 9223372036854775807) (hl : l.length ≤ 1000000000000) (hb : kBody Tryz.prog fr = true)
    (hpf : Blk w pf [.func (.func fr) #[] cap] pT) (hpb : pf ≠ b)
    (ρ : List UInt8 → Except Int (IkV × List UInt8)) (hρ : ∀ l x l2, ρ l = .ok (x, l2) → l2.length < l.length)
    (hone : ∀ (w1 : World) (l1 : List UInt8), Keep (fun k => k = b) w w1 → Rd nRd w1 b F l1 → l1.length ≤ l.length → CallsR Tryz.prog fr (#[.pointer (some ⟨b, 0, none⟩)] ++ cap) w1 (fun r w2 => OneVI w1 w2 b F (ρ l1) r ∧ Keep (fun k => k = b) w1 w2)) :
    CallsR Tryz.prog 106 #[.pointer (some ⟨b, 0, none⟩), .int .i64 n, .pointer (some ⟨pf, 0, none⟩)] w (fun r w' => ReadV (tIk) 93 nRd w w' b F (rdList ρ n l) r ∧ Keep (fun k => k = b) w w') := by
 obtain ⟨w0, rfl⟩ : ∃ x, x = w := ⟨w, rfl⟩
 have hblt : b < w0.heap.size := by obtain ⟨_, _, h, _⟩ := hr; exact h.lt
 have hplt := hpf.lt
 refine enter 28 Tryz.func106 rfl rfl (by simp) ?_
 refine c_seq (wp_reg zd (l_v (v_assign rfl) (l_v (v_assign rfl) (l_nil (n_then (c_seq (c_block (c_loop (τ := Option Addr × Nat × Int × List (IkV) × List UInt8) [5, 6, 7, 8, 9, 10, 11, 12, 13, 14, 15, 16, 17, 18, 19, 20, 21, 22, 23, 24, 25] (fun (a1, c1, er, xs, l1) => [(5, .slice a1 xs.length c1), (6, .int .i64 er)]) (fun (a1, c1, er, xs, l1) w => OwV (tIk) 93 w w0.heap.size (fun k => w0.heap.size ≤ k) (.slice a1 xs.length c1) xs ∧ Keep (fun k => k = b) w0 w ∧ xs.length ≤ n ∧ ((er = 0 ∧ Rd nRd w b F l1 ∧ xs.length + l1.length ≤ l.length ∧ rdList ρ n l = bindL xs (rdList ρ (n - xs.length) l1)) ∨ (er ≠ 0 ∧ rdList ρ n l = .error er))) (fun (a1, c1, er, xs, l1) => n - xs.length) (none, 0, 0, [], l) (by exact ⟨rfl, rfl, trivial⟩) (by exact ⟨OwV.nil _ _ _ _ _, Keep.refl _, Nat.zero_le _, .inl ⟨rfl, hr, by simp, by simp [bindL_nil]⟩⟩) ?_))))))))
 rintro ⟨a1, c1, er, xs, l1⟩ w1 j ⟨o1, k1, h1, h1c⟩
 refine c_seq (c_seq (wp_reg zd (l_v (zmS rfl) (l_v (v_len (et := 93) zk rfl) ?_))))
 refine l_v (zmI rfl) (l_v (v_lss rfl rfl) ?_)
 refine l_v (zmB rfl) (l_g1 rfl rfl (fun hG => zmI rfl) (l_g1 rfl rfl (fun hG => v_eql (gd hG rfl) rfl) ?_))
 refine l_v (v_and rfl rfl) ?_
 refine l_nil (n_then (c_cond rfl rfl (fun hc => ?_) (fun hc => ?_)))
 ·
  have hcl : xs.length < n := by simp at hc; omega
  have hce : er = 0 := by simp at hc; omega
  obtain ⟨_, r1, hll, hrd⟩ := h1c.resolve_right (fun h => h.1 hce)
  have := k1.size
  refine c_skip (n_then (c_block (c_seq (wp_reg zd (l_to (to_alloc (z := (.agg #[.slice none 0 0, .int .i64 0, .int .i64 0, .slice none 0 0])) (by unfold kZero; kernel_rfl) ?_))))))
  rintro b2 w2 rfl hb2 e2 z2
  have := e2.size
  refine l_nil (n_then (c_seq (wp_reg zd (l_v (v_load zk rfl ((((hpf.keep k1 hpb)).ext e2).pv 0 _ rfl)) ?_))))
  refine l_v (zmP rfl) (l_to (to_call1 hb rfl (zvP rfl) (CallsR.mono ((hone w2 l1 (k1.trans (e2.mono fun _ _ h => h.elim)) (r1.ext e2) zo)) ?_)))
  rintro r w3 ⟨hr3, k3⟩
  have := k3.size
  obtain ⟨cs, x, er2, hr3, hrep, hnx⟩ := OneVI_any hr3
  subst hr3
  have hrep1 := hrep
  obtain ⟨a9, c9, a10, c10, rfl, _, _, _, _⟩ := tIk_cells hrep
  refine l_v (zmT rfl) (l_v (v_extract (t := .agg _) rfl rfl) (l_v (v_extract (t := .int _ _) rfl rfl) (l_to (to_storeA (n := 4) rfl rfl (zvA rfl) zk rfl (by first | (simp [slice_one]; done) | (simp only [List.forall_mem_cons, List.cons_append, List.nil_append]; repeat' (first | exact rfl | apply And.intro | (intro u hu; cases hu; done)))) (hb2.keep k3 zo) dj5 ?_))))
  rintro w4 h4 k4 z4
  have := k4.size
  have hrep4 := (tIk).keep hrep1 k4 (fun i hi h hk => by omega)
  have o4 := ((((o1.mono (F' := fun k => w0.heap.size ≤ k ∧ k < w1.heap.size) (fun i hi h => ⟨h, hi⟩)).ext e2).keep k3 (fun i hi h => by have := (o1.own_lt hi).1; omega) (fun i _ hi _ h => by omega)).keep k4 (fun i hi h => by have := (o1.own_lt hi).2; omega) (fun i _ hi _ h => by omega)).mono (F' := fun k => w0.heap.size ≤ k) (fun i _ h => h.1)
  have k46 : Keep (fun k => k = b) w0 w4 := (((k1.trans (e2.mono fun _ _ h => h.elim)).trans k3).step k4 (fun i hi h => by omega))
  have hnx4 : (er2 = 0 ∧ ∃ l2, ρ l1 = .ok (x, l2) ∧ Rd nRd w4 b F l2) ∨ (er2 ≠ 0 ∧ ρ l1 = .error er2) := by
   rcases hnx with ⟨he2, l2, hq, r3⟩ | h
   ·
    exact .inl ⟨he2, l2, hq, r3.keep k4 zo (fun i hi h => by have := hF i hi; omega)⟩
   exact .inr h
  refine l_v (zaI rfl) (l_nil (n_then (wp_reg zd (l_v (zmS rfl) (l_v (v_loadA zk rfl h4.pv rfl) ?_)))))
  refine l_to (to_slice1 (t := tIk) (et := 93) (bytes := 64) zk zq (zvA rfl) (hrep4) ?_)
  rintro b5 w5 rfl o5 e5 z5
  have := e5.size
  refine l_to (to_append (et := 93) (bytes := 64) zk (zvS rfl) (o4.ext e5) (zvS rfl) o5.view ((OwV_sep o1 (by intro i hi; omega) zo)) (by first | omega | (simp; done) | (simp; omega)) (by simp only [maxLen]; first | omega | (simp; done) | (simp; omega)) zo ?_)
  rintro a6 n6 c6 w6 o6 hn6 k6 b6 i6
  have := k6.size
  subst hn6
  have k36 : Keep (fun k => k = b) w0 w6 := (k46.trans (e5.mono fun _ _ h => h.elim)).step k6 (fun i hi h => by have := (o1.own_lt h).1; omega)
  have hsub : n - xs.length = (n - (xs ++ [x]).length) + 1 := by simp only [List.length_append, List.length_singleton]; omega
  obtain ⟨l2, hinv⟩ : ∃ l2, ((er2 = 0 ∧ Rd nRd w6 b F l2 ∧ (xs ++ [x]).length + l2.length ≤ l.length ∧ rdList ρ n l = bindL (xs ++ [x]) (rdList ρ (n - (xs ++ [x]).length) l2)) ∨ (er2 ≠ 0 ∧ rdList ρ n l = .error er2)) := by
   rcases hnx4 with ⟨he2, l2, hq, r4⟩ | ⟨hne, hq⟩
   ·
    refine ⟨l2, .inl ⟨he2, ?_, ?_, ?_⟩⟩
    ·
     exact (r4.ext e5).keep k6 (fun h => by have := (o1.own_lt h).1; omega) (fun i hi h => by have := (o1.own_lt h).1; have := hF i hi; omega)
    ·
     have := hρ _ _ _ hq; simp only [List.length_append, List.length_singleton]; omega
    rw [hrd, hsub]; exact rdList_ok hq
   exact ⟨[], .inr ⟨hne, by rw [hrd, hsub]; exact rdList_err hq⟩⟩
  refine l_v (zaS rfl) (l_nil (n_blk (n_then (⟨(a6, c6, er2, xs ++ [x], l2), _, rfl, by (repeat (first | exact Off.of_over _ _ _ | refine Off.upd ?_ zq _ | refine Off.overs ?_ zq _)), ⟨by first | rfl | exact congrArg (Value.int _) zo | (simp; done), by first | rfl | exact congrArg (Value.int _) zo | (simp; done), trivial⟩, ?_, ?_⟩))))
  ·
   exact ⟨o6, k36, by simp only [List.length_append, List.length_singleton]; omega, hinv⟩
  simp only [List.length_append, List.length_singleton]; omega
 refine c_exit (x_then (x_then (x_hit (n_then (c_seq (wp_reg zd (l_v (zmS rfl) (l_v (zmI rfl) (l_v (zaS rfl) ?_)))))))))
 refine l_v (zaI rfl) (l_nil (n_then (c_ret (ret2 rfl zq zq ?_))))
 refine ⟨?_, k1⟩
 rcases h1c with ⟨he, r1, _, hrd⟩ | ⟨hne, hq⟩
 ·
  have hcl : ¬ xs.length < n := by subst he; simpa using hc
  rw [hrd, show n - xs.length = 0 by omega]
  subst he
  show ReadV _ _ _ _ _ _ _ (.ok (xs ++ [], l1)) _
  rw [List.append_nil]
  exact ⟨a1, c1, rfl, o1, r1⟩
 rw [hq]
 exact ⟨hne, _, _, _, rfl⟩
theorem tryI_c {w : World} {b : Nat} {F : Nat → Prop} {l : List UInt8} {most : Int} {fr : Nat} {cap : Array Value} (hr : Rd nRd w b F l) (hF : ∀ k, F k → k < b) (hm : 0 ≤ most) (hm2 : most ≤ 9223372036854775807) (hb : kBody Tryz.prog fr = true)
    (ρ : Nat → List UInt8 → Except Int (List IkV × List UInt8))
    (hread : ∀ (w1 : World) (c : Nat) (l1 : List UInt8) (n : Nat), Ext w w1 → w.heap.size ≤ c → Rd nRd w1 c F l1 → l1.length ≤ l.length → (n : Int) ≤ most → CallsR Tryz.prog fr (#[.pointer (some ⟨c, 0, none⟩), .int .i64 n] ++ cap) w1 (fun r w2 => ReadV (tIk) 93 nRd w1 w2 c F (ρ n l1) r ∧ Keep (fun k => k = c) w1 w2)) :
    CallsR Tryz.prog 105 #[.pointer (some ⟨b, 0, none⟩), .int .i64 most, .func (.func fr) #[] cap] w (fun r w' => TryV (tIk) 93 nRd w w' b F l (tryRd ρ most.toNat l) r ∧ Keep (fun k => k = b) w w') := by
 have hnF : ¬ F b := fun h => absurd (hF b h) (Nat.lt_irrefl b)
 obtain ⟨a, c, hb0, hv⟩ := hr
 have hblt := hb0.lt
 rcases hd : rdNum l with _ | ⟨n, l'⟩
 ·
  obtain ⟨er, her⟩ : ∃ er : Int, er = 4 := ⟨4, rfl⟩
  have htr : tryRd ρ most.toNat l = .error er := by rw [tryRd, hd, her]
  refine enter 56 Tryz.func105 rfl rfl (by simp) ?_
  refine c_seq (wp_reg zd (l_v (v_assign rfl) (l_v (v_assign rfl) (l_nil (n_then (c_seq (wp_reg zd (l_v (v_assign rfl) (l_nil ?_)))))))))
  refine n_then (c_seq (c_seq (wp_reg zd (l_v (zmP rfl) (l_to (to_f1 zk (zvP rfl) (CallsR.mono (closed_c hb0) ?_)))))))
  rintro _ w1 ⟨rfl, e1⟩
  have := e1.size
  refine l_nil (n_then (c_cond rfl rfl (fun hc => ?_) (fun hc => ?_)))
  ·
   cases hc
  refine c_skip (n_then (c_seq (c_seq (wp_reg zd (l_v (zmI rfl) (l_v (v_lss rfl rfl) ?_))))))
  refine l_nil (n_then (c_cond rfl rfl (fun hc2 => ?_) (fun hc2 => ?_)))
  ·
   have := dtrue hc2; omega
  refine c_skip (n_then (c_seq (wp_reg zd (l_v (zmP rfl) (l_v (v_nilCheck rfl) ?_)))))
  refine l_v (v_fieldAddr (off := 0) (ft := 24) zk rfl) (l_v (v_load zk rfl ((hb0.ext e1).pv 0 _ rfl)) ?_)
  refine l_v (v_build (pl := [(0, 1)]) (z := .agg #[.slice none 0 0]) (zl := [.slice none 0 0]) zk (by unfold kZero; kernel_rfl) rfl rfl (cells := [_]) rfl) ?_
  refine l_to (to_box (zvA rfl) ?_)
  rintro b2 w2 rfl hb2 e2 z2
  have := e2.size
  have e12 := e1.trans e2
  refine l_v (zaP rfl) (l_nil (n_then (c_seq (wp_reg zd (l_v (zmP rfl) (l_to (to_f1 zk (zvP rfl) (CallsR.mono (rNumber_c (b := w1.heap.size) (l := l) (F := F) ⟨a, c, hb2, hv.ext e12⟩ (fun h => by have := hF _ h; omega)) ?_))))))))
  rintro r w3 ⟨hr3, h3, k3⟩
  have := k3.size
  rw [numV, hd, ← her] at hr3
  subst hr3
  have e3 : Ext w w3 := e12.step k3 fun i hi h => by omega
  refine l_v (zmT rfl) (l_v (v_extract (t := .int _ _) rfl rfl) (l_v (v_extract (t := .int _ _) rfl rfl) (l_v (zaI rfl) (l_v (zaI rfl) (l_nil (n_then (c_seq (c_seq (wp_reg zd ?_)))))))))
  refine l_v (zmI rfl) (l_v (v_eql rfl rfl) ?_)
  refine l_v (zmB rfl) (l_g1 rfl rfl (fun hG => zmI rfl) (l_g1 rfl rfl (fun hG => zmI rfl) (l_g1 rfl rfl (fun hG => v_conv (ds := .int .i64) zk zk (gd hG rfl) (by first | exact wr_u64 zo zo | rfl)) ?_)))
  refine l_g1 rfl rfl (fun hG => v_gtr (gd hG rfl) (gd hG rfl)) ?_
  refine l_v (v_and rfl rfl) ?_
  refine l_nil (n_then (c_cond rfl rfl (fun hc3 => ?_) (fun hc3 => ?_)))
  ·
   simp at hc3; omega
  refine c_skip (n_then (c_seq (c_seq (wp_reg zd (l_v (zmI rfl) (l_v (v_eql rfl rfl) ?_))))))
  refine l_nil (n_then (c_cond rfl rfl (fun hc4 => ?_) (fun hc4 => ?_)))
  ·
   have := dtrue hc4; omega
  refine c_skip (n_then (c_seq (c_seq (wp_reg zd (l_v (zmI rfl) (l_v (v_neq rfl rfl) ?_))))))
  refine l_nil (n_then (c_cond rfl rfl (fun hc5 => ?_) (fun hc5 => ?_)))
  ·
   refine c_seq (wp_reg zd (l_v (zmS rfl) (l_v (zmI rfl) (l_v (zaS rfl) (l_v (zaI rfl) (l_nil (n_then (c_ret (r_then ?_)))))))))
   refine ret2 rfl zq zq ?_
   refine ⟨?_, e3.keep⟩
   rw [htr]
   exact ⟨by omega, rfl, ⟨a, c, hb0.ext e3, hv.ext e3⟩⟩
  simp at hc5; omega
 have hlt := rdNum_lt hd
 have hll : l'.length ≤ l.length := by obtain ⟨k, _, _, h⟩ := rdGo_suffix l 0 hd; rw [h, List.length_drop]; omega
 obtain ⟨z, hz⟩ : ∃ z : Int, z = 0 := ⟨0, rfl⟩
 by_cases hnm : (n : Int) ≤ most
 ·
  have htr : tryRd ρ most.toNat l = ρ n l' := by rw [tryRd, hd]; simp only []; rw [if_pos zo]
  cases hρ : ρ n l' with
  | error er =>
   refine enter 56 Tryz.func105 rfl rfl (by simp) ?_
   refine c_seq (wp_reg zd (l_v (v_assign rfl) (l_v (v_assign rfl) (l_nil (n_then (c_seq (wp_reg zd (l_v (v_assign rfl) (l_nil ?_)))))))))
   refine n_then (c_seq (c_seq (wp_reg zd (l_v (zmP rfl) (l_to (to_f1 zk (zvP rfl) (CallsR.mono (closed_c hb0) ?_)))))))
   rintro _ w1 ⟨rfl, e1⟩
   have := e1.size
   refine l_nil (n_then (c_cond rfl rfl (fun hc => ?_) (fun hc => ?_)))
   ·
    cases hc
   refine c_skip (n_then (c_seq (c_seq (wp_reg zd (l_v (zmI rfl) (l_v (v_lss rfl rfl) ?_))))))
   refine l_nil (n_then (c_cond rfl rfl (fun hc2 => ?_) (fun hc2 => ?_)))
   ·
    have := dtrue hc2; omega
   refine c_skip (n_then (c_seq (wp_reg zd (l_v (zmP rfl) (l_v (v_nilCheck rfl) ?_)))))
   refine l_v (v_fieldAddr (off := 0) (ft := 24) zk rfl) (l_v (v_load zk rfl ((hb0.ext e1).pv 0 _ rfl)) ?_)
   refine l_v (v_build (pl := [(0, 1)]) (z := .agg #[.slice none 0 0]) (zl := [.slice none 0 0]) zk (by unfold kZero; kernel_rfl) rfl rfl (cells := [_]) rfl) ?_
   refine l_to (to_box (zvA rfl) ?_)
   rintro b2 w2 rfl hb2 e2 z2
   have := e2.size
   have e12 := e1.trans e2
   refine l_v (zaP rfl) (l_nil (n_then (c_seq (wp_reg zd (l_v (zmP rfl) (l_to (to_f1 zk (zvP rfl) (CallsR.mono (rNumber_c (b := w1.heap.size) (l := l) (F := F) ⟨a, c, hb2, hv.ext e12⟩ (fun h => by have := hF _ h; omega)) ?_))))))))
   rintro r w3 ⟨hr3, h3, k3⟩
   have := k3.size
   rw [numV, hd] at hr3
   simp only [] at hr3
   rw [← hz] at hr3
   subst hr3
   have e3 : Ext w w3 := e12.step k3 fun i hi h => by omega
   have hrest : rest l = l' := by rw [rest, hd]
   rw [hrest] at h3
   refine l_v (zmT rfl) (l_v (v_extract (t := .int _ _) rfl rfl) (l_v (v_extract (t := .int _ _) rfl rfl) (l_v (zaI rfl) (l_v (zaI rfl) (l_nil (n_then (c_seq (c_seq (wp_reg zd ?_)))))))))
   refine l_v (zmI rfl) (l_v (v_eql rfl rfl) ?_)
   refine l_v (zmB rfl) (l_g1 rfl rfl (fun hG => zmI rfl) (l_g1 rfl rfl (fun hG => zmI rfl) (l_g1 rfl rfl (fun hG => v_conv (ds := .int .i64) zk zk (gd hG rfl) (by first | exact wr_u64 zo zo | rfl)) ?_)))
   refine l_g1 rfl rfl (fun hG => v_gtr (gd hG rfl) (gd hG rfl)) ?_
   refine l_v (v_and rfl rfl) ?_
   refine l_nil (n_then (c_cond rfl rfl (fun hc3 => ?_) (fun hc3 => ?_)))
   ·
    simp at hc3; omega
   refine c_skip (n_then (c_seq (c_seq (wp_reg zd (l_v (zmI rfl) (l_v (v_eql rfl rfl) ?_))))))
   refine l_nil (n_then (c_cond rfl rfl (fun hc4 => ?_) (fun hc4 => ?_)))
   ·
    refine wp_reg zd (l_v (zmF rfl) (l_v (zmP rfl) (l_v (zmI rfl) (l_v (v_conv (ds := .int .u64) zk zk rfl (by first | exact wr_i64 zo zo | rfl)) ?_))))
    refine l_to (to_call2 hb rfl (zvP rfl) (zvI rfl) (CallsR.mono (hread w3 _ l' n e3 zo h3 hll hnm) ?_))
    rintro r4 w4 ⟨hr4, k4⟩
    have := k4.size
    rw [hρ] at hr4
    obtain ⟨her, va, vn, vc, hr4⟩ := hr4
    subst hr4
    have e4 : Ext w w4 := e3.step k4 fun i hi h => by omega
    refine l_v (zmT rfl) (l_v (v_extract (t := .slice _ _ _) rfl rfl) (l_v (v_extract (t := .int _ _) rfl rfl) (l_v (zaS rfl) (l_v (zaI rfl) (l_nil (n_then (c_seq (c_seq (wp_reg zd ?_)))))))))
    refine l_v (zmI rfl) (l_v (v_neq rfl rfl) ?_)
    refine l_nil (n_then (c_cond rfl rfl (fun hc5 => ?_) (fun hc5 => ?_)))
    ·
     refine c_seq (wp_reg zd (l_v (zmS rfl) (l_v (zmI rfl) (l_v (zaS rfl) (l_v (zaI rfl) (l_nil (n_then (c_ret (r_then ?_)))))))))
     refine ret2 rfl zq zq ?_
     refine ⟨?_, e4.keep⟩
     rw [htr, hρ]
     exact ⟨her, rfl, ⟨a, c, hb0.ext e4, hv.ext e4⟩⟩
    simp at hc5; omega
   have := dfalse hc4; omega
  | ok xl =>
   obtain ⟨x, l2⟩ := xl
   refine enter 56 Tryz.func105 rfl rfl (by simp) ?_
   refine c_seq (wp_reg zd (l_v (v_assign rfl) (l_v (v_assign rfl) (l_nil (n_then (c_seq (wp_reg zd (l_v (v_assign rfl) (l_nil ?_)))))))))
   refine n_then (c_seq (c_seq (wp_reg zd (l_v (zmP rfl) (l_to (to_f1 zk (zvP rfl) (CallsR.mono (closed_c hb0) ?_)))))))
   rintro _ w1 ⟨rfl, e1⟩
   have := e1.size
   refine l_nil (n_then (c_cond rfl rfl (fun hc => ?_) (fun hc => ?_)))
   ·
    cases hc
   refine c_skip (n_then (c_seq (c_seq (wp_reg zd (l_v (zmI rfl) (l_v (v_lss rfl rfl) ?_))))))
   refine l_nil (n_then (c_cond rfl rfl (fun hc2 => ?_) (fun hc2 => ?_)))
   ·
    have := dtrue hc2; omega
   refine c_skip (n_then (c_seq (wp_reg zd (l_v (zmP rfl) (l_v (v_nilCheck rfl) ?_)))))
   refine l_v (v_fieldAddr (off := 0) (ft := 24) zk rfl) (l_v (v_load zk rfl ((hb0.ext e1).pv 0 _ rfl)) ?_)
   refine l_v (v_build (pl := [(0, 1)]) (z := .agg #[.slice none 0 0]) (zl := [.slice none 0 0]) zk (by unfold kZero; kernel_rfl) rfl rfl (cells := [_]) rfl) ?_
   refine l_to (to_box (zvA rfl) ?_)
   rintro b2 w2 rfl hb2 e2 z2
   have := e2.size
   have e12 := e1.trans e2
   refine l_v (zaP rfl) (l_nil (n_then (c_seq (wp_reg zd (l_v (zmP rfl) (l_to (to_f1 zk (zvP rfl) (CallsR.mono (rNumber_c (b := w1.heap.size) (l := l) (F := F) ⟨a, c, hb2, hv.ext e12⟩ (fun h => by have := hF _ h; omega)) ?_))))))))
   rintro r w3 ⟨hr3, h3, k3⟩
   have := k3.size
   rw [numV, hd] at hr3
   simp only [] at hr3
   rw [← hz] at hr3
   subst hr3
   have e3 : Ext w w3 := e12.step k3 fun i hi h => by omega
   have hrest : rest l = l' := by rw [rest, hd]
   rw [hrest] at h3
   refine l_v (zmT rfl) (l_v (v_extract (t := .int _ _) rfl rfl) (l_v (v_extract (t := .int _ _) rfl rfl) (l_v (zaI rfl) (l_v (zaI rfl) (l_nil (n_then (c_seq (c_seq (wp_reg zd ?_)))))))))
   refine l_v (zmI rfl) (l_v (v_eql rfl rfl) ?_)
   refine l_v (zmB rfl) (l_g1 rfl rfl (fun hG => zmI rfl) (l_g1 rfl rfl (fun hG => zmI rfl) (l_g1 rfl rfl (fun hG => v_conv (ds := .int .i64) zk zk (gd hG rfl) (by first | exact wr_u64 zo zo | rfl)) ?_)))
   refine l_g1 rfl rfl (fun hG => v_gtr (gd hG rfl) (gd hG rfl)) ?_
   refine l_v (v_and rfl rfl) ?_
   refine l_nil (n_then (c_cond rfl rfl (fun hc3 => ?_) (fun hc3 => ?_)))
   ·
    simp at hc3; omega
   refine c_skip (n_then (c_seq (c_seq (wp_reg zd (l_v (zmI rfl) (l_v (v_eql rfl rfl) ?_))))))
   refine l_nil (n_then (c_cond rfl rfl (fun hc4 => ?_) (fun hc4 => ?_)))
   ·
    refine wp_reg zd (l_v (zmF rfl) (l_v (zmP rfl) (l_v (zmI rfl) (l_v (v_conv (ds := .int .u64) zk zk rfl (by first | exact wr_i64 zo zo | rfl)) ?_))))
    refine l_to (to_call2 hb rfl (zvP rfl) (zvI rfl) (CallsR.mono (hread w3 _ l' n e3 zo h3 hll hnm) ?_))
    rintro r4 w4 ⟨hr4, k4⟩
    have := k4.size
    rw [hρ] at hr4
    obtain ⟨a4, c4, hr4, hx4, a5, c5, hb5, hv5⟩ := hr4
    subst hr4
    have e4 : Ext w w4 := e3.step k4 fun i hi h => by omega
    refine l_v (zmT rfl) (l_v (v_extract (t := .slice _ _ _) rfl rfl) (l_v (v_extract (t := .int _ _) rfl rfl) (l_v (zaS rfl) (l_v (zaI rfl) (l_nil (n_then (c_seq (c_seq (wp_reg zd ?_)))))))))
    refine l_v (zmI rfl) (l_v (v_neq rfl rfl) ?_)
    refine l_nil (n_then (c_cond rfl rfl (fun hc5 => ?_) (fun hc5 => ?_)))
    ·
     simp at hc5
    refine c_skip (n_then (c_seq (wp_reg zd (l_v (zmP rfl) (l_v (zmP rfl) (l_v (v_nilCheck rfl) ?_))))))
    refine l_v (v_loadA zk rfl hb5.pv rfl) ?_
    refine l_v (v_nilCheck rfl) ?_
    refine l_to (to_storeA (n := 1) rfl rfl (zvA rfl) zk rfl (by first | (simp [slice_one]; done) | (simp only [List.forall_mem_cons, List.cons_append, List.nil_append]; repeat' (first | exact rfl | apply And.intro | (intro u hu; cases hu; done)))) (hb0.ext e4) dj5 ?_)
    rintro w5 h5 k5 z5
    have := k5.size
    refine l_nil (n_then (c_seq (wp_reg zd (l_v (zmS rfl) (l_v (zaS rfl) (l_v (v_assign rfl) (l_nil (n_then (c_ret ?_)))))))))
    refine ret2 rfl zq zq ?_
    refine ⟨?_, e4.keep.trans k5⟩
    rw [htr, hρ]
    refine ⟨_, _, rfl, (hx4.base zo).mono (F' := fun k => w.heap.size ≤ k) (fun i _ hi => by omega) |>.keep k5 (fun i hi h => ?_) (fun i _ hi _ h => by omega), a5, c5, h5, hv5.keep k5 fun i _ hi h => hnF (by subst h; exact hi)⟩
    have := (hx4.own_lt hi).1
    omega
   have := dfalse hc4; omega
 have htr : tryRd ρ most.toNat l = .error 3 := by rw [tryRd, hd]; simp only []; rw [if_neg zo]
 refine enter 56 Tryz.func105 rfl rfl (by simp) ?_
 refine c_seq (wp_reg zd (l_v (v_assign rfl) (l_v (v_assign rfl) (l_nil (n_then (c_seq (wp_reg zd (l_v (v_assign rfl) (l_nil ?_)))))))))
 refine n_then (c_seq (c_seq (wp_reg zd (l_v (zmP rfl) (l_to (to_f1 zk (zvP rfl) (CallsR.mono (closed_c hb0) ?_)))))))
 rintro _ w1 ⟨rfl, e1⟩
 have := e1.size
 refine l_nil (n_then (c_cond rfl rfl (fun hc => ?_) (fun hc => ?_)))
 ·
  cases hc
 refine c_skip (n_then (c_seq (c_seq (wp_reg zd (l_v (zmI rfl) (l_v (v_lss rfl rfl) ?_))))))
 refine l_nil (n_then (c_cond rfl rfl (fun hc2 => ?_) (fun hc2 => ?_)))
 ·
  have := dtrue hc2; omega
 refine c_skip (n_then (c_seq (wp_reg zd (l_v (zmP rfl) (l_v (v_nilCheck rfl) ?_)))))
 refine l_v (v_fieldAddr (off := 0) (ft := 24) zk rfl) (l_v (v_load zk rfl ((hb0.ext e1).pv 0 _ rfl)) ?_)
 refine l_v (v_build (pl := [(0, 1)]) (z := .agg #[.slice none 0 0]) (zl := [.slice none 0 0]) zk (by unfold kZero; kernel_rfl) rfl rfl (cells := [_]) rfl) ?_
 refine l_to (to_box (zvA rfl) ?_)
 rintro b2 w2 rfl hb2 e2 z2
 have := e2.size
 have e12 := e1.trans e2
 refine l_v (zaP rfl) (l_nil (n_then (c_seq (wp_reg zd (l_v (zmP rfl) (l_to (to_f1 zk (zvP rfl) (CallsR.mono (rNumber_c (b := w1.heap.size) (l := l) (F := F) ⟨a, c, hb2, hv.ext e12⟩ (fun h => by have := hF _ h; omega)) ?_))))))))
 rintro r w3 ⟨hr3, h3, k3⟩
 have := k3.size
 rw [numV, hd] at hr3
 simp only [] at hr3
 rw [← hz] at hr3
 subst hr3
 have e3 : Ext w w3 := e12.step k3 fun i hi h => by omega
 refine l_v (zmT rfl) (l_v (v_extract (t := .int _ _) rfl rfl) (l_v (v_extract (t := .int _ _) rfl rfl) (l_v (zaI rfl) (l_v (zaI rfl) (l_nil (n_then (c_seq (c_seq (wp_reg zd ?_)))))))))
 refine l_v (zmI rfl) (l_v (v_eql rfl rfl) ?_)
 refine l_v (zmB rfl) (l_g1 rfl rfl (fun hG => zmI rfl) (l_g1 rfl rfl (fun hG => zmI rfl) (l_g1 rfl rfl (fun hG => v_conv (ds := .int .i64) zk zk (gd hG rfl) (by first | exact wr_u64 zo zo | rfl)) ?_)))
 refine l_g1 rfl rfl (fun hG => v_gtr (gd hG rfl) (gd hG rfl)) ?_
 refine l_v (v_and rfl rfl) ?_
 refine l_nil (n_then (c_cond rfl rfl (fun hc3 => ?_) (fun hc3 => ?_)))
 ·
  refine wp_reg zd (l_v (v_assign rfl) (l_nil (n_then (c_seq (c_seq (wp_reg zd (l_v (zmI rfl) (l_v (v_eql rfl rfl) ?_))))))))
  refine l_nil (n_then (c_cond rfl rfl (fun hc4 => ?_) (fun hc4 => ?_)))
  ·
   have := dtrue hc4; omega
  refine c_skip (n_then (c_seq (c_seq (wp_reg zd (l_v (zmI rfl) (l_v (v_neq rfl rfl) ?_))))))
  refine l_nil (n_then (c_cond rfl rfl (fun hc5 => ?_) (fun hc5 => ?_)))
  ·
   refine c_seq (wp_reg zd (l_v (zmS rfl) (l_v (zmI rfl) (l_v (zaS rfl) (l_v (zaI rfl) (l_nil (n_then (c_ret (r_then ?_)))))))))
   refine ret2 rfl zq zq ?_
   refine ⟨?_, e3.keep⟩
   rw [htr]
   exact ⟨by omega, rfl, ⟨a, c, hb0.ext e3, hv.ext e3⟩⟩
  simp at hc5
 simp at hc3; omega
theorem takeI_c {w : World} {b : Nat} {F : Nat → Prop} {l : List UInt8} {most : Int} {fr : Nat} {cap : Array Value} (hr : Rd nRd w b F l) (hF : ∀ k, F k → k < b) (hm : 0 ≤ most) (hm2 : most ≤ 9223372036854775807) (hl : l.length ≤ 1000000000000) (hb : kBody Tryz.prog fr = true)
    (ρ : List UInt8 → Except Int (IkV × List UInt8)) (hρ : ∀ l x l2, ρ l = .ok (x, l2) → l2.length < l.length)
    (hone : ∀ (w1 : World) (c : Nat) (l1 : List UInt8), Ext w w1 → w.heap.size ≤ c → Rd nRd w1 c F l1 → l1.length ≤ l.length → CallsR Tryz.prog fr (#[.pointer (some ⟨c, 0, none⟩)] ++ cap) w1 (fun r w2 => OneVI w1 w2 c F (ρ l1) r ∧ Keep (fun k => k = c) w1 w2)) :
    CallsR Tryz.prog 80 #[.pointer (some ⟨b, 0, none⟩), .int .i64 most, .func (.func fr) #[] cap] w (fun r w' => TryV (tIk) 93 nRd w w' b F l (tryRd (rdList ρ) most.toNat l) r ∧ Keep (fun k => k = b) w w') := by
 have hblt : b < w.heap.size := by obtain ⟨_, _, h, _⟩ := hr; exact h.lt
 cases hq : tryRd (rdList ρ) most.toNat l with
 | error er =>
  refine enter 16 Tryz.func80 rfl rfl (by simp) ?_
  refine c_seq (wp_reg zd (l_to (to_box (show _ = (Value.func _ _ _) from rfl) ?_)))
  rintro b1 w1 rfl hb1 e1 z1
  have := e1.size
  refine l_v (v_assign rfl) (l_v (v_assign rfl) (l_nil (n_then (c_seq (c_seq (wp_reg zd (l_v (v_load zk rfl (hb1.pv 0 _ rfl)) ?_)))))))
  refine l_v (v_feqlnil (ps := #[66]) (rs := #[93, 36]) (v := false) zk rfl rfl) ?_
  refine l_nil (n_then (c_cond rfl rfl (fun hc => ?_) (fun hc => ?_)))
  ·
   cases hc
  refine c_skip (n_then (c_seq (wp_reg zd (l_v (zmP rfl) (l_v (zmI rfl) (l_v (v_makeFunc (by simp [ev]; rfl) (by simp [ev]; rfl)) ?_))))))
  refine l_to (to_f3 zk (zvP rfl) (zvI rfl) (show _ = (Value.func _ _ _) from rfl) (CallsR.mono (tryI_c (cap := #[.pointer (some ⟨w.heap.size, 0, none⟩)]) (hr.ext e1) hF hm hm2 zk (rdList ρ) (fun w2 c l1 n e2 hc1 hr1 hl1 hn1 => by simpa using takeInI_c hr1 (fun k hk => by have := hF k hk; have := e2.size; omega) (fun h => by have := hF _ h; omega) zo zo hb (hb1.ext e2) zo ρ hρ (fun w3 l3 k3 hr3 hl3 => hone w3 c l3 ((e1.trans e2).step k3 (fun i hi h => by omega)) zo hr3 zo))) ?_))
  rintro r w2 ⟨h2, k2⟩
  have := k2.size
  rw [hq] at h2
  obtain ⟨her, rfl, h3⟩ := h2
  refine l_v (v_extract (t := .slice _ _ _) rfl rfl) (l_v (v_extract (t := .int _ _) rfl rfl) (l_v (zaS rfl) (l_v (zaI rfl) (l_nil (n_then (c_ret (ret2 rfl zq zq ?_)))))))
  exact ⟨⟨her, rfl, h3⟩, (e1.mono fun _ _ h => h.elim).trans k2⟩
 | ok xl =>
  obtain ⟨x, l2⟩ := xl
  refine enter 16 Tryz.func80 rfl rfl (by simp) ?_
  refine c_seq (wp_reg zd (l_to (to_box (show _ = (Value.func _ _ _) from rfl) ?_)))
  rintro b1 w1 rfl hb1 e1 z1
  have := e1.size
  refine l_v (v_assign rfl) (l_v (v_assign rfl) (l_nil (n_then (c_seq (c_seq (wp_reg zd (l_v (v_load zk rfl (hb1.pv 0 _ rfl)) ?_)))))))
  refine l_v (v_feqlnil (ps := #[66]) (rs := #[93, 36]) (v := false) zk rfl rfl) ?_
  refine l_nil (n_then (c_cond rfl rfl (fun hc => ?_) (fun hc => ?_)))
  ·
   cases hc
  refine c_skip (n_then (c_seq (wp_reg zd (l_v (zmP rfl) (l_v (zmI rfl) (l_v (v_makeFunc (by simp [ev]; rfl) (by simp [ev]; rfl)) ?_))))))
  refine l_to (to_f3 zk (zvP rfl) (zvI rfl) (show _ = (Value.func _ _ _) from rfl) (CallsR.mono (tryI_c (cap := #[.pointer (some ⟨w.heap.size, 0, none⟩)]) (hr.ext e1) hF hm hm2 zk (rdList ρ) (fun w2 c l1 n e2 hc1 hr1 hl1 hn1 => by simpa using takeInI_c hr1 (fun k hk => by have := hF k hk; have := e2.size; omega) (fun h => by have := hF _ h; omega) zo zo hb (hb1.ext e2) zo ρ hρ (fun w3 l3 k3 hr3 hl3 => hone w3 c l3 ((e1.trans e2).step k3 (fun i hi h => by omega)) zo hr3 zo))) ?_))
  rintro r w2 ⟨h2, k2⟩
  have := k2.size
  rw [hq] at h2
  obtain ⟨a4, c4, rfl, o4, h4⟩ := h2
  refine l_v (v_extract (t := .slice _ _ _) rfl rfl) (l_v (v_extract (t := .int _ _) rfl rfl) (l_v (zaS rfl) (l_v (zaI rfl) (l_nil (n_then (c_ret (ret2 rfl zq zq ?_)))))))
  exact ⟨⟨a4, c4, rfl, (o4.base zo).mono (fun i _ h => by omega), h4⟩, (e1.mono fun _ _ h => h.elim).trans k2⟩
theorem oneLi_c {w : World} {b : Nat} {F : Nat → Prop} {l : List UInt8} (HR : Rd nRd w b F l) (hF : ∀ k, F k → k < b) (hl : l.length ≤ 1000000) : CallsR Tryz.prog 81 (#[.pointer (some ⟨b, 0, none⟩)] ++ #[]) w (fun r w2 => OneVI w w2 b F (rdLi l) r ∧ Keep (fun k => k = b) w w2) := by
 have hblt : b < w.heap.size := by obtain ⟨_, _, h, _⟩ := HR; exact h.lt
 have hnF : ¬ F b := fun h => absurd (hF b h) (Nat.lt_irrefl b)
 show CallsR _ _ #[_] _ _
 refine enter 19 Tryz.func81 rfl rfl (by simp) ?_
 refine c_seq ?_
 have E := Keep.refl (K := fun k => k = b) w
 refine wp_reg zd (l_to (to_alloc (z := (.agg #[.slice none 0 0, .int .i64 0, .int .i64 0, .slice none 0 0])) (by unfold kZero; kernel_rfl) ?_))
 rintro b2 w2 zb2 HB2 e2 z2
 have := e2.size
 try simp only [Value.cells] at HB2
 replace HR := HR.ext e2
 refine l_v (v_assign rfl) (l_nil (n_then (c_seq (wp_reg zd (l_v (zmP rfl) (l_to (to_f2 zk (zvP rfl) (zvI rfl) (CallsR.mono (Bytes2_c (most := 65636) HR hF zq zq zo) ?_))))))))
 rintro r w3 ⟨hr3, k3⟩
 have := k3.size
 obtain ⟨a3, c3, er3, fr, l1, rfl, HO3, HR3, hx3⟩ := TryV_any hr3
 have zo_HO3 := fun (b : Nat) h => HO3.own_lt (b := b) h
 refine l_v (zmT rfl) (l_v (v_extract (t := .slice _ _ _) rfl rfl) (l_v (v_extract (t := .int _ _) rfl rfl) (l_v (zaS rfl) (l_v (zaI rfl) (l_nil (n_then (c_seq (c_seq (wp_reg zd ?_)))))))))
 refine l_v (zmI rfl) (l_v (v_neq rfl rfl) ?_)
 replace E := (E.trans e2.keep).step k3 dj3
 replace HB2 := HB2.keep k3 dj4
 refine l_nil (n_then (c_cond rfl rfl (fun hc => ?_) (fun hc => ?_)))
 ·
  refine c_seq (wp_reg zd (l_v (v_build (pl := [(0, 1), (1, 1), (2, 1), (3, 1)]) (z := .agg #[.slice none 0 0, .int .i64 0, .int .i64 0, .slice none 0 0]) (zl := [.slice none 0 0, .int .i64 0, .int .i64 0, .slice none 0 0]) zk (by unfold kZero; kernel_rfl) rfl rfl (cells := [_, _, _, _]) rfl) ?_))
  refine l_v (zmI rfl) (l_to (to_storeA (n := 4) rfl rfl (zvA rfl) zk rfl dj6 HB2 dj5 ?_))
  rintro w101 HX101 k101 z101
  have := k101.size
  replace HB2 := HX101
  clear HX101
  try simp only [zS, Nat.zero_add, Nat.reduceAdd, List.drop_nil] at HB2
  refine l_v (zaI rfl) (l_nil (n_then (c_ret (r_then (ret2cv (n := 4) rfl zq zq rfl zk HB2.pv rfl (zvI rfl) ?_)))))
  replace E := E.step k101 dj3
  refine ⟨?_, E⟩
  replace HO3 := HO3.keep k101 (by intro i ho he; have he0 := he; have ho0 := ho; (try dsimp only [NoK] at he); (try simp only [Value.ownBlock, Option.some.injEq, reduceCtorEq] at ho); (try simp only [Value.ownBlock, Option.some.injEq, reduceCtorEq] at he); first | exact he.elim | exact ho.elim | omega | (have := zo_HO3 _ ho0; omega)) (by intro i _ hi _ he; have he0 := he; have hi := hi; have he := he; (try dsimp only [NoK, AllB] at hi he); (try simp only [Value.ownBlock, Option.some.injEq, reduceCtorEq] at he); all_goals first | exact hi.elim | exact hi.1.elim | exact he.elim | omega | (rcases hi with hi | hi <;> omega) | (rcases he with he | he <;> omega))
  replace HR3 := HR3.keep k101 dj7 (by intro i hi he; have hi0 := hi; have hi := hi; have he := he; (try dsimp only [NoK] at hi he); first | exact he.elim | omega | (have := hF i hi0; omega))
  rcases hx3 with ⟨he, hq⟩ | ⟨he, _, _, _, _, hq⟩
  ·
   subst he; cases hc
  have h : rdLi l = .error er3 := by rw [rdLi, show rdBytes 65636 l = _ from hq]
  rw [h]
  exact ⟨he, _, ik0, rfl, AgV.rep (cs := [_, _, _, _]) ik0_ag⟩
 have he3 : er3 = 0 := by simpa using hc
 have hq3 : rdBytes 65636 l = .ok (fr, l1) := hx3.elim (fun h => h.2) (fun h => absurd he3 h.1)
 have hfl := (rdBytes_le' hq3).2.1
 refine c_skip (n_then (c_seq (wp_reg zd (l_v (zmS rfl) (l_to (to_f1 zk (zvS rfl) (CallsR.mono (iRead_c HO3.view zo) ?_)))))))
 rintro _ w5 ⟨⟨u5, x5, er5, rfl, HG5, hx5⟩, e5⟩
 have := e5.size
 obtain ⟨b5, d5, b6, d6, rfl, _⟩ := HG5.ik
 replace HB2 := HB2.ext e5
 refine l_v (v_extract (t := .agg _) rfl rfl) (l_v (v_extract (t := .int _ _) rfl rfl) (l_to (to_storeA (n := 4) rfl rfl (zvA rfl) zk rfl dj6 HB2 dj5 ?_)))
 rintro w102 HX102 k102 z102
 have := k102.size
 replace HB2 := HX102
 clear HX102
 try simp only [zS, Nat.zero_add, Nat.reduceAdd, List.drop_nil] at HB2
 refine l_v (zaI rfl) (l_nil (n_then (c_ret (ret2cv (n := 4) rfl zq zq rfl zk HB2.pv rfl (zvI rfl) ?_))))
 replace E := (E.trans e5.keep).step k102 dj3
 refine ⟨?_, E⟩
 replace HO3 := (HO3.ext e5).keep k102 (by intro i ho he; have he0 := he; have ho0 := ho; (try dsimp only [NoK] at he); (try simp only [Value.ownBlock, Option.some.injEq, reduceCtorEq] at ho); (try simp only [Value.ownBlock, Option.some.injEq, reduceCtorEq] at he); first | exact he.elim | exact ho.elim | omega | (have := zo_HO3 _ ho0; omega)) (by intro i _ hi _ he; have he0 := he; have hi := hi; have he := he; (try dsimp only [NoK, AllB] at hi he); (try simp only [Value.ownBlock, Option.some.injEq, reduceCtorEq] at he); all_goals first | exact hi.elim | exact hi.1.elim | exact he.elim | omega | (rcases hi with hi | hi <;> omega) | (rcases he with he | he <;> omega))
 replace HR3 := (HR3.ext e5).keep k102 dj7 (by intro i hi he; have hi0 := hi; have hi := hi; have he := he; (try dsimp only [NoK] at hi he); first | exact he.elim | omega | (have := hF i hi0; omega))
 replace HG5 := HG5.keep k102 dj1
 rcases hx5 with ⟨rfl, hq5⟩ | ⟨rfl, _, hq5⟩
 ·
  have h : rdLi l = .ok (x5, l1) := by rw [rdLi, hq3]; simp only []; rw [hq5]
  rw [h]
  exact ⟨_, rfl, AgV.rep (cs := [_, _, _, _]) (HG5.mono fun i _ h => by omega), HR3⟩
 have h : rdLi l = .error 4 := by rw [rdLi, hq3]; simp only []; rw [hq5]
 rw [h]
 exact ⟨by decide, _, x5, rfl, AgV.rep (cs := [_, _, _, _]) (HG5.mono fun i _ h => by omega)⟩
theorem Lists_c {w : World} {F : Nat → Prop} {v : Value} {l : List UInt8} (HS1 : Bv w F v l) (hl : l.length ≤ 1000000) : CallsR Tryz.prog 38 #[v] w (fun o w' => (∃ a c xs e, o = .tuple #[.slice a xs.length c, .int .i64 e] ∧ SlV tIk w' (fun i => w.heap.size ≤ i) (.slice a xs.length c) xs ∧ ((e = 0 ∧ rdLs l = some xs) ∨ (e = 4 ∧ xs = [] ∧ rdLs l = none))) ∧ Ext w w') := by
 obtain ⟨a0, c0, rfl⟩ := HS1.shape
 refine enter 22 Tryz.func38 rfl rfl (by simp) ?_
 refine c_seq ?_
 have E := Keep.refl (K := NoK) w
 replace HS1 := HS1.all
 refine wp_reg zd (l_v (v_assign rfl) (l_v (v_assign rfl) (l_nil (n_then (c_seq (wp_reg zd (l_v (zmS rfl) (l_to (to_f1 zk (zvS rfl) (CallsR.mono (Open_c HS1 zo) ?_))))))))))
 rintro _ w11 ⟨b4, rfl, HR4, hb4, e11, zb4⟩
 have := e11.size
 refine l_v (zaP rfl) (l_nil (n_then (c_seq (wp_reg zd (l_v (zmP rfl) (l_to (to_f3 zk (zvP rfl) (zvI rfl) rfl (CallsR.mono (takeI_c (cap := #[]) HR4 (fun k hk => hk.2) zq zq zo zk rdLi rdLi_short (fun w1 c l1 e hc r hl => oneLi_c r (fun k hk => by have := hk.2; omega) zo)) ?_))))))))
 rintro r w14 ⟨hr14, k14⟩
 have := k14.size
 obtain ⟨a5, c5, er, ls, l2, rfl, HO5, HR5, hx5⟩ := TryV_any hr14
 have zo_HO5 := fun (b : Nat) h => HO5.own_lt (b := b) h
 refine l_v (zmT rfl) (l_v (v_extract (t := .slice _ _ _) rfl rfl) (l_v (v_extract (t := .int _ _) rfl rfl) (l_v (zaS rfl) (l_v (zaI rfl) (l_nil (n_then (c_seq (c_seq (wp_reg zd ?_)))))))))
 refine l_v (zmI rfl) (l_v (v_neq rfl rfl) ?_)
 refine l_v (zmB rfl) (l_g1 rfl rfl (fun hG => zmP rfl) (l_g1f rfl rfl (fun hG => to_f1 zk (gd hG rfl) (End_c HR5)) ?_))
 rintro w101 e101
 have := e101.size
 refine l_g1 rfl rfl (fun hG => v_neq (gd hG rfl) rfl) ?_
 refine l_v (v_or rfl rfl) ?_
 replace E := ((E.trans e11.keep).step k14 dj3).trans e101.keep
 replace HS1 := ((HS1.ext e11).keep k14 dj1).ext e101
 replace HO5 := HO5.ext e101
 replace HR5 := HR5.ext e101
 refine l_nil (n_then (c_cond rfl rfl (fun hc => ?_) (fun hc => ?_)))
 ·
  refine c_seq (wp_reg zd (l_v (v_assign rfl) (l_v (v_assign rfl) (l_nil (n_then (c_ret (r_then (ret2v rfl zq zq (zvS rfl) (zvI rfl) ?_))))))))
  refine ⟨⟨none, 0, [], 4, rfl, SlV.nil _ _ _, .inr ⟨rfl, rfl, ?_⟩⟩, E⟩
  rw [rdLs]
  rcases hx5 with ⟨he, hq⟩ | ⟨_, _, _, _, _, hq⟩
  ·
   rw [show tryRd (rdList rdLi) 65536 l = _ from hq]
   cases l2 with
   | nil => subst he; cases hc
   | cons => rfl
  rw [show tryRd (rdList rdLi) 65536 l = _ from hq]
 refine c_skip (n_then (c_seq (wp_reg zd (l_v (zmS rfl) (l_v (zaS rfl) (l_v (v_assign rfl) (l_nil (n_then (c_ret ?_)))))))))
 refine ret2v rfl zq zq (zvS rfl) (zvI rfl) ?_
 refine ⟨⟨a5, c5, ls, 0, rfl, HO5.view.mono (fun i _ h => h.elim (fun h => by omega) (fun h => by omega)), .inl ⟨rfl, ?_⟩⟩, E⟩
 rw [rdLs]
 rcases hx5 with ⟨he, hq⟩ | ⟨he, _⟩
 ·
  rw [show tryRd (rdList rdLi) 65536 l = _ from hq]
  cases l2 with
  | nil => rfl
  | cons => subst he; cases hc
 exfalso; simp [he] at hc
end Go.Proofs.YtogafjlbpodgjaaGreat

namespace Go.Proofs.YtogafjlbpodgjaaGreat
open Go.Vc
set_option linter.unusedVariables false
set_option linter.unusedSimpArgs false
set_option maxRecDepth 100000

theorem rdSm_ok {m : Int} {l : List UInt8} {n : Nat} {r : List UInt8} (h : rdSm m l = some (n, r)) : l = wNum n ++ r ∧ (n : Int) ≤ m ∧ r.length ≤ l.length := by
  unfold rdSm at h
  split at h
  · cases h
  · next n' r' hd =>
    by_cases hle : (n' : Int) ≤ m
    · rw [if_pos hle] at h; cases h
      have := congrArg List.length (rdNum_form hd)
      rw [List.length_append] at this
      exact ⟨rdNum_form hd, hle, by omega⟩
    · rw [if_neg hle] at h; cases h
theorem rdSm_back {m : Int} {n : Nat} {r : List UInt8} (h : (n : Int) ≤ m) (hn : n < 18446744073709551616) : rdSm m (wNum n ++ r) = some (n, r) := by
  unfold rdSm
  rw [rdNum_wNum hn]; simp only []; rw [if_pos h]
theorem rdRw_ok {m : Nat} {l x r : List UInt8} (h : rdRw m l = some (x, r)) : l = wBytes x ++ r ∧ x.length ≤ m ∧ r.length ≤ l.length := by
  unfold rdRw at h
  split at h
  · next hq =>
    cases h
    obtain ⟨a, b, c⟩ := rdBytes_le' hq
    exact ⟨c, b, a⟩
  · cases h
theorem rdRw_back {m : Nat} {x r : List UInt8} (h : x.length ≤ m) (hm : m < 18446744073709551616) : rdRw m (wBytes x ++ r) = some (x, r) := by
  unfold rdRw
  rw [rdBytes_wB' h hm]
theorem rdFlag_ok {l r : List UInt8} {x : Bool} (h : rdFlag l = some (x, r)) : l = wFlag x ++ r ∧ r.length ≤ l.length := by
  unfold rdFlag at h
  split at h
  · cases h
  · next c r' =>
    split at h
    · cases h
    · next hc =>
      cases h
      refine ⟨?_, by simp⟩
      have h2 : c.toNat = 0 ∨ c.toNat = 1 := by omega
      rcases h2 with h2 | h2
      · have : c = 0 := UInt8.toNat_inj.1 h2
        subst this; rfl
      · have : c = 1 := UInt8.toNat_inj.1 h2
        subst this; rfl
theorem rdFlag_back {x : Bool} {r : List UInt8} : rdFlag (wFlag x ++ r) = some (x, r) := by cases x <;> rfl
/-- the move that bytes begin with -/
def rdMv (l : List UInt8) : Option (MvV × List UInt8) := match rdSm 2147483647 l with
  | none => none
  | some (n, l1) => match rdRw 24 l1 with
    | none => none
    | some (f, l2) => match rdFlag l2 with
      | none => none
      | some (e, l3) => match rdRw 24 l3 with
        | none => none
        | some (t, l4) => match rdSm 5 l4 with
          | none => none
          | some (o, l5) => match rdSm 5 l5 with
            | none => none
            | some (g, l6) => some (((n : Int), f, t, e, (o : Int), (g : Int)), l6)
/-- the ask that bytes begin with -/
def rdAk (l : List UInt8) : Option (AkV × List UInt8) := match rdSm 5 l with
  | none => none
  | some (k, l1) => match rdRw 24 l1 with
    | none => none
    | some (key, l2) => match (if (nmT k).2.1 = true then rdRw 24 l2 else some ([], l2)) with
      | none => none
      | some (to, l3) => match (if (nmT k).2.2.1 = true then rdRw 40 l3 else some ([], l3)) with
        | none => none
        | some (val, l4) => match (if (nmT k).2.2.2.1 = true then rdRw 40 l4 else some ([], l4)) with
          | none => none
          | some (was, l5) => match (if (nmT k).2.2.2.1 = true then rdFlag l5 else some (false, l5)) with
            | none => none
            | some (no, l6) => match (if (nmT k).2.2.2.2 = true then rdSm 32 l6 else some (0, l6)) with
              | none => none
              | some (most, l7) => some (((k : Int), key, to, val, was, no, (most : Int)), l7)
theorem nmT_cases (k : Nat) : ((nmT k).2.1 = true ∧ (nmT k).2.2.1 = false ∧ (nmT k).2.2.2.1 = false ∧ (nmT k).2.2.2.2 = true) ∨ ((nmT k).2.1 = false ∧ (nmT k).2.2.2.2 = false ∧ ((nmT k).2.2.2.1 = true → (nmT k).2.2.1 = true)) := by
  unfold nmT
  split
  · exact .inr ⟨rfl, rfl, fun h => by cases h⟩
  · split
    · exact .inr ⟨rfl, rfl, fun h => by cases h⟩
    · split
      · exact .inr ⟨rfl, rfl, fun _ => rfl⟩
      · split
        · exact .inl ⟨rfl, rfl, rfl, rfl⟩
        · exact .inr ⟨rfl, rfl, fun h => by cases h⟩
set_option maxHeartbeats 4000000 in
theorem aMove_u {w : World} {b : Nat} {F : Nat → Prop} {l : List UInt8} (HR : Rd nRd w b F l) (hF : ∀ k, F k → k < b) (hl : l.length ≤ 1000000) :
    CallsU Tryz.prog 37 #[.pointer (some ⟨b, 0, none⟩)] w (fun o w' => ∃ m r, rdMv l = some (m, r) ∧ AgV tMv w' (fun i => w.heap.size ≤ i) o m ∧ Rd nRd w' b F r ∧ Keep (fun k => k = b) w w') (fun ch w' => rdMv l = none ∧ ch = nonE ∧ Keep (fun k => k = b) w w') := by
 have hblt : b < w.heap.size := by obtain ⟨_, _, h, _⟩ := HR; exact h.lt
 have hnF : ¬ F b := fun h => absurd (hF b h) (Nat.lt_irrefl b)
 refine enterU 23 Tryz.func37 rfl rfl (by simp) ?_
 refine c_seq ?_
 have E := Keep.refl (K := fun k => k = b) w
 refine wp_reg zd (l_to (to_alloc (z := (.agg #[.int .i64 0, .slice none 0 0, .slice none 0 0, .bool false, .int .i64 0, .int .i64 0])) (by unfold kZero; kernel_rfl) ?_))
 rintro b2 w2 zb2 HB2 e2 z2
 have := e2.size
 try simp only [Value.cells] at HB2
 refine l_nil (n_then ?_)
 replace E := E.trans e2.keep
 replace HR := HR.ext e2
 by_cases h0 : rdSm 2147483647 l = none
 ·
  refine c_seq (wp_reg zd (l_v (zmP rfl) (l_die (die_f2 zk (zvP rfl) (zvI rfl) (CallsP.mono (small_d (most := 2147483647) HR hnF zq zq h0) ?_)))))
  rintro ch w101 ⟨hch, k101⟩
  have := k101.size
  refine p_then ?_
  refine p_endU ?_
  replace E := E.step k101 dj3
  exact ⟨by simp only [rdMv, h0], hch, E⟩
 refine c_seq ?_
 obtain ⟨⟨n, l1⟩, h0⟩ := Option.ne_none_iff_exists'.1 h0
 have bh0 := rdSm_ok h0
 refine wp_reg zd (l_v (zmP rfl) (l_to (to_f2 zk (zvP rfl) (zvI rfl) (CallsR.mono (small_c (most := 2147483647) HR hnF zq zq h0) ?_))))
 rintro _ w102 ⟨rfl, HR1, k102⟩
 have := k102.size
 refine l_v (v_build (pl := [(0, 1), (1, 1), (2, 1), (3, 1), (4, 1), (5, 1)]) (z := .agg #[.int .i64 0, .slice none 0 0, .slice none 0 0, .bool false, .int .i64 0, .int .i64 0]) (zl := [.int .i64 0, .slice none 0 0, .slice none 0 0, .bool false, .int .i64 0, .int .i64 0]) zk (by unfold kZero; kernel_rfl) rfl rfl (cells := [_, _, _, _, _, _]) rfl) ?_
 refine l_to (to_alloc (z := (.agg #[.int .i64 0, .slice none 0 0, .slice none 0 0, .bool false, .int .i64 0, .int .i64 0])) (by unfold kZero; kernel_rfl) ?_)
 rintro b3 w3 zb3 HB3 e3 z3
 have := e3.size
 try simp only [Value.cells] at HB3
 refine l_to (to_storeA (n := 6) rfl rfl (zvA rfl) zk rfl dj6 HB3 dj5 ?_)
 rintro w101 HX101 k101 z101
 have := k101.size
 replace HB3 := HX101
 clear HX101
 try simp only [zS, Nat.zero_add, Nat.reduceAdd, List.drop_nil] at HB3
 refine l_nil (n_then ?_)
 replace E := ((E.step k102 dj3).trans e3.keep).step k101 dj3
 replace HB2 := ((HB2.keep k102 dj4).ext e3).keep k101 dj4
 replace HR1 := (HR1.ext e3).keep k101 dj7 (by intro i hi he; have hi0 := hi; have hi := hi; have he := he; (try dsimp only [NoK] at hi he); first | exact he.elim | omega | (have := hF i hi0; omega))
 by_cases h1 : rdRw 24 l1 = none
 ·
  refine c_seq (wp_reg zd (l_v (zmP rfl) (l_die (die_f2 zk (zvP rfl) (zvI rfl) (CallsP.mono (raw_d (most := 24) HR1 hF zq zq zo h1) ?_)))))
  rintro ch w103 ⟨hch, k103⟩
  have := k103.size
  refine p_then ?_
  refine p_endU ?_
  replace E := E.step k103 dj3
  exact ⟨by simp only [rdMv, h0, h1], hch, E⟩
 refine c_seq ?_
 obtain ⟨⟨f, l2⟩, h1⟩ := Option.ne_none_iff_exists'.1 h1
 have bh1 := rdRw_ok h1
 refine wp_reg zd (l_v (zmP rfl) (l_to (to_f2 zk (zvP rfl) (zvI rfl) (CallsR.mono (raw_c (most := 24) HR1 hF zq zq zo h1) ?_))))
 rintro _ w104 ⟨⟨a104, c104, rfl, HF104⟩, HR2, k104⟩
 have := k104.size
 replace HB3 := HB3.keep k104 dj4
 refine l_v (v_fieldAddr (off := 1) (ft := 24) zk rfl) (l_to (to_store rfl rfl (zvS rfl) rfl zk HB3 dj5 ?_))
 rintro w102 HX102 k102 z102
 have := k102.size
 replace HB3 := HX102
 clear HX102
 try simp only [zS, Nat.zero_add, Nat.reduceAdd, List.drop_nil] at HB3
 refine l_nil (n_then ?_)
 replace E := (E.step k104 dj3).step k102 dj3
 replace HB2 := (HB2.keep k104 dj4).keep k102 dj4
 replace HF104 := HF104.keep k102 dj2
 replace HR2 := HR2.keep k102 dj7 (by intro i hi he; have hi0 := hi; have hi := hi; have he := he; (try dsimp only [NoK] at hi he); first | exact he.elim | omega | (have := hF i hi0; omega))
 by_cases h2 : rdFlag l2 = none
 ·
  refine c_seq (wp_reg zd (l_v (zmP rfl) (l_die (die_f1 zk (zvP rfl) (CallsP.mono (flag_d HR2 hnF h2) ?_)))))
  rintro ch w105 ⟨hch, k105⟩
  have := k105.size
  refine p_then ?_
  refine p_endU ?_
  replace E := E.step k105 dj3
  exact ⟨by simp only [rdMv, h0, h1, h2], hch, E⟩
 refine c_seq ?_
 obtain ⟨⟨en, l3⟩, h2⟩ := Option.ne_none_iff_exists'.1 h2
 have bh2 := rdFlag_ok h2
 refine wp_reg zd (l_v (zmP rfl) (l_to (to_f1 zk (zvP rfl) (CallsR.mono (flag_c HR2 hnF h2) ?_))))
 rintro _ w106 ⟨rfl, HR3, k106⟩
 have := k106.size
 replace HB3 := HB3.keep k106 dj4
 refine l_v (v_fieldAddr (off := 3) (ft := 4) zk rfl) (l_to (to_store rfl rfl (zvB rfl) rfl zk HB3 dj5 ?_))
 rintro w103 HX103 k103 z103
 have := k103.size
 replace HB3 := HX103
 clear HX103
 try simp only [zS, Nat.zero_add, Nat.reduceAdd, List.drop_nil] at HB3
 refine l_nil (n_then ?_)
 replace E := (E.step k106 dj3).step k103 dj3
 replace HB2 := (HB2.keep k106 dj4).keep k103 dj4
 replace HF104 := (HF104.keep k106 dj2).keep k103 dj2
 replace HR3 := HR3.keep k103 dj7 (by intro i hi he; have hi0 := hi; have hi := hi; have he := he; (try dsimp only [NoK] at hi he); first | exact he.elim | omega | (have := hF i hi0; omega))
 by_cases h3 : rdRw 24 l3 = none
 ·
  refine c_seq (wp_reg zd (l_v (zmP rfl) (l_die (die_f2 zk (zvP rfl) (zvI rfl) (CallsP.mono (raw_d (most := 24) HR3 hF zq zq zo h3) ?_)))))
  rintro ch w107 ⟨hch, k107⟩
  have := k107.size
  refine p_then ?_
  refine p_endU ?_
  replace E := E.step k107 dj3
  exact ⟨by simp only [rdMv, h0, h1, h2, h3], hch, E⟩
 refine c_seq ?_
 obtain ⟨⟨t, l4⟩, h3⟩ := Option.ne_none_iff_exists'.1 h3
 have bh3 := rdRw_ok h3
 refine wp_reg zd (l_v (zmP rfl) (l_to (to_f2 zk (zvP rfl) (zvI rfl) (CallsR.mono (raw_c (most := 24) HR3 hF zq zq zo h3) ?_))))
 rintro _ w108 ⟨⟨a108, c108, rfl, HF108⟩, HR4, k108⟩
 have := k108.size
 replace HB3 := HB3.keep k108 dj4
 refine l_v (v_fieldAddr (off := 2) (ft := 24) zk rfl) (l_to (to_store rfl rfl (zvS rfl) rfl zk HB3 dj5 ?_))
 rintro w104 HX104 k104 z104
 have := k104.size
 replace HB3 := HX104
 clear HX104
 try simp only [zS, Nat.zero_add, Nat.reduceAdd, List.drop_nil] at HB3
 refine l_nil (n_then ?_)
 replace E := (E.step k108 dj3).step k104 dj3
 replace HB2 := (HB2.keep k108 dj4).keep k104 dj4
 replace HF104 := (HF104.keep k108 dj2).keep k104 dj2
 replace HF108 := HF108.keep k104 dj2
 replace HR4 := HR4.keep k104 dj7 (by intro i hi he; have hi0 := hi; have hi := hi; have he := he; (try dsimp only [NoK] at hi he); first | exact he.elim | omega | (have := hF i hi0; omega))
 by_cases h4 : rdSm 5 l4 = none
 ·
  refine c_seq (wp_reg zd (l_v (zmP rfl) (l_die (die_f2 zk (zvP rfl) (zvI rfl) (CallsP.mono (small_d (most := 5) HR4 hnF zq zq h4) ?_)))))
  rintro ch w109 ⟨hch, k109⟩
  have := k109.size
  refine p_then ?_
  refine p_endU ?_
  replace E := E.step k109 dj3
  exact ⟨by simp only [rdMv, h0, h1, h2, h3, h4], hch, E⟩
 refine c_seq ?_
 obtain ⟨⟨og, l5⟩, h4⟩ := Option.ne_none_iff_exists'.1 h4
 have bh4 := rdSm_ok h4
 refine wp_reg zd (l_v (zmP rfl) (l_to (to_f2 zk (zvP rfl) (zvI rfl) (CallsR.mono (small_c (most := 5) HR4 hnF zq zq h4) ?_))))
 rintro _ w110 ⟨rfl, HR5, k110⟩
 have := k110.size
 replace HB3 := HB3.keep k110 dj4
 refine l_v (v_fieldAddr (off := 4) (ft := 3) zk rfl) (l_to (to_store rfl rfl (zvI rfl) rfl zk HB3 dj5 ?_))
 rintro w105 HX105 k105 z105
 have := k105.size
 replace HB3 := HX105
 clear HX105
 try simp only [zS, Nat.zero_add, Nat.reduceAdd, List.drop_nil] at HB3
 refine l_nil (n_then ?_)
 replace E := (E.step k110 dj3).step k105 dj3
 replace HB2 := (HB2.keep k110 dj4).keep k105 dj4
 replace HF104 := (HF104.keep k110 dj2).keep k105 dj2
 replace HF108 := (HF108.keep k110 dj2).keep k105 dj2
 replace HR5 := HR5.keep k105 dj7 (by intro i hi he; have hi0 := hi; have hi := hi; have he := he; (try dsimp only [NoK] at hi he); first | exact he.elim | omega | (have := hF i hi0; omega))
 by_cases h5 : rdSm 5 l5 = none
 ·
  refine c_seq (wp_reg zd (l_v (zmP rfl) (l_die (die_f2 zk (zvP rfl) (zvI rfl) (CallsP.mono (small_d (most := 5) HR5 hnF zq zq h5) ?_)))))
  rintro ch w111 ⟨hch, k111⟩
  have := k111.size
  refine p_then ?_
  refine p_endU ?_
  replace E := E.step k111 dj3
  exact ⟨by simp only [rdMv, h0, h1, h2, h3, h4, h5], hch, E⟩
 refine c_seq ?_
 obtain ⟨⟨ng, l6⟩, h5⟩ := Option.ne_none_iff_exists'.1 h5
 have bh5 := rdSm_ok h5
 refine wp_reg zd (l_v (zmP rfl) (l_to (to_f2 zk (zvP rfl) (zvI rfl) (CallsR.mono (small_c (most := 5) HR5 hnF zq zq h5) ?_))))
 rintro _ w112 ⟨rfl, HR6, k112⟩
 have := k112.size
 replace HB3 := HB3.keep k112 dj4
 refine l_v (v_fieldAddr (off := 5) (ft := 3) zk rfl) (l_to (to_store rfl rfl (zvI rfl) rfl zk HB3 dj5 ?_))
 rintro w106 HX106 k106 z106
 have := k106.size
 replace HB3 := HX106
 clear HX106
 try simp only [zS, Nat.zero_add, Nat.reduceAdd, List.drop_nil] at HB3
 replace HB2 := (HB2.keep k112 dj4).keep k106 dj4
 refine l_nil (n_then (c_seq (wp_reg zd (l_v (v_loadA zk rfl (by first | exact HB3.pv | exact HB2.pv | assumption) rfl) ?_))))
 refine l_to (to_storeA (n := 6) rfl rfl (zvA rfl) zk rfl dj6 HB2 dj5 ?_)
 rintro w107 HX107 k107 z107
 have := k107.size
 replace HB2 := HX107
 clear HX107
 try simp only [zS, Nat.zero_add, Nat.reduceAdd, List.drop_nil] at HB2
 refine l_nil (n_then (c_ret (ret_u ?_)))
 refine ret1c (n := 6) rfl zq rfl zk HB2.pv rfl ?_
 replace E := ((E.step k112 dj3).step k106 dj3).step k107 dj3
 replace HF104 := ((HF104.keep k112 dj2).keep k106 dj2).keep k107 dj2
 replace HF108 := ((HF108.keep k112 dj2).keep k106 dj2).keep k107 dj2
 replace HR6 := (HR6.keep k106 dj7 (by intro i hi he; have hi0 := hi; have hi := hi; have he := he; (try dsimp only [NoK] at hi he); first | exact he.elim | omega | (have := hF i hi0; omega))).keep k107 dj7 (by intro i hi he; have hi0 := hi; have hi := hi; have he := he; (try dsimp only [NoK] at hi he); first | exact he.elim | omega | (have := hF i hi0; omega))
 refine ⟨_, l6, by simp only [rdMv, h0, h1, h2, h3, h4, h5], ⟨_, rfl, tMv_mk (HF104.bv.mono fun i _ h => by omega) (HF108.bv.mono fun i _ h => by omega) ⟨by omega, by omega⟩ ⟨by omega, by omega⟩ ⟨by omega, by omega⟩⟩, HR6, E⟩
set_option maxHeartbeats 4000000 in
theorem anAsk_u {w : World} {b : Nat} {F : Nat → Prop} {l : List UInt8} (HR : Rd nRd w b F l) (hF : ∀ k, F k → k < b) (hl : l.length ≤ 1000000) :
    CallsU Tryz.prog 36 #[.pointer (some ⟨b, 0, none⟩)] w (fun o w' => ∃ a r, rdAk l = some (a, r) ∧ AgV tAkF w' (fun i => w.heap.size ≤ i) o a ∧ Rd nRd w' b F r ∧ Keep (fun k => k = b) w w') (fun ch w' => rdAk l = none ∧ ch = nonE ∧ Keep (fun k => k = b) w w') := by
 have hblt : b < w.heap.size := by obtain ⟨_, _, h, _⟩ := HR; exact h.lt
 have hnF : ¬ F b := fun h => absurd (hF b h) (Nat.lt_irrefl b)
 refine enterU 39 Tryz.func36 rfl rfl (by simp) ?_
 refine c_seq ?_
 have E := Keep.refl (K := fun k => k = b) w
 refine wp_reg zd (l_to (to_alloc (z := (.agg #[.int .i64 0, .slice none 0 0, .slice none 0 0, .slice none 0 0, .slice none 0 0, .bool false, .int .i64 0])) (by unfold kZero; kernel_rfl) ?_))
 rintro b2 w2 zb2 HB2 e2 z2
 have := e2.size
 try simp only [Value.cells] at HB2
 refine l_nil (n_then ?_)
 replace E := E.trans e2.keep
 replace HR := HR.ext e2
 by_cases h0 : rdSm 5 l = none
 ·
  refine c_seq (wp_reg zd (l_v (zmP rfl) (l_die (die_f2 zk (zvP rfl) (zvI rfl) (CallsP.mono (small_d (most := 5) HR hnF zq zq h0) ?_)))))
  rintro ch w113 ⟨hch, k113⟩
  have := k113.size
  refine p_then ?_
  refine p_endU ?_
  replace E := E.step k113 dj3
  exact ⟨by simp only [rdAk, h0], hch, E⟩
 refine c_seq ?_
 obtain ⟨⟨k, l1⟩, h0⟩ := Option.ne_none_iff_exists'.1 h0
 have bh0 := rdSm_ok h0
 refine wp_reg zd (l_v (zmP rfl) (l_to (to_f2 zk (zvP rfl) (zvI rfl) (CallsR.mono (small_c (most := 5) HR hnF zq zq h0) ?_))))
 rintro _ w114 ⟨rfl, HR1, k114⟩
 have := k114.size
 have hk5 : (k : Int) ≤ 5 := bh0.2.1
 have hnm := nmT_cases k
 refine l_v (v_build (pl := [(0, 1), (1, 1), (2, 1), (3, 1), (4, 1), (5, 1), (6, 1)]) (z := .agg #[.int .i64 0, .slice none 0 0, .slice none 0 0, .slice none 0 0, .slice none 0 0, .bool false, .int .i64 0]) (zl := [.int .i64 0, .slice none 0 0, .slice none 0 0, .slice none 0 0, .slice none 0 0, .bool false, .int .i64 0]) zk (by unfold kZero; kernel_rfl) rfl rfl (cells := [_, _, _, _, _, _, _]) rfl) ?_
 refine l_to (to_alloc (z := (.agg #[.int .i64 0, .slice none 0 0, .slice none 0 0, .slice none 0 0, .slice none 0 0, .bool false, .int .i64 0])) (by unfold kZero; kernel_rfl) ?_)
 rintro b3 w3 zb3 HB3 e3 z3
 have := e3.size
 try simp only [Value.cells] at HB3
 refine l_to (to_storeA (n := 7) rfl rfl (zvA rfl) zk rfl dj6 HB3 dj5 ?_)
 rintro w101 HX101 k101 z101
 have := k101.size
 replace HB3 := HX101
 clear HX101
 try simp only [zS, Nat.zero_add, Nat.reduceAdd, List.drop_nil] at HB3
 refine l_nil (n_then (c_seq (wp_any zk ?_)))
 have e102 : Ext w101 { w101 with drawn := w101.drawn + 1 } := Keep.drawn _ _
 replace E := ((E.step k114 dj3).trans e3.keep).step k101 dj3
 replace HB2 := ((HB2.keep k114 dj4).ext e3).keep k101 dj4
 replace HR1 := (HR1.ext e3).keep k101 dj7 (by intro i hi he; have hi0 := hi; have hi := hi; have he := he; (try dsimp only [NoK] at hi he); first | exact he.elim | omega | (have := hF i hi0; omega))
 generalize hw102 : ({ w101 with drawn := w101.drawn + 1 } : World) = w102 at e102 ⊢
 clear hw102
 have := e102.size
 refine r_cut 5 rfl zd zd zd ?_
 refine wp_regJW (fun k => w102.heap.size ≤ k) (AlJ w102.heap.size [⟨4, none, 95, ([.bool false, .bool false, .bool false, .bool false, .bool false] : List Value), ([.bool false, .bool false, .bool false, .bool false, .bool false] : List Value)⟩]) zd zd (fun vals done hd => AlJ.start (Nat.le_refl _) (fun a ha => hd a.al (al_lt (n := 5) rfl a ha))) ?_
 refine rj_vfJ (fun done vals w hR hcl hdk hJ hdn hd => to_f0 zk (asks_c)) (fun done vals w w1 hdk hJ e => hJ.src e rfl) ?_
 refine rj_vJ (fun done vals w hR hcl hdk hJ hdn hd => v_fieldAddr (off := 0) (ft := 23) zk rfl) (fun _ _ _ _ j => j.src (Keep.refl _) rfl) ?_
 replace HB2 := HB2.ext e102
 replace HB3 := HB3.ext e102
 refine rj_vJ (fun done vals w hR hcl hdk hJ hdn hd => v_load zk (hd 1 rfl) (by first | exact (HB3.keep hR dj4).pv 0 _ rfl | exact (HB2.keep hR dj4).pv 0 _ rfl | assumption)) (fun _ _ _ _ j => j.src (Keep.refl _) rfl) ?_
 refine rj_vJ (fun done vals w hR hcl hdk hJ hdn hd => v_indexA (et := 95) (n := 6) (sz := 5) (k := k) zk zk (hd 0 rfl) (hd 2 rfl) zo zo (Value.agg.inj (nmC_at (k := (k : Int)) zo zo))) (fun _ _ _ _ j => j.src (Keep.refl _) rfl) ?_
 refine rj_d (fun done vals w hR hcl hdk hJ hdn hd => to_alloc (z := .agg #[.bool false, .bool false, .bool false, .bool false, .bool false]) (by unfold kZero; kernel_rfl) fun b w1 hb hB e hz => ⟨Ext.keep e, hJ.al (i := 0) rfl rfl hdk hcl (fun m a hm he => alOne_al (i := 0) (m := m) rfl rfl hm he) (fun a ha => alSt_ne rfl ha (List.mem_of_getElem? (i := 0) rfl)) (fun s hs => by cases hs) hb hB e⟩) ?_
 refine rj_nil (fun vals w103 k103 J103 => ?_)
 rintro _ - rfl _ - rfl _ - rfl _ - rfl v4 qv4 -
 have := k103.size
 obtain ⟨b4, hb4, zb4, HB4⟩ := J103.fin (i := 0) rfl
 try dsimp only at HB4
 have zl4 := HB4.lt
 obtain rfl := qv4.trans hb4
 refine fin_nilJ (n_then (r_one zd rfl ?_))
 refine l_to (to_storeA (n := 5) rfl rfl (zvA rfl) zk rfl dj6 HB4 dj5 ?_)
 rintro w104 HX104 k104 z104
 have := k104.size
 replace HB4 := HX104
 clear HX104
 try simp only [zS, Nat.zero_add, Nat.reduceAdd, List.drop_nil] at HB4
 refine l_nil (n_then ?_)
 replace E := ((E.trans e102.keep).step k103 dj3).step k104 dj3
 replace HR1 := ((HR1.ext e102).keep k103 dj7 (by intro i hi he; have hi0 := hi; have hi := hi; have he := he; (try dsimp only [NoK] at hi he); first | exact he.elim | omega | (have := hF i hi0; omega))).keep k104 dj7 (by intro i hi he; have hi0 := hi; have hi := hi; have he := he; (try dsimp only [NoK] at hi he); first | exact he.elim | omega | (have := hF i hi0; omega))
 replace HB2 := (HB2.keep k103 dj4).keep k104 dj4
 replace HB3 := (HB3.keep k103 dj4).keep k104 dj4
 by_cases h1 : rdRw 24 l1 = none
 ·
  refine c_seq (wp_reg zd (l_v (zmP rfl) (l_die (die_f2 zk (zvP rfl) (zvI rfl) (CallsP.mono (raw_d (most := 24) HR1 hF zq zq zo h1) ?_)))))
  rintro ch w115 ⟨hch, k115⟩
  have := k115.size
  refine p_then ?_
  refine p_endU ?_
  replace E := E.step k115 dj3
  exact ⟨by simp only [rdAk, h0, h1], hch, E⟩
 refine c_seq ?_
 obtain ⟨⟨key, l2⟩, h1⟩ := Option.ne_none_iff_exists'.1 h1
 have bh1 := rdRw_ok h1
 refine wp_reg zd (l_v (zmP rfl) (l_to (to_f2 zk (zvP rfl) (zvI rfl) (CallsR.mono (raw_c (most := 24) HR1 hF zq zq zo h1) ?_))))
 rintro _ w116 ⟨⟨a116, c116, rfl, HF116⟩, HR2, k116⟩
 have := k116.size
 replace HB3 := HB3.keep k116 dj4
 refine l_v (v_fieldAddr (off := 1) (ft := 24) zk rfl) (l_to (to_store rfl rfl (zvS rfl) rfl zk HB3 dj5 ?_))
 rintro w105 HX105 k105 z105
 have := k105.size
 replace HB3 := HX105
 clear HX105
 try simp only [zS, Nat.zero_add, Nat.reduceAdd, List.drop_nil] at HB3
 replace HB2 := (HB2.keep k116 dj4).keep k105 dj4
 replace HB4 := (HB4.keep k116 dj4).keep k105 dj4
 refine l_nil (n_then (c_seq (c_seq (wp_reg zd (l_v (v_fieldAddr (off := 1) (ft := 4) zk rfl) (l_v (v_load zk rfl (by first | exact HB4.pv 1 _ rfl | exact HB3.pv 1 _ rfl | exact HB2.pv 1 _ rfl | assumption)) ?_))))))
 replace E := (E.step k116 dj3).step k105 dj3
 replace HF116 := HF116.keep k105 dj2
 replace HR2 := HR2.keep k105 dj7 (by intro i hi he; have hi0 := hi; have hi := hi; have he := he; (try dsimp only [NoK] at hi he); first | exact he.elim | omega | (have := hF i hi0; omega))
 refine l_nil (n_then (c_cond rfl rfl (fun ht => ?_) (fun ht => ?_)))
 ·
  by_cases h2 : rdRw 24 l2 = none
  ·
   refine wp_reg zd (l_v (zmP rfl) (l_die (die_f2 zk (zvP rfl) (zvI rfl) (CallsP.mono (raw_d (most := 24) HR2 hF zq zq zo h2) ?_))))
   rintro ch w117 ⟨hch, k117⟩
   have := k117.size
   refine p_then ?_
   refine p_endU ?_
   replace E := E.step k117 dj3
   exact ⟨by simp only [rdAk, h0, h1, ht, if_true, if_false, Bool.false_eq_true, reduceIte, h2], hch, E⟩
  obtain ⟨⟨to, l3⟩, h2⟩ := Option.ne_none_iff_exists'.1 h2
  have bh2 := rdRw_ok h2
  refine wp_reg zd (l_v (zmP rfl) (l_to (to_f2 zk (zvP rfl) (zvI rfl) (CallsR.mono (raw_c (most := 24) HR2 hF zq zq zo h2) ?_))))
  rintro _ w118 ⟨⟨a118, c118, rfl, HF118⟩, HR3, k118⟩
  have := k118.size
  replace HB3 := HB3.keep k118 dj4
  refine l_v (v_fieldAddr (off := 2) (ft := 24) zk rfl) (l_to (to_store rfl rfl (zvS rfl) rfl zk HB3 dj5 ?_))
  rintro w106 HX106 k106 z106
  have := k106.size
  replace HB3 := HX106
  clear HX106
  try simp only [zS, Nat.zero_add, Nat.reduceAdd, List.drop_nil] at HB3
  replace HB2 := (HB2.keep k118 dj4).keep k106 dj4
  replace HB4 := (HB4.keep k118 dj4).keep k106 dj4
  refine l_nil (n_then (c_seq (c_seq (wp_reg zd (l_v (v_fieldAddr (off := 2) (ft := 4) zk rfl) (l_v (v_load zk rfl (by first | exact HB4.pv 2 _ rfl | exact HB3.pv 2 _ rfl | exact HB2.pv 2 _ rfl | assumption)) ?_))))))
  replace E := (E.step k118 dj3).step k106 dj3
  replace HF116 := (HF116.keep k118 dj2).keep k106 dj2
  replace HF118 := HF118.keep k106 dj2
  replace HR3 := HR3.keep k106 dj7 (by intro i hi he; have hi0 := hi; have hi := hi; have he := he; (try dsimp only [NoK] at hi he); first | exact he.elim | omega | (have := hF i hi0; omega))
  refine l_nil (n_then (c_cond rfl rfl (fun hv => ?_) (fun hv => ?_)))
  ·
   simp [ht, hv] at hnm
  refine c_skip (n_then (c_seq (c_seq (wp_reg zd (l_v (v_fieldAddr (off := 3) (ft := 4) zk rfl) (l_v (v_load zk rfl (by first | exact HB4.pv 3 _ rfl | exact HB3.pv 3 _ rfl | exact HB2.pv 3 _ rfl | assumption)) ?_))))))
  refine l_nil (n_then (c_cond rfl rfl (fun hw => ?_) (fun hw => ?_)))
  ·
   simp [ht, hw] at hnm
  refine c_skip (n_then (c_seq (c_seq (wp_reg zd (l_v (v_fieldAddr (off := 4) (ft := 4) zk rfl) (l_v (v_load zk rfl (by first | exact HB4.pv 4 _ rfl | exact HB3.pv 4 _ rfl | exact HB2.pv 4 _ rfl | assumption)) ?_))))))
  refine l_nil (n_then (c_cond rfl rfl (fun hm => ?_) (fun hm => ?_)))
  ·
   by_cases h3 : rdSm 32 l3 = none
   ·
    refine wp_reg zd (l_v (zmP rfl) (l_die (die_f2 zk (zvP rfl) (zvI rfl) (CallsP.mono (small_d (most := 32) HR3 hnF zq zq h3) ?_))))
    rintro ch w119 ⟨hch, k119⟩
    have := k119.size
    refine p_then ?_
    refine p_endU ?_
    replace E := E.step k119 dj3
    exact ⟨by simp only [rdAk, h0, h1, ht, if_true, if_false, Bool.false_eq_true, reduceIte, h2, hv, hw, hm, h3], hch, E⟩
   obtain ⟨⟨most, l4⟩, h3⟩ := Option.ne_none_iff_exists'.1 h3
   have bh3 := rdSm_ok h3
   refine wp_reg zd (l_v (zmP rfl) (l_to (to_f2 zk (zvP rfl) (zvI rfl) (CallsR.mono (small_c (most := 32) HR3 hnF zq zq h3) ?_))))
   rintro _ w120 ⟨rfl, HR4, k120⟩
   have := k120.size
   replace HB3 := HB3.keep k120 dj4
   refine l_v (v_fieldAddr (off := 6) (ft := 3) zk rfl) (l_to (to_store rfl rfl (zvI rfl) rfl zk HB3 dj5 ?_))
   rintro w107 HX107 k107 z107
   have := k107.size
   replace HB3 := HX107
   clear HX107
   try simp only [zS, Nat.zero_add, Nat.reduceAdd, List.drop_nil] at HB3
   replace HB2 := (HB2.keep k120 dj4).keep k107 dj4
   replace HB4 := (HB4.keep k120 dj4).keep k107 dj4
   refine l_nil (n_then (c_seq (wp_reg zd (l_v (v_loadA zk rfl (by first | exact HB4.pv | exact HB3.pv | exact HB2.pv | assumption) rfl) ?_))))
   refine l_to (to_storeA (n := 7) rfl rfl (zvA rfl) zk rfl dj6 HB2 dj5 ?_)
   rintro w108 HX108 k108 z108
   have := k108.size
   replace HB2 := HX108
   clear HX108
   try simp only [zS, Nat.zero_add, Nat.reduceAdd, List.drop_nil] at HB2
   refine l_nil (n_then (c_ret (ret_u ?_)))
   refine ret1c (n := 7) rfl zq rfl zk HB2.pv rfl ?_
   replace E := ((E.step k120 dj3).step k107 dj3).step k108 dj3
   replace HF116 := ((HF116.keep k120 dj2).keep k107 dj2).keep k108 dj2
   replace HF118 := ((HF118.keep k120 dj2).keep k107 dj2).keep k108 dj2
   replace HR4 := (HR4.keep k107 dj7 (by intro i hi he; have hi0 := hi; have hi := hi; have he := he; (try dsimp only [NoK] at hi he); first | exact he.elim | omega | (have := hF i hi0; omega))).keep k108 dj7 (by intro i hi he; have hi0 := hi; have hi := hi; have he := he; (try dsimp only [NoK] at hi he); first | exact he.elim | omega | (have := hF i hi0; omega))
   refine ⟨_, l4, by simp only [rdAk, h0, h1, ht, if_true, if_false, Bool.false_eq_true, reduceIte, h2, hv, hw, hm, h3, if_true, if_false, Bool.false_eq_true, reduceIte], ⟨_, rfl, tAkF_mk (HF116.mono fun i _ h => by omega) (HF118.mono fun i _ h => by omega) (BvF.nil _ _) (BvF.nil _ _) ⟨by omega, by omega⟩ ⟨by omega, by omega⟩⟩, HR4, E⟩
  simp [ht, hm] at hnm
 refine c_skip (n_then (c_seq (c_seq (wp_reg zd (l_v (v_fieldAddr (off := 2) (ft := 4) zk rfl) (l_v (v_load zk rfl (by first | exact HB4.pv 2 _ rfl | exact HB3.pv 2 _ rfl | exact HB2.pv 2 _ rfl | assumption)) ?_))))))
 refine l_nil (n_then (c_cond rfl rfl (fun hv => ?_) (fun hv => ?_)))
 ·
  by_cases h2 : rdRw 40 l2 = none
  ·
   refine wp_reg zd (l_v (zmP rfl) (l_die (die_f2 zk (zvP rfl) (zvI rfl) (CallsP.mono (raw_d (most := 40) HR2 hF zq zq zo h2) ?_))))
   rintro ch w121 ⟨hch, k121⟩
   have := k121.size
   refine p_then ?_
   refine p_endU ?_
   replace E := E.step k121 dj3
   exact ⟨by simp only [rdAk, h0, h1, ht, if_true, if_false, Bool.false_eq_true, reduceIte, hv, h2], hch, E⟩
  obtain ⟨⟨val, l3⟩, h2⟩ := Option.ne_none_iff_exists'.1 h2
  have bh2 := rdRw_ok h2
  refine wp_reg zd (l_v (zmP rfl) (l_to (to_f2 zk (zvP rfl) (zvI rfl) (CallsR.mono (raw_c (most := 40) HR2 hF zq zq zo h2) ?_))))
  rintro _ w122 ⟨⟨a122, c122, rfl, HF122⟩, HR3, k122⟩
  have := k122.size
  replace HB3 := HB3.keep k122 dj4
  refine l_v (v_fieldAddr (off := 3) (ft := 24) zk rfl) (l_to (to_store rfl rfl (zvS rfl) rfl zk HB3 dj5 ?_))
  rintro w109 HX109 k109 z109
  have := k109.size
  replace HB3 := HX109
  clear HX109
  try simp only [zS, Nat.zero_add, Nat.reduceAdd, List.drop_nil] at HB3
  replace HB2 := (HB2.keep k122 dj4).keep k109 dj4
  replace HB4 := (HB4.keep k122 dj4).keep k109 dj4
  refine l_nil (n_then (c_seq (c_seq (wp_reg zd (l_v (v_fieldAddr (off := 3) (ft := 4) zk rfl) (l_v (v_load zk rfl (by first | exact HB4.pv 3 _ rfl | exact HB3.pv 3 _ rfl | exact HB2.pv 3 _ rfl | assumption)) ?_))))))
  replace E := (E.step k122 dj3).step k109 dj3
  replace HF116 := (HF116.keep k122 dj2).keep k109 dj2
  replace HF122 := HF122.keep k109 dj2
  replace HR3 := HR3.keep k109 dj7 (by intro i hi he; have hi0 := hi; have hi := hi; have he := he; (try dsimp only [NoK] at hi he); first | exact he.elim | omega | (have := hF i hi0; omega))
  refine l_nil (n_then (c_cond rfl rfl (fun hw => ?_) (fun hw => ?_)))
  ·
   by_cases h3 : rdRw 40 l3 = none
   ·
    refine c_seq (wp_reg zd (l_v (zmP rfl) (l_die (die_f2 zk (zvP rfl) (zvI rfl) (CallsP.mono (raw_d (most := 40) HR3 hF zq zq zo h3) ?_)))))
    rintro ch w123 ⟨hch, k123⟩
    have := k123.size
    refine p_then ?_
    refine p_then ?_
    refine p_endU ?_
    replace E := E.step k123 dj3
    exact ⟨by simp only [rdAk, h0, h1, ht, if_true, if_false, Bool.false_eq_true, reduceIte, hv, h2, hw, h3], hch, E⟩
   refine c_seq ?_
   obtain ⟨⟨was, l4⟩, h3⟩ := Option.ne_none_iff_exists'.1 h3
   have bh3 := rdRw_ok h3
   refine wp_reg zd (l_v (zmP rfl) (l_to (to_f2 zk (zvP rfl) (zvI rfl) (CallsR.mono (raw_c (most := 40) HR3 hF zq zq zo h3) ?_))))
   rintro _ w124 ⟨⟨a124, c124, rfl, HF124⟩, HR4, k124⟩
   have := k124.size
   replace HB3 := HB3.keep k124 dj4
   refine l_v (v_fieldAddr (off := 4) (ft := 24) zk rfl) (l_to (to_store rfl rfl (zvS rfl) rfl zk HB3 dj5 ?_))
   rintro w110 HX110 k110 z110
   have := k110.size
   replace HB3 := HX110
   clear HX110
   try simp only [zS, Nat.zero_add, Nat.reduceAdd, List.drop_nil] at HB3
   refine l_nil (n_then ?_)
   replace E := (E.step k124 dj3).step k110 dj3
   replace HB2 := (HB2.keep k124 dj4).keep k110 dj4
   replace HB4 := (HB4.keep k124 dj4).keep k110 dj4
   replace HF116 := (HF116.keep k124 dj2).keep k110 dj2
   replace HF122 := (HF122.keep k124 dj2).keep k110 dj2
   replace HF124 := HF124.keep k110 dj2
   replace HR4 := HR4.keep k110 dj7 (by intro i hi he; have hi0 := hi; have hi := hi; have he := he; (try dsimp only [NoK] at hi he); first | exact he.elim | omega | (have := hF i hi0; omega))
   by_cases h4 : rdFlag l4 = none
   ·
    refine wp_reg zd (l_v (zmP rfl) (l_die (die_f1 zk (zvP rfl) (CallsP.mono (flag_d HR4 hnF h4) ?_))))
    rintro ch w125 ⟨hch, k125⟩
    have := k125.size
    refine p_then ?_
    refine p_endU ?_
    replace E := E.step k125 dj3
    exact ⟨by simp only [rdAk, h0, h1, ht, if_true, if_false, Bool.false_eq_true, reduceIte, hv, h2, hw, h3, h4], hch, E⟩
   obtain ⟨⟨no, l5⟩, h4⟩ := Option.ne_none_iff_exists'.1 h4
   have bh4 := rdFlag_ok h4
   refine wp_reg zd (l_v (zmP rfl) (l_to (to_f1 zk (zvP rfl) (CallsR.mono (flag_c HR4 hnF h4) ?_))))
   rintro _ w126 ⟨rfl, HR5, k126⟩
   have := k126.size
   replace HB3 := HB3.keep k126 dj4
   refine l_v (v_fieldAddr (off := 5) (ft := 4) zk rfl) (l_to (to_store rfl rfl (zvB rfl) rfl zk HB3 dj5 ?_))
   rintro w111 HX111 k111 z111
   have := k111.size
   replace HB3 := HX111
   clear HX111
   try simp only [zS, Nat.zero_add, Nat.reduceAdd, List.drop_nil] at HB3
   replace HB2 := (HB2.keep k126 dj4).keep k111 dj4
   replace HB4 := (HB4.keep k126 dj4).keep k111 dj4
   refine l_nil (n_then (c_seq (c_seq (wp_reg zd (l_v (v_fieldAddr (off := 4) (ft := 4) zk rfl) (l_v (v_load zk rfl (by first | exact HB4.pv 4 _ rfl | exact HB3.pv 4 _ rfl | exact HB2.pv 4 _ rfl | assumption)) ?_))))))
   replace E := (E.step k126 dj3).step k111 dj3
   replace HF116 := (HF116.keep k126 dj2).keep k111 dj2
   replace HF122 := (HF122.keep k126 dj2).keep k111 dj2
   replace HF124 := (HF124.keep k126 dj2).keep k111 dj2
   replace HR5 := HR5.keep k111 dj7 (by intro i hi he; have hi0 := hi; have hi := hi; have he := he; (try dsimp only [NoK] at hi he); first | exact he.elim | omega | (have := hF i hi0; omega))
   refine l_nil (n_then (c_cond rfl rfl (fun hm => ?_) (fun hm => ?_)))
   ·
    simp [ht, hm] at hnm
   refine c_skip (n_then (c_seq (wp_reg zd (l_v (v_loadA zk rfl (by first | exact HB4.pv | exact HB3.pv | exact HB2.pv | assumption) rfl) ?_))))
   refine l_to (to_storeA (n := 7) rfl rfl (zvA rfl) zk rfl dj6 HB2 dj5 ?_)
   rintro w112 HX112 k112 z112
   have := k112.size
   replace HB2 := HX112
   clear HX112
   try simp only [zS, Nat.zero_add, Nat.reduceAdd, List.drop_nil] at HB2
   refine l_nil (n_then (c_ret (ret_u ?_)))
   refine ret1c (n := 7) rfl zq rfl zk HB2.pv rfl ?_
   replace E := E.step k112 dj3
   replace HF116 := HF116.keep k112 dj2
   replace HF122 := HF122.keep k112 dj2
   replace HF124 := HF124.keep k112 dj2
   replace HR5 := HR5.keep k112 dj7 (by intro i hi he; have hi0 := hi; have hi := hi; have he := he; (try dsimp only [NoK] at hi he); first | exact he.elim | omega | (have := hF i hi0; omega))
   refine ⟨_, l5, by simp only [rdAk, h0, h1, ht, if_true, if_false, Bool.false_eq_true, reduceIte, hv, h2, hw, h3, h4, hm, if_true, if_false, Bool.false_eq_true, reduceIte]; rfl, ⟨_, rfl, tAkF_mk (HF116.mono fun i _ h => by omega) (BvF.nil _ _) (HF122.mono fun i _ h => by omega) (HF124.mono fun i _ h => by omega) ⟨by omega, by omega⟩ ⟨by omega, by omega⟩⟩, HR5, E⟩
  refine c_skip (n_then (c_seq (c_seq (wp_reg zd (l_v (v_fieldAddr (off := 4) (ft := 4) zk rfl) (l_v (v_load zk rfl (by first | exact HB4.pv 4 _ rfl | exact HB3.pv 4 _ rfl | exact HB2.pv 4 _ rfl | assumption)) ?_))))))
  refine l_nil (n_then (c_cond rfl rfl (fun hm => ?_) (fun hm => ?_)))
  ·
   simp [ht, hm] at hnm
  refine c_skip (n_then (c_seq (wp_reg zd (l_v (v_loadA zk rfl (by first | exact HB4.pv | exact HB3.pv | exact HB2.pv | assumption) rfl) ?_))))
  refine l_to (to_storeA (n := 7) rfl rfl (zvA rfl) zk rfl dj6 HB2 dj5 ?_)
  rintro w113 HX113 k113 z113
  have := k113.size
  replace HB2 := HX113
  clear HX113
  try simp only [zS, Nat.zero_add, Nat.reduceAdd, List.drop_nil] at HB2
  refine l_nil (n_then (c_ret (ret_u ?_)))
  refine ret1c (n := 7) rfl zq rfl zk HB2.pv rfl ?_
  replace E := E.step k113 dj3
  replace HF116 := HF116.keep k113 dj2
  replace HF122 := HF122.keep k113 dj2
  replace HR3 := HR3.keep k113 dj7 (by intro i hi he; have hi0 := hi; have hi := hi; have he := he; (try dsimp only [NoK] at hi he); first | exact he.elim | omega | (have := hF i hi0; omega))
  refine ⟨_, l3, by simp only [rdAk, h0, h1, ht, if_true, if_false, Bool.false_eq_true, reduceIte, hv, h2, hw, hm, if_true, if_false, Bool.false_eq_true, reduceIte]; rfl, ⟨_, rfl, tAkF_mk (HF116.mono fun i _ h => by omega) (BvF.nil _ _) (HF122.mono fun i _ h => by omega) (BvF.nil _ _) ⟨by omega, by omega⟩ ⟨by omega, by omega⟩⟩, HR3, E⟩
 refine c_skip (n_then (c_seq (c_seq (wp_reg zd (l_v (v_fieldAddr (off := 3) (ft := 4) zk rfl) (l_v (v_load zk rfl (by first | exact HB4.pv 3 _ rfl | exact HB3.pv 3 _ rfl | exact HB2.pv 3 _ rfl | assumption)) ?_))))))
 refine l_nil (n_then (c_cond rfl rfl (fun hw => ?_) (fun hw => ?_)))
 ·
  simp [ht, hv, hw] at hnm
 refine c_skip (n_then (c_seq (c_seq (wp_reg zd (l_v (v_fieldAddr (off := 4) (ft := 4) zk rfl) (l_v (v_load zk rfl (by first | exact HB4.pv 4 _ rfl | exact HB3.pv 4 _ rfl | exact HB2.pv 4 _ rfl | assumption)) ?_))))))
 refine l_nil (n_then (c_cond rfl rfl (fun hm => ?_) (fun hm => ?_)))
 ·
  simp [ht, hm] at hnm
 refine c_skip (n_then (c_seq (wp_reg zd (l_v (v_loadA zk rfl (by first | exact HB4.pv | exact HB3.pv | exact HB2.pv | assumption) rfl) ?_))))
 refine l_to (to_storeA (n := 7) rfl rfl (zvA rfl) zk rfl dj6 HB2 dj5 ?_)
 rintro w114 HX114 k114 z114
 have := k114.size
 replace HB2 := HX114
 clear HX114
 try simp only [zS, Nat.zero_add, Nat.reduceAdd, List.drop_nil] at HB2
 refine l_nil (n_then (c_ret (ret_u ?_)))
 refine ret1c (n := 7) rfl zq rfl zk HB2.pv rfl ?_
 replace E := E.step k114 dj3
 replace HF116 := HF116.keep k114 dj2
 replace HR2 := HR2.keep k114 dj7 (by intro i hi he; have hi0 := hi; have hi := hi; have he := he; (try dsimp only [NoK] at hi he); first | exact he.elim | omega | (have := hF i hi0; omega))
 refine ⟨_, l2, by simp only [rdAk, h0, h1, ht, hv, if_true, if_false, Bool.false_eq_true, reduceIte, hw, hm, if_true, if_false, Bool.false_eq_true, reduceIte]; rfl, ⟨_, rfl, tAkF_mk (HF116.mono fun i _ h => by omega) (BvF.nil _ _) (BvF.nil _ _) (BvF.nil _ _) ⟨by omega, by omega⟩ ⟨by omega, by omega⟩⟩, HR2, E⟩
end Go.Proofs.YtogafjlbpodgjaaGreat
