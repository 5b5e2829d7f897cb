/- A part of the proof: steps and lemmas for the walks through the given program. -/
import Derived.Test.YtlhanmlpionomaaD26
namespace Go.Proofs.Ytlhanmlpionomaa
open Go.Vc
set_option linter.unusedVariables false
set_option linter.unusedSimpArgs false
set_option maxRecDepth 100000

def zr (n : Nat) : List UInt8 := List.replicate n 0
theorem zr_len (n : Nat) : (zr n).length = n := by simp [zr]
def pr0 : PrV := (zr 24, zr 40)
def prs (n : Nat) : List PrV := List.replicate n pr0
theorem prs_len (n : Nat) : (prs n).length = n := by simp [prs]
theorem prs_snoc (n : Nat) : prs (n + 1) = prs n ++ [pr0] := by rw [prs, prs, List.replicate_succ']
def A0 : AnV := (13, prs 32, zr 25)
def A5 : AnV := (13, prs 33, zr 25)
def A6 : AnV := (13, prs 32, zr 26)
def A7 : AnV := (-1, prs 32, zr 25)
theorem may0 : mayAn A0 = true := by
  rw [mayAn_iff]
  refine ⟨by decide, by simp [A0, prs_len], by simp [A0, zr_len], fun p hp => ?_⟩
  have := List.eq_of_mem_replicate (show p ∈ List.replicate 32 pr0 from hp)
  subst this
  simp [pr0, zr_len]
theorem may5 : mayAn A5 = false := by
  rw [Bool.eq_false_iff]; intro h
  have := (mayAn_iff.1 h).2.1
  simp [A5, prs_len] at this
theorem may6 : mayAn A6 = false := by
  rw [Bool.eq_false_iff]; intro h
  have := (mayAn_iff.1 h).2.2.1
  simp [A6, zr_len] at this
theorem may7 : mayAn A7 = false := by
  rw [Bool.eq_false_iff]; intro h
  have := (mayAn_iff.1 h).1
  simp [A7] at this
def S4 : TbS := updS S0 4 (2147483647, A0)
theorem pn0 : putN S0 4 2147483647 A0 = (0, S4) := by
  rw [putN, if_pos ⟨by decide, may0⟩, if_neg (by decide)]; rfl
theorem pnF {S : TbS} {c n : Int} {a : AnV} (h : mayAn a = false) : putN S c n a = (2, S) := by
  rw [putN, if_neg (by rw [h]; simp)]
theorem pn8 : putN S4 4 2147483648 A0 = (2, S4) := by rw [putN, if_neg (by simp)]
theorem S4_ok : TbOk S4 := by
  have := putN_ok (S := S0) (c := 4) (n := 2147483647) (a := A0) ok_new
  rw [pn0] at this; exact this
theorem ln1 : lookN S4 4 2147483647 = (A0, 2, 0) := rfl
theorem ln2 : lookN S4 0 1 = (an0, 0, 2) := rfl
theorem refSame_r {w : World} {F G : Nat → Prop} {v u : Value} {a : AnV} (HG1 : AgV tAn w F v a) (HG2 : AgV tAn w G u a) : CallsR Try.prog 15 #[v, u] w (fun o w' => o = .bool true ∧ Ext w w') :=
  CallsR.mono (refSameAnswer_c HG1 HG2) fun o w' h => ⟨by rw [h.1]; simp, h.2⟩
set_option maxHeartbeats 16000000 in
theorem DedupNil_c {w : World} : CallsR Try.prog 6 #[] w (fun o w' => o = .bool true ∧ Ext w w') := by
  refine enter 148 Try.func6 rfl rfl (by simp) ?_
  refine c_seq ?_
  have E := Keep.refl (K := NoK) w
  refine wp_reg (by decide +kernel) ?_
  refine l_v (v_assign rfl) ?_
  refine l_nil ?_
  refine n_then ?_
  refine c_seq ?_
  refine wp_reg (by decide +kernel) ?_
  refine l_to (to_f0 (by kernel_rfl) (CallsR.mono (New_c) ?_))
  rintro _ w19 ⟨b1, m1, rfl, hm1, hb1, hn1, HB1, HT1, e19⟩
  have zs_e19 := e19.size
  have zb1 := HB1.lt
  have zm1 := HT1.lt
  have HT1 : TbI _ NoK m1 S0 := HT1
  replace E := E.trans (Ext.keep e19)
  refine l_v (v_assign (t := .pointer _) rfl) ?_
  refine l_nil ?_
  refine n_then ?_
  refine c_seq ?_
  refine c_seq ?_
  refine wp_reg (by decide +kernel) ?_
  refine l_v (v_move (t := .pointer _) rfl) ?_
  refine l_v (v_peql (et := 65) (by kernel_rfl) rfl rfl) ?_
  refine l_nil ?_
  refine n_then ?_
  refine c_cond rfl rfl (fun hnil => ?_) (fun hnil => ?_)
  · skip
    cases hnil
  · skip
    obtain ⟨n4, hn4⟩ : ∃ n, n = w19.heap.size := ⟨_, rfl⟩
    refine c_skip ?_
    refine n_then ?_
    refine c_seq ?_
    refine wp_any (by kernel_rfl) ?_
    have e101 : Ext w19 { w19 with drawn := w19.drawn + 1 } := Keep.drawn _ _
    generalize hw101 : ({ w19 with drawn := w19.drawn + 1 } : World) = w101 at e101 ⊢
    clear hw101
    have zs_e101 := e101.size
    replace E := E.trans (Ext.keep e101)
    replace HB1 := HB1.ext e101
    replace HT1 := HT1.ext e101
    refine r_cut 4 rfl (by decide +kernel) (by decide +kernel) (by decide +kernel) ?_
    refine wp_regdW (NoK) (by decide +kernel) (by decide +kernel) ?_
    refine rt_to (fun v W => OwV tU8 5 W n4 NoK v (zr 24)) (fun v w w' h k => h.ext k) (fun vals w hR hd => to_make (t := tU8) (et := 5) (bytes := 1) (z := 0) (n := 24) (m := 24) (zv := .int .u8 0) (by kernel_rfl) rfl rfl (.inl rfl) (by omega) (by simp only [maxLen]; omega) (by unfold kZero; kernel_rfl) rfl rfl (fun _ _ => rfl) (fun b c w1 hb HO e z => ⟨e, HO.base (by have := hR.size; omega)⟩)) ?_
    refine rt_to (fun v W => OwV tU8 5 W n4 NoK v (zr 40)) (fun v w w' h k => h.ext k) (fun vals w hR hd => to_make (t := tU8) (et := 5) (bytes := 1) (z := 0) (n := 40) (m := 40) (zv := .int .u8 0) (by kernel_rfl) rfl rfl (.inl rfl) (by omega) (by simp only [maxLen]; omega) (by unfold kZero; kernel_rfl) rfl rfl (fun _ _ => rfl) (fun b c w1 hb HO e z => ⟨e, HO.base (by have := hR.size; omega)⟩)) ?_
    refine rt_to (fun v W => ∃ u1 u2, v = .agg #[u1, u2] ∧ OwV tU8 5 W n4 NoK u1 (zr 24) ∧ OwV tU8 5 W n4 NoK u2 (zr 40)) (fun v w w' h k => by obtain ⟨u1, u2, h1, h2, h3⟩ := h; exact ⟨u1, u2, h1, h2.ext k, h3.ext k⟩) (fun vals w hR hd => OpTo.of_v (v_build (pl := [(0, 1), (1, 1)]) (z := .agg #[.slice none 0 0, .slice none 0 0]) (zl := [.slice none 0 0, .slice none 0 0]) (ps := [(0, vals 0), (1, vals 1)]) (by kernel_rfl) (by unfold kZero; kernel_rfl) rfl (parts2 rfl rfl) (cells := [vals 0, vals 1]) (by have h1 := OwV.one (show OwV tU8 5 _ n4 NoK _ (zr 24) from hd 0 rfl); have h2 := OwV.one (show OwV tU8 5 _ n4 NoK _ (zr 40) from hd 1 rfl); simp [fillL, one_cells h1, one_cells h2, setAt])) ⟨Keep.refl _, _, _, rfl, show OwV tU8 5 _ n4 NoK _ (zr 24) from hd 0 rfl, show OwV tU8 5 _ n4 NoK _ (zr 40) from hd 1 rfl⟩) ?_
    refine rt_to (fun v W => ∃ b, v = .pointer (some ⟨b, 0, none⟩) ∧ n4 ≤ b ∧ Blk W b [.slice none 0 0, .slice none 0 0] 61) (fun v w w' h k => by obtain ⟨b, h1, h2, h3⟩ := h; exact ⟨b, h1, h2, h3.ext k⟩) (fun vals w hR hd => to_alloc (z := .agg #[.slice none 0 0, .slice none 0 0]) (by unfold kZero; kernel_rfl) (fun b w1 hb hB e z => ⟨e, b, rfl, by have := hR.size; omega, hB⟩)) ?_
    refine rt_nil (fun w20 e20 => ?_)
    rintro v22 HO22 v23 HO23 v24 ⟨u1, u2, rfl, HO24, HO25⟩ v2 ⟨b2, rfl, hb2, HB2⟩
    have zs_e20 := e20.size
    have zb2 := HB2.lt
    have HF1 := OwV.byN HO24 HB2 (by decide)
    have HF2 := OwV.byN HO25 HB2 (by decide)
    obtain ⟨a1, c1, rfl⟩ := HF1.bv.shape
    obtain ⟨a2, c2, rfl⟩ := HF2.bv.shape
    replace E := E.trans (Ext.keep e20)
    replace HB1 := HB1.ext e20
    replace HT1 := HT1.ext e20
    refine fin_nil ?_
    refine n_then ?_
    refine r_one (by decide +kernel) rfl ?_
    obtain ⟨n6, hn6⟩ : ∃ n, n = w20.heap.size := ⟨_, rfl⟩
    have HG2 : AgV tPr _ (fun i => n4 ≤ i ∧ i ≠ b2 ∧ i < n6) (.agg #[.slice a1 (zr 24).length c1, .slice a2 (zr 40).length c2]) pr0 := ⟨_, rfl, tPr_mk (HF1.bv.mono fun b hb h => ⟨h.1, h.2, by omega⟩) (HF2.bv.mono fun b hb h => ⟨h.1, h.2, by omega⟩)⟩
    refine l_to (to_storeA (n := 2) rfl rfl (show _ = (Value.agg _) from rfl) (by kernel_rfl) rfl (by first | (simp [slice_one]; done) | (simp only [List.forall_mem_cons, List.cons_append, List.nil_append]; repeat' (first | exact rfl | apply And.intro | (intro u hu; cases hu; done)))) HB2 (by first | exact of_decide_eq_true rfl | (simp; done) | decide | (simp only [List.length_set, hlen]; exact of_decide_eq_true rfl)) ?_)
    rintro w31 HB2 k31 z31
    have zs_k31 := k31.size
    try simp only [List.set_cons_zero, List.set_cons_succ, setAt, List.take, List.drop, List.nil_append, List.cons_append, List.append_nil, List.length_cons, List.length_nil] at HB2
    replace E := E.step k31 (by intro i hi he; (try dsimp only [NoK] at hi he ⊢); first | exact he.elim | omega | exact he)
    replace HB1 := HB1.keep k31 (by intro h; (try dsimp only at h); first | omega)
    replace HT1 := HT1.keep k31 (by intro i _ hi he; (try dsimp only [NoK, AllB] at hi he); first | exact hi.elim | exact he.elim | omega | (rcases hi with hi | hi <;> omega) | (rcases he with he | he <;> omega))
    replace HG2 := HG2.keep k31 (by intro i _ hi he; (try dsimp only [NoK, AllB] at hi he); first | exact hi.elim | exact he.elim | omega | (rcases hi with hi | hi <;> omega) | (rcases he with he | he <;> omega))
    refine l_nil ?_
    refine n_then ?_
    refine c_seq ?_
    refine wp_reg (by decide +kernel) ?_
    refine l_to (to_alloc (z := (.agg #[.int .i64 0, .slice none 0 0, .slice none 0 0])) (by unfold kZero; kernel_rfl) ?_)
    rintro b3 w3 zb3 HB3 e3 z3
    have zs_e3 := e3.size
    replace E := E.trans (Ext.keep e3)
    replace HB1 := HB1.ext e3
    replace HT1 := HT1.ext e3
    replace HG2 := HG2.ext e3
    replace HB2 := HB2.ext e3
    try simp only [Value.cells] at HB3
    refine l_nil ?_
    refine n_then ?_
    refine c_seq ?_
    refine c_seq ?_
    obtain ⟨n7, hn7⟩ : ∃ n, n = w3.heap.size := ⟨_, rfl⟩
    refine wp_reg (by decide +kernel) ?_
    refine l_v (v_assign rfl) ?_
    refine l_nil ?_
    refine n_then ?_
    refine c_block ?_
    refine c_loop (τ := Nat × Option Addr × Nat) [4, 25, 26, 27, 28, 29, 30, 31, 32, 33, 34] (fun (i, a, c) => [(4, .int .i64 i)]) (fun (i, a, c) W => Ext w W ∧ Keep (fun k => k = b3 ∨ n7 ≤ k) w3 W ∧ i ≤ 32 ∧ Blk W b3 [.int .i64 0, .slice a (prs i).length c, .slice none 0 0] 33 ∧ OwV tPr 61 W n7 (fun k => n4 ≤ k ∧ k ≠ b3) (.slice a (prs i).length c) (prs i)) (fun (i, a, c) => 32 - i) (0, none, 0) (by exact ⟨rfl, trivial⟩) (by exact ⟨E, Keep.refl _, Nat.zero_le _, HB3, OwV.nil _ _ _ _ _⟩) ?_
    rintro ⟨i, a, c⟩ w102 j ⟨E, EL1, h1, HB3, HOx⟩
    have zs_EL1 := EL1.size
    replace HB1 := HB1.keep EL1 (by intro h; (try dsimp only at h); first | omega)
    replace HT1 := HT1.keep EL1 (by intro i _ hi he; (try dsimp only [NoK, AllB] at hi he); first | exact hi.elim | exact he.elim | omega | (rcases hi with hi | hi <;> omega) | (rcases he with he | he <;> omega))
    replace HG2 := HG2.keep EL1 (by intro i _ hi he; (try dsimp only [NoK, AllB] at hi he); first | exact hi.elim | exact he.elim | omega | (rcases hi with hi | hi <;> omega) | (rcases he with he | he <;> omega))
    replace HB2 := HB2.keep EL1 (by intro h; (try dsimp only at h); first | omega)
    have zo_HOx := fun (b : Nat) h => HOx.own_lt (b := b) h
    refine c_seq ?_
    refine c_seq ?_
    refine wp_reg (by decide +kernel) ?_
    refine l_v (v_move (t := .int _ _) rfl) ?_
    refine l_v (v_lss rfl rfl) ?_
    refine l_nil ?_
    refine n_then ?_
    refine c_cond rfl rfl (fun hlt => ?_) (fun hlt => ?_)
    · skip
      have hlt := dtrue hlt
      have hpl := prs_len i
      have zo_HOx := fun (b : Nat) h => HOx.own_lt (b := b) h
      refine c_skip ?_
      refine n_then ?_
      refine c_seq ?_
      refine c_block ?_
      refine wp_reg (by decide +kernel) ?_
      refine l_v (v_fieldAddr (off := 1) (ft := 30) (by kernel_rfl) rfl) ?_
      refine l_v (v_load (by kernel_rfl) rfl (by first | exact HB3.pv 1 _ rfl | exact HB2.pv 1 _ rfl | exact HB1.pv 1 _ rfl | assumption)) ?_
      refine l_v (v_loadA (by kernel_rfl) rfl (by first | exact HB3.pv | exact HB2.pv | exact HB1.pv | assumption) rfl) ?_
      refine l_to (to_slice1 (t := tPr) (et := 61) (bytes := 48) (by kernel_rfl) (by decide) (show _ = (Value.agg _) from rfl) (HG2.rp) ?_)
      rintro b32 w32 zb32 HO32 e32 z32
      have zs_e32 := e32.size
      replace E := E.trans (Ext.keep e32)
      replace HB1 := HB1.ext e32
      replace HT1 := HT1.ext e32
      replace HG2 := HG2.ext e32
      replace HB2 := HB2.ext e32
      replace HB3 := HB3.ext e32
      replace HOx := HOx.ext e32
      replace EL1 := EL1.trans (Ext.keep e32)
      have zo_HO32 := fun (b : Nat) h => HO32.own_lt (b := b) h
      refine l_to (to_append (et := 61) (bytes := 48) (by kernel_rfl) (show _ = (Value.slice _ _ _) from rfl) HOx (show _ = (Value.slice _ _ _) from rfl) HO32.view ((deepF fun k hk hk2 => ⟨by omega, fun ho => by have := zo_HOx _ ho; omega⟩)) (by first | omega | (simp; done) | (simp; omega)) (by simp only [maxLen]; first | omega | (simp; done) | (simp; omega)) (by omega) ?_)
      rintro a9 n9 c9 w9 HO19 hn9 k9 h9 i9
      have zs_k9 := k9.size
      subst hn9
      rw [← prs_snoc] at HO19 ⊢
      replace E := E.step k9 (by intro i hi he; have he0 := he; (try dsimp only [NoK] at hi he ⊢); (try simp only [Value.ownBlock, Option.some.injEq] at he); first | exact he.elim | omega | exact he | (have := (HOx).own_lt he0; omega) | (have := zo_HOx _ he0; omega) | (have := (HOx).own_lt he0; rcases hi with hi | hi <;> omega))
      replace HB1 := HB1.keep k9 (by intro h; have he0 := h; (try dsimp only at h); (try simp only [Value.ownBlock, Option.some.injEq] at h); first | omega | (have := (HOx).own_lt he0; omega) | (have := zo_HOx _ he0; omega))
      replace HT1 := HT1.keep k9 (by intro i _ hi he; have he0 := he; (try dsimp only [NoK, AllB] at hi he); (try simp only [Value.ownBlock, Option.some.injEq] at he); first | exact hi.elim | exact he.elim | omega | (rcases hi with hi | hi <;> omega) | (rcases he with he | he <;> omega) | (have := (HOx).own_lt he0; omega) | (have := zo_HOx _ he0; omega) | (have := (HOx).own_lt he0; rcases hi with hi | hi <;> omega))
      replace HG2 := HG2.keep k9 (by intro i _ hi he; have he0 := he; (try dsimp only [NoK, AllB] at hi he); (try simp only [Value.ownBlock, Option.some.injEq] at he); first | exact hi.elim | exact he.elim | omega | (rcases hi with hi | hi <;> omega) | (rcases he with he | he <;> omega) | (have := (HOx).own_lt he0; omega) | (have := zo_HOx _ he0; omega) | (have := (HOx).own_lt he0; rcases hi with hi | hi <;> omega))
      replace HB2 := HB2.keep k9 (by intro h; have he0 := h; (try dsimp only at h); (try simp only [Value.ownBlock, Option.some.injEq] at h); first | omega | (have := (HOx).own_lt he0; omega) | (have := zo_HOx _ he0; omega))
      replace HB3 := HB3.keep k9 (by intro h; have he0 := h; (try dsimp only at h); (try simp only [Value.ownBlock, Option.some.injEq] at h); first | omega | (have := (HOx).own_lt he0; omega) | (have := zo_HOx _ he0; omega))
      replace EL1 := EL1.step k9 (by intro i hi he; have he0 := he; (try dsimp only [NoK] at hi he ⊢); (try simp only [Value.ownBlock, Option.some.injEq] at he); first | exact he.elim | omega | exact he | (have := (HOx).own_lt he0; omega) | (have := zo_HOx _ he0; omega) | (have := (HOx).own_lt he0; rcases hi with hi | hi <;> omega))
      have zo_HO19 := fun (b : Nat) h => HO19.own_lt (b := b) h
      refine l_v (v_fieldAddr (off := 1) (ft := 30) (by kernel_rfl) rfl) ?_
      refine l_to (to_store rfl rfl (show _ = (Value.slice _ _ _) from rfl) rfl (by kernel_rfl) HB3 (by simp) ?_)
      rintro w41 HB3 k41 z41
      have zs_k41 := k41.size
      try simp only [List.set_cons_zero, List.set_cons_succ, setAt, List.take, List.drop, List.nil_append, List.cons_append, List.append_nil, List.length_cons, List.length_nil] at HB3
      replace E := E.step k41 (by intro i hi he; (try dsimp only [NoK] at hi he ⊢); first | exact he.elim | omega | exact he)
      replace HB1 := HB1.keep k41 (by intro h; (try dsimp only at h); first | omega)
      replace HT1 := HT1.keep k41 (by intro i _ hi he; (try dsimp only [NoK, AllB] at hi he); first | exact hi.elim | exact he.elim | omega | (rcases hi with hi | hi <;> omega) | (rcases he with he | he <;> omega))
      replace HG2 := HG2.keep k41 (by intro i _ hi he; (try dsimp only [NoK, AllB] at hi he); first | exact hi.elim | exact he.elim | omega | (rcases hi with hi | hi <;> omega) | (rcases he with he | he <;> omega))
      replace HB2 := HB2.keep k41 (by intro h; (try dsimp only at h); first | omega)
      replace EL1 := EL1.step k41 (by intro i hi he; (try dsimp only [NoK] at hi he ⊢); first | exact he.elim | omega | exact he)
      replace HO19 := HO19.keep k41 (by intro i ho he; have he0 := he; have ho0 := ho; (try dsimp only [NoK] at he); (try simp only [Value.ownBlock, Option.some.injEq, reduceCtorEq] at ho); (try simp only [Value.ownBlock, Option.some.injEq, reduceCtorEq] at he); first | exact he.elim | exact ho.elim | omega | (have := zo_HO19 _ ho0; omega)) (by intro i _ hi _ he; have he0 := he; have hi := hi; have he := he; (try dsimp only [NoK, AllB] at hi he); (try simp only [Value.ownBlock, Option.some.injEq, reduceCtorEq] at he); all_goals first | exact hi.elim | exact hi.1.elim | exact he.elim | omega | (rcases hi with hi | hi <;> omega) | (rcases he with he | he <;> omega))
      refine l_nil ?_
      refine n_blk ?_
      refine n_then ?_
      refine wp_reg (by decide +kernel) ?_
      refine l_v (v_move (t := .int _ _) rfl) ?_
      refine l_v (v_add rfl rfl (by first | exact wr_i64 (by omega) (by omega) | rfl)) ?_
      refine l_v (v_assign (t := .int _ _) rfl) ?_
      refine l_nil ?_
      refine n_then ?_
      refine ⟨(i + 1, a9, c9), _, rfl, by (repeat (first | exact Off.of_over _ _ _ | refine Off.upd ?_ (by decide) _ | refine Off.overs ?_ (by decide) _)), ⟨by first | rfl | exact congrArg (Value.int _) (by omega) | (simp; done), trivial⟩, ⟨E, EL1, ?_⟩, ?_⟩
      · skip
        exact ⟨by omega, HB3, HO19⟩
      · (dsimp only; omega)
    · skip
      have hi : i = 32 := by have := dfalse hlt; omega
      subst hi
      refine c_exit ?_
      refine x_then ?_
      refine x_then ?_
      refine x_hit ?_
      refine n_then ?_
      refine c_seq ?_
      refine wp_reg (by decide +kernel) ?_
      refine l_to (to_make (et := 5) (bytes := 1) (by kernel_rfl) (t := tU8) (z := 0) (n := 25) (m := 25) (zv := .int .u8 0) rfl rfl (.inl rfl) (by omega) (by simp only [maxLen]; omega) (by unfold kZero; kernel_rfl) rfl rfl (fun _ _ => rfl) ?_)
      rintro b35 c35 w35 zb35 HO35 e35 z35
      have zs_e35 := e35.size
      replace E := E.trans (Ext.keep e35)
      replace HB1 := HB1.ext e35
      replace HT1 := HT1.ext e35
      replace HG2 := HG2.ext e35
      replace HB2 := HB2.ext e35
      replace HB3 := HB3.ext e35
      replace HOx := HOx.ext e35
      have zo_HO35 := fun (b : Nat) h => HO35.own_lt (b := b) h
      refine l_v (v_fieldAddr (off := 2) (ft := 31) (by kernel_rfl) rfl) ?_
      refine l_to (to_store rfl rfl (show _ = (Value.slice _ _ _) from rfl) rfl (by kernel_rfl) HB3 (by simp) ?_)
      rintro w36 HB3 k36 z36
      have zs_k36 := k36.size
      try simp only [List.set_cons_zero, List.set_cons_succ, setAt, List.take, List.drop, List.nil_append, List.cons_append, List.append_nil, List.length_cons, List.length_nil] at HB3
      replace E := E.step k36 (by intro i hi he; (try dsimp only [NoK] at hi he ⊢); first | exact he.elim | omega | exact he)
      replace HB1 := HB1.keep k36 (by intro h; (try dsimp only at h); first | omega)
      replace HT1 := HT1.keep k36 (by intro i _ hi he; (try dsimp only [NoK, AllB] at hi he); first | exact hi.elim | exact he.elim | omega | (rcases hi with hi | hi <;> omega) | (rcases he with he | he <;> omega))
      replace HG2 := HG2.keep k36 (by intro i _ hi he; (try dsimp only [NoK, AllB] at hi he); first | exact hi.elim | exact he.elim | omega | (rcases hi with hi | hi <;> omega) | (rcases he with he | he <;> omega))
      replace HB2 := HB2.keep k36 (by intro h; (try dsimp only at h); first | omega)
      replace HOx := HOx.keep k36 (by intro i ho he; have he0 := he; have ho0 := ho; (try dsimp only [NoK] at he); (try simp only [Value.ownBlock, Option.some.injEq, reduceCtorEq] at ho); (try simp only [Value.ownBlock, Option.some.injEq, reduceCtorEq] at he); first | exact he.elim | exact ho.elim | omega | (have := zo_HOx _ ho0; omega)) (by intro i _ hi _ he; have he0 := he; have hi := hi; have he := he; (try dsimp only [NoK, AllB] at hi he); (try simp only [Value.ownBlock, Option.some.injEq, reduceCtorEq] at he); all_goals first | exact hi.elim | exact hi.1.elim | exact he.elim | omega | (rcases hi with hi | hi <;> omega) | (rcases he with he | he <;> omega))
      replace HO35 := HO35.keep k36 (by intro i ho he; have he0 := he; have ho0 := ho; (try dsimp only [NoK] at he); (try simp only [Value.ownBlock, Option.some.injEq, reduceCtorEq] at ho); (try simp only [Value.ownBlock, Option.some.injEq, reduceCtorEq] at he); first | exact he.elim | exact ho.elim | omega | (have := zo_HO35 _ ho0; omega)) (by intro i _ hi _ he; have he0 := he; have hi := hi; have he := he; (try dsimp only [NoK, AllB] at hi he); (try simp only [Value.ownBlock, Option.some.injEq, reduceCtorEq] at he); all_goals first | exact hi.elim | exact hi.1.elim | exact he.elim | omega | (rcases hi with hi | hi <;> omega) | (rcases he with he | he <;> omega))
      refine l_v (v_fieldAddr (off := 0) (ft := 29) (by kernel_rfl) rfl) ?_
      refine l_to (to_store rfl rfl (show _ = (Value.int _ _) from rfl) rfl (by kernel_rfl) HB3 (by simp) ?_)
      rintro w37 HB3 k37 z37
      have zs_k37 := k37.size
      try simp only [List.set_cons_zero, List.set_cons_succ, setAt, List.take, List.drop, List.nil_append, List.cons_append, List.append_nil, List.length_cons, List.length_nil] at HB3
      replace E := E.step k37 (by intro i hi he; (try dsimp only [NoK] at hi he ⊢); first | exact he.elim | omega | exact he)
      replace HB1 := HB1.keep k37 (by intro h; (try dsimp only at h); first | omega)
      replace HT1 := HT1.keep k37 (by intro i _ hi he; (try dsimp only [NoK, AllB] at hi he); first | exact hi.elim | exact he.elim | omega | (rcases hi with hi | hi <;> omega) | (rcases he with he | he <;> omega))
      replace HG2 := HG2.keep k37 (by intro i _ hi he; (try dsimp only [NoK, AllB] at hi he); first | exact hi.elim | exact he.elim | omega | (rcases hi with hi | hi <;> omega) | (rcases he with he | he <;> omega))
      replace HB2 := HB2.keep k37 (by intro h; (try dsimp only at h); first | omega)
      replace HOx := HOx.keep k37 (by intro i ho he; have he0 := he; have ho0 := ho; (try dsimp only [NoK] at he); (try simp only [Value.ownBlock, Option.some.injEq, reduceCtorEq] at ho); (try simp only [Value.ownBlock, Option.some.injEq, reduceCtorEq] at he); first | exact he.elim | exact ho.elim | omega | (have := zo_HOx _ ho0; omega)) (by intro i _ hi _ he; have he0 := he; have hi := hi; have he := he; (try dsimp only [NoK, AllB] at hi he); (try simp only [Value.ownBlock, Option.some.injEq, reduceCtorEq] at he); all_goals first | exact hi.elim | exact hi.1.elim | exact he.elim | omega | (rcases hi with hi | hi <;> omega) | (rcases he with he | he <;> omega))
      replace HO35 := HO35.keep k37 (by intro i ho he; have he0 := he; have ho0 := ho; (try dsimp only [NoK] at he); (try simp only [Value.ownBlock, Option.some.injEq, reduceCtorEq] at ho); (try simp only [Value.ownBlock, Option.some.injEq, reduceCtorEq] at he); first | exact he.elim | exact ho.elim | omega | (have := zo_HO35 _ ho0; omega)) (by intro i _ hi _ he; have he0 := he; have hi := hi; have he := he; (try dsimp only [NoK, AllB] at hi he); (try simp only [Value.ownBlock, Option.some.injEq, reduceCtorEq] at he); all_goals first | exact hi.elim | exact hi.1.elim | exact he.elim | omega | (rcases hi with hi | hi <;> omega) | (rcases he with he | he <;> omega))
      refine l_nil ?_
      refine n_then ?_
      refine c_seq ?_
      obtain ⟨n8, hn8⟩ : ∃ n, n = w37.heap.size := ⟨_, rfl⟩
      have HS1 := HOx.view.mono (F' := fun k => n4 ≤ k ∧ k ≠ b3 ∧ k < n8) fun k hk h => by rcases h with h | h <;> omega
      have HS2 := HO35.view.mono (F' := fun k => n4 ≤ k ∧ k ≠ b3 ∧ k < n8) fun k hk h => by rcases h with h | h; omega; exact h.elim
      refine wp_any (by kernel_rfl) ?_
      have e103 : Ext w37 { w37 with drawn := w37.drawn + 1 } := Keep.drawn _ _
      generalize hw103 : ({ w37 with drawn := w37.drawn + 1 } : World) = w103 at e103 ⊢
      clear hw103
      have zs_e103 := e103.size
      replace E := E.trans (Ext.keep e103)
      replace HB1 := HB1.ext e103
      replace HT1 := HT1.ext e103
      replace HG2 := HG2.ext e103
      replace HB2 := HB2.ext e103
      replace HB3 := HB3.ext e103
      replace HS1 := HS1.ext e103
      replace HS2 := HS2.ext e103
      refine r_cut 8 rfl (by decide +kernel) (by decide +kernel) (by decide +kernel) ?_
      refine wp_regJW (fun k => w103.heap.size ≤ k) (AlJ w103.heap.size [⟨3, some 6, 33, ([.int .i64 0, .slice none 0 0, .slice none 0 0] : List Value), ([.int .i64 13, .slice a (prs 32).length c, .slice (some ⟨b35, 0, none⟩) 25 c35] : List Value)⟩, ⟨4, some 7, 33, ([.int .i64 0, .slice none 0 0, .slice none 0 0] : List Value), ([.int .i64 13, .slice a (prs 32).length c, .slice (some ⟨b35, 0, none⟩) 25 c35] : List Value)⟩, ⟨5, none, 33, ([.int .i64 0, .slice none 0 0, .slice none 0 0] : List Value), ([.int .i64 0, .slice none 0 0, .slice none 0 0] : List Value)⟩]) (by decide +kernel) (by decide +kernel) (fun vals done hd => AlJ.start (Nat.le_refl _) (fun a ha => hd a.al (al_lt (n := 8) rfl a ha))) ?_
      refine rj_vJ (fun done vals w hR hcl hdk hJ hdn hd => v_loadA (by kernel_rfl) rfl (by first | exact (HB3.keep hR (by intro h; (try dsimp only at h); first | omega)).pv | exact (HB2.keep hR (by intro h; (try dsimp only at h); first | omega)).pv | exact (HB1.keep hR (by intro h; (try dsimp only at h); first | omega)).pv | assumption) rfl) (fun done vals w hdk hJ => hJ.src (Keep.refl _) rfl) ?_
      refine rj_vJ (fun done vals w hR hcl hdk hJ hdn hd => v_loadA (by kernel_rfl) rfl (by first | exact (HB3.keep hR (by intro h; (try dsimp only at h); first | omega)).pv | exact (HB2.keep hR (by intro h; (try dsimp only at h); first | omega)).pv | exact (HB1.keep hR (by intro h; (try dsimp only at h); first | omega)).pv | assumption) rfl) (fun done vals w hdk hJ => hJ.src (Keep.refl _) rfl) ?_
      refine rj_vJ (fun done vals w hR hcl hdk hJ hdn hd => v_loadA (by kernel_rfl) rfl (by first | exact (HB3.keep hR (by intro h; (try dsimp only at h); first | omega)).pv | exact (HB2.keep hR (by intro h; (try dsimp only at h); first | omega)).pv | exact (HB1.keep hR (by intro h; (try dsimp only at h); first | omega)).pv | assumption) rfl) (fun done vals w hdk hJ => hJ.src (Keep.refl _) rfl) ?_
      refine rj_d (fun done vals w hR hcl hdk hJ hdn hd => to_alloc (z := .agg #[.int .i64 0, .slice none 0 0, .slice none 0 0]) (by unfold kZero; kernel_rfl) fun b w1 hb hB e hz => ⟨Ext.keep e, hJ.al (i := 0) rfl rfl hdk hcl (fun m a hm he => alOne_al (i := 0) (m := m) rfl rfl hm he) (fun a ha => alSt_ne rfl ha (List.mem_of_getElem? (i := 0) rfl)) (fun s hs => by cases hs; exact ⟨_, rfl, rfl⟩) hb hB e⟩) ?_
      refine rj_d (fun done vals w hR hcl hdk hJ hdn hd => to_alloc (z := .agg #[.int .i64 0, .slice none 0 0, .slice none 0 0]) (by unfold kZero; kernel_rfl) fun b w1 hb hB e hz => ⟨Ext.keep e, hJ.al (i := 1) rfl rfl hdk hcl (fun m a hm he => alOne_al (i := 1) (m := m) rfl rfl hm he) (fun a ha => alSt_ne rfl ha (List.mem_of_getElem? (i := 1) rfl)) (fun s hs => by cases hs; exact ⟨_, rfl, rfl⟩) hb hB e⟩) ?_
      refine rj_d (fun done vals w hR hcl hdk hJ hdn hd => to_alloc (z := .agg #[.int .i64 0, .slice none 0 0, .slice none 0 0]) (by unfold kZero; kernel_rfl) fun b w1 hb hB e hz => ⟨Ext.keep e, hJ.al (i := 2) rfl rfl hdk hcl (fun m a hm he => alOne_al (i := 2) (m := m) rfl rfl hm he) (fun a ha => alSt_ne rfl ha (List.mem_of_getElem? (i := 2) rfl)) (fun s hs => by cases hs) hb hB e⟩) ?_
      refine rj_d (fun done vals w hR hcl hdk hJ hdn hd => by
          obtain ⟨b, hb, hn, hB⟩ := hJ.at (i := 0) rfl rfl hdk (hdn 3 rfl)
          exact to_storeA (n := 3) (hb : _ = Value.pointer (some ⟨b, 0, none⟩)) rfl (hd 0 rfl) (by kernel_rfl) rfl (by first | (simp [slice_one]; done) | (simp only [List.forall_mem_cons, List.cons_append, List.nil_append]; repeat' (first | exact rfl | apply And.intro | (intro u hu; cases hu; done)))) hB (of_decide_eq_true rfl) (fun w1 hB1 kk z => ⟨kk.mono (fun i _ h => by rw [h]; exact hn), hJ.st (i := 0) rfl rfl hdk (hdn 3 rfl) (fun m a hm he => alOne_st (i := 0) (m := m) rfl rfl hm rfl he) (fun a ha h => alSt_ne (a := _) rfl (List.mem_of_getElem? (i := 0) rfl) ha (by rw [h])) rfl (fun m a hm he => alOne_al (i := 0) (m := m) rfl rfl hm he) hb hB1 kk⟩)) ?_
      refine rj_d (fun done vals w hR hcl hdk hJ hdn hd => by
          obtain ⟨b, hb, hn, hB⟩ := hJ.at (i := 1) rfl rfl hdk (hdn 4 rfl)
          exact to_storeA (n := 3) (hb : _ = Value.pointer (some ⟨b, 0, none⟩)) rfl (hd 1 rfl) (by kernel_rfl) rfl (by first | (simp [slice_one]; done) | (simp only [List.forall_mem_cons, List.cons_append, List.nil_append]; repeat' (first | exact rfl | apply And.intro | (intro u hu; cases hu; done)))) hB (of_decide_eq_true rfl) (fun w1 hB1 kk z => ⟨kk.mono (fun i _ h => by rw [h]; exact hn), hJ.st (i := 1) rfl rfl hdk (hdn 4 rfl) (fun m a hm he => alOne_st (i := 1) (m := m) rfl rfl hm rfl he) (fun a ha h => alSt_ne (a := _) rfl (List.mem_of_getElem? (i := 1) rfl) ha (by rw [h])) rfl (fun m a hm he => alOne_al (i := 1) (m := m) rfl rfl hm he) hb hB1 kk⟩)) ?_
      refine rj_nil (fun vals w104 k104 J104 => ?_)
      rintro _ - rfl _ - rfl _ - rfl v5 qv5 - v6 qv6 - v7 qv7 - _ - - _ - -
      have zs_k104 := k104.size
      obtain ⟨b5, hb5, zb5, HB5⟩ := J104.fin (i := 0) rfl
      try dsimp only at HB5
      have zl5 := HB5.lt
      obtain ⟨b6, hb6, zb6, HB6⟩ := J104.fin (i := 1) rfl
      try dsimp only at HB6
      have zl6 := HB6.lt
      obtain ⟨b7, hb7, zb7, HB7⟩ := J104.fin (i := 2) rfl
      try dsimp only at HB7
      have zl7 := HB7.lt
      have ne5_6 := J104.ne (i := 0) (m := 1) rfl rfl (by dsimp only; decide) hb5 hb6
      have ne5_7 := J104.ne (i := 0) (m := 2) rfl rfl (by dsimp only; decide) hb5 hb7
      have ne6_7 := J104.ne (i := 1) (m := 2) rfl rfl (by dsimp only; decide) hb6 hb7
      obtain rfl := qv5.trans hb5
      obtain rfl := qv6.trans hb6
      obtain rfl := qv7.trans hb7
      replace E := E.step k104 (by intro i hi he; (try dsimp only [NoK] at hi he ⊢); first | exact he.elim | omega | exact he)
      replace HB1 := HB1.keep k104 (by intro h; (try dsimp only at h); first | omega)
      replace HT1 := HT1.keep k104 (by intro i _ hi he; (try dsimp only [NoK, AllB] at hi he); first | exact hi.elim | exact he.elim | omega | (rcases hi with hi | hi <;> omega) | (rcases he with he | he <;> omega))
      replace HG2 := HG2.keep k104 (by intro i _ hi he; (try dsimp only [NoK, AllB] at hi he); first | exact hi.elim | exact he.elim | omega | (rcases hi with hi | hi <;> omega) | (rcases he with he | he <;> omega))
      replace HB2 := HB2.keep k104 (by intro h; (try dsimp only at h); first | omega)
      replace HB3 := HB3.keep k104 (by intro h; (try dsimp only at h); first | omega)
      replace HS1 := HS1.keep k104 (by intro i _ hi he; (try dsimp only [NoK, AllB] at hi he); first | exact hi.elim | exact he.elim | omega | (rcases hi with hi | hi <;> omega) | (rcases he with he | he <;> omega))
      replace HS2 := HS2.keep k104 (by intro i _ hi he; (try dsimp only [NoK, AllB] at hi he); first | exact hi.elim | exact he.elim | omega | (rcases hi with hi | hi <;> omega) | (rcases he with he | he <;> omega))
      refine fin_nilJ ?_
      refine n_then ?_
      refine r_one (by decide +kernel) rfl ?_
      refine l_to (to_storeA (n := 3) rfl rfl (show _ = (Value.agg _) from rfl) (by kernel_rfl) rfl (by first | (simp [slice_one]; done) | (simp only [List.forall_mem_cons, List.cons_append, List.nil_append]; repeat' (first | exact rfl | apply And.intro | (intro u hu; cases hu; done)))) HB7 (by first | exact of_decide_eq_true rfl | (simp; done) | decide | (simp only [List.length_set, hlen]; exact of_decide_eq_true rfl)) ?_)
      rintro w38 HB7 k38 z38
      have zs_k38 := k38.size
      try simp only [List.set_cons_zero, List.set_cons_succ, setAt, List.take, List.drop, List.nil_append, List.cons_append, List.append_nil, List.length_cons, List.length_nil] at HB7
      replace E := E.step k38 (by intro i hi he; (try dsimp only [NoK] at hi he ⊢); first | exact he.elim | omega | exact he)
      replace HB1 := HB1.keep k38 (by intro h; (try dsimp only at h); first | omega)
      replace HT1 := HT1.keep k38 (by intro i _ hi he; (try dsimp only [NoK, AllB] at hi he); first | exact hi.elim | exact he.elim | omega | (rcases hi with hi | hi <;> omega) | (rcases he with he | he <;> omega))
      replace HG2 := HG2.keep k38 (by intro i _ hi he; (try dsimp only [NoK, AllB] at hi he); first | exact hi.elim | exact he.elim | omega | (rcases hi with hi | hi <;> omega) | (rcases he with he | he <;> omega))
      replace HB2 := HB2.keep k38 (by intro h; (try dsimp only at h); first | omega)
      replace HB3 := HB3.keep k38 (by intro h; (try dsimp only at h); first | omega)
      replace HS1 := HS1.keep k38 (by intro i _ hi he; (try dsimp only [NoK, AllB] at hi he); first | exact hi.elim | exact he.elim | omega | (rcases hi with hi | hi <;> omega) | (rcases he with he | he <;> omega))
      replace HS2 := HS2.keep k38 (by intro i _ hi he; (try dsimp only [NoK, AllB] at hi he); first | exact hi.elim | exact he.elim | omega | (rcases hi with hi | hi <;> omega) | (rcases he with he | he <;> omega))
      replace HB5 := HB5.keep k38 (by intro h; (try dsimp only at h); first | omega)
      replace HB6 := HB6.keep k38 (by intro h; (try dsimp only at h); first | omega)
      refine l_nil ?_
      refine n_then ?_
      refine c_seq ?_
      obtain ⟨n9, hn9⟩ : ∃ n, n = w38.heap.size := ⟨_, rfl⟩
      refine wp_any (by kernel_rfl) ?_
      have e105 : Ext w38 { w38 with drawn := w38.drawn + 1 } := Keep.drawn _ _
      generalize hw105 : ({ w38 with drawn := w38.drawn + 1 } : World) = w105 at e105 ⊢
      clear hw105
      have zs_e105 := e105.size
      replace E := E.trans (Ext.keep e105)
      replace HB1 := HB1.ext e105
      replace HT1 := HT1.ext e105
      replace HG2 := HG2.ext e105
      replace HB2 := HB2.ext e105
      replace HB3 := HB3.ext e105
      replace HS1 := HS1.ext e105
      replace HS2 := HS2.ext e105
      replace HB5 := HB5.ext e105
      replace HB6 := HB6.ext e105
      replace HB7 := HB7.ext e105
      refine r_cut 6 rfl (by decide +kernel) (by decide +kernel) (by decide +kernel) ?_
      refine wp_regJW (fun k => w105.heap.size ≤ k) (EqJ [] (ChainJ (tPr) (61) w105.heap.size (w105.heap.size) (fun b => (n4 ≤ b ∧ b ≠ b3 ∧ b < n8) ∨ n9 ≤ b) (fun b => (n4 ≤ b ∧ b ≠ b3 ∧ b < n8) ∨ n9 ≤ b) (.slice none 0 0 : Value) ([]) [2, 5] [none, some 4] [prs 32, [pr0]])) (by decide +kernel) (by decide +kernel) (fun vals done hd => EqJ.start (ChainJ.start (OwV.nil _ _ _ _ _) (Nat.le_refl _) (Nat.le_refl _) (fun i hi => hd i (dOf_lt (by decide) hi))) (fun k j hq => hd k (dQ_lt (by decide) k j hq))) ?_
      refine rj_v (EqJ.on ChainJ.on) (by decide) (fun done vals w hR hJ hdn hd => v_fieldAddr (off := 1) (ft := 30) (by kernel_rfl) rfl) ?_
      refine rj_v (EqJ.on ChainJ.on) (by decide) (fun done vals w hR hJ hdn hd => v_load (by kernel_rfl) (hd 0 rfl) (by first | exact (HB7.keep hR (by intro h; (try dsimp only at h); first | omega)).pv 1 _ rfl | exact (HB6.keep hR (by intro h; (try dsimp only at h); first | omega)).pv 1 _ rfl | exact (HB5.keep hR (by intro h; (try dsimp only at h); first | omega)).pv 1 _ rfl | exact (HB3.keep hR (by intro h; (try dsimp only at h); first | omega)).pv 1 _ rfl | exact (HB2.keep hR (by intro h; (try dsimp only at h); first | omega)).pv 1 _ rfl | exact (HB1.keep hR (by intro h; (try dsimp only at h); first | omega)).pv 1 _ rfl | assumption)) ?_
      refine rj_d (fun done vals w hR hcl hdk hJ hdn hd => by
          have zs_R := hR.size
          obtain ⟨hacc, hown, hsrc⟩ := hJ.1.at (n := 0) rfl hdk (fun m h => by cases h)
          exact to_append (et := 61) (bytes := 48) (by kernel_rfl) rfl hacc (hd 1 rfl) (HS1.keep hR (by first | exact fun h => h | (intro h; have he0 := h; have h := h; (try dsimp only at h); (try simp only [Value.ownBlock, Option.some.injEq] at h); (try simp only [add_block] at h); (try simp only [add_block] at he0); first | omega) | (intro i _ hi he; have he0 := he; have hi := hi; have he := he; (try dsimp only [NoK, AllB] at hi he); (try simp only [Value.ownBlock, Option.some.injEq] at he); first | exact hi.elim | exact he.elim | omega | (rcases hi with hi | hi <;> omega) | (rcases he with he | he <;> omega)))) (fun cs x h => Ty.mono _ h (fun b _ h => ⟨.inl h, fun ho => (hown b ho).elim (fun h' => by cases h') (fun h' => by omega)⟩)) (by (simp [prs_len])) (by simp only [maxLen]; (simp [prs_len])) (by omega) (fun a n cc w1 o hn kk ho _ => ⟨kk.mono (fun b _ h => (hown b h).resolve_left (fun h => by cases h)), hJ.step hdk (by decide) (hJ.1.app (n := 0) rfl hdk (fun m h => by cases h) rfl (once_as (by decide)) (ps_ne (by decide)) o kk ho)⟩)) ?_
      refine rj_v (EqJ.on ChainJ.on) (by decide) (fun done vals w hR hJ hdn hd => v_loadA (by kernel_rfl) rfl (by first | exact (HB7.keep hR (by intro h; (try dsimp only at h); first | omega)).pv | exact (HB6.keep hR (by intro h; (try dsimp only at h); first | omega)).pv | exact (HB5.keep hR (by intro h; (try dsimp only at h); first | omega)).pv | exact (HB3.keep hR (by intro h; (try dsimp only at h); first | omega)).pv | exact (HB2.keep hR (by intro h; (try dsimp only at h); first | omega)).pv | exact (HB1.keep hR (by intro h; (try dsimp only at h); first | omega)).pv | assumption) rfl) ?_
      refine rj_d (fun done vals w hR hcl hdk hJ hdn hd => by
          have zs_R := hR.size
          exact to_slice1 (t := tPr) (et := 61) (bytes := 48) (by kernel_rfl) (by decide) (hd 3 rfl) ((HG2.keep hR (by first | exact fun h => h | (intro h; have he0 := h; have h := h; (try dsimp only at h); (try simp only [Value.ownBlock, Option.some.injEq] at h); (try simp only [add_block] at h); (try simp only [add_block] at he0); first | omega) | (intro i _ hi he; have he0 := he; have hi := hi; have he := he; (try dsimp only [NoK, AllB] at hi he); (try simp only [Value.ownBlock, Option.some.injEq] at he); first | exact hi.elim | exact he.elim | omega | (rcases hi with hi | hi <;> omega) | (rcases he with he | he <;> omega)))).rp) (fun b w1 hb HO e z => ⟨Ext.keep e, hJ.step hdk (by decide) (hJ.1.prodO (n := 1) e rfl rfl (once_ps (by decide)) (by decide) (HO.view.mono fun b' hb' hF => by rcases hF with hF | hF; exact ⟨by first | trivial | omega | (dsimp only; omega), .inl (by omega)⟩; (have h5 := hF.1; (try dsimp only at h5); exact ⟨by first | trivial | omega | (dsimp only; omega), .inr ⟨by omega, by simp [Value.ownBlock]⟩⟩)))⟩)) ?_
      refine rj_d (fun done vals w hR hcl hdk hJ hdn hd => by
          have zs_R := hR.size
          obtain ⟨hacc, hown, hsrc⟩ := hJ.1.at (n := 1) rfl hdk (fun m h => ⟨2, by cases h; rfl, hdn 2 rfl⟩)
          exact to_append (et := 61) (bytes := 48) (by kernel_rfl) rfl hacc rfl (hsrc _ _ rfl rfl (hdn 4 rfl)) (fun cs x h => Ty.mono _ h (fun b _ h => ⟨h.1, h.2.1⟩)) (by (simp [prs_len])) (by simp only [maxLen]; (simp [prs_len])) (by omega) (fun a n cc w1 o hn kk ho _ => ⟨kk.mono (fun b _ h => (hown b h).resolve_left (fun h => by cases h)), hJ.step hdk (by decide) (hJ.1.app (n := 1) rfl hdk (fun m h => ⟨2, by cases h; rfl, hdn 2 rfl⟩) rfl (once_as (by decide)) (ps_ne (by decide)) o kk ho)⟩)) ?_
      refine rj_nil (fun vals w106 k106 J106 => ?_)
      rintro _ _ rfl _ _ rfl _ rfl - _ _ rfl _ rfl - v46 hv46 -
      have zs_k106 := k106.size
      have HO46 : OwV (tPr) (61) w106 (w105.heap.size) (fun b => (n4 ≤ b ∧ b ≠ b3 ∧ b < n8) ∨ n9 ≤ b) v46 (prs 32 ++ [pr0]) := by
        have h := J106.1.fin (by exact Nat.le_refl _)
        have h2 : [] ++ ([prs 32, [pr0]]).flatten = prs 32 ++ [pr0] := by simp
        rw [h2] at h; rw [hv46]; exact h
      clear hv46
      obtain ⟨a46, c46, rfl⟩ := HO46.shape
      have zo_HO46 := fun (b : Nat) h => HO46.own_lt (b := b) h
      replace E := E.step k106 (by intro i hi he; (try dsimp only [NoK] at hi he ⊢); first | exact he.elim | omega | exact he)
      replace HB1 := HB1.keep k106 (by intro h; (try dsimp only at h); first | omega)
      replace HT1 := HT1.keep k106 (by intro i _ hi he; (try dsimp only [NoK, AllB] at hi he); first | exact hi.elim | exact he.elim | omega | (rcases hi with hi | hi <;> omega) | (rcases he with he | he <;> omega))
      replace HG2 := HG2.keep k106 (by intro i _ hi he; (try dsimp only [NoK, AllB] at hi he); first | exact hi.elim | exact he.elim | omega | (rcases hi with hi | hi <;> omega) | (rcases he with he | he <;> omega))
      replace HB2 := HB2.keep k106 (by intro h; (try dsimp only at h); first | omega)
      replace HB3 := HB3.keep k106 (by intro h; (try dsimp only at h); first | omega)
      replace HS1 := HS1.keep k106 (by intro i _ hi he; (try dsimp only [NoK, AllB] at hi he); first | exact hi.elim | exact he.elim | omega | (rcases hi with hi | hi <;> omega) | (rcases he with he | he <;> omega))
      replace HS2 := HS2.keep k106 (by intro i _ hi he; (try dsimp only [NoK, AllB] at hi he); first | exact hi.elim | exact he.elim | omega | (rcases hi with hi | hi <;> omega) | (rcases he with he | he <;> omega))
      replace HB5 := HB5.keep k106 (by intro h; (try dsimp only at h); first | omega)
      replace HB6 := HB6.keep k106 (by intro h; (try dsimp only at h); first | omega)
      replace HB7 := HB7.keep k106 (by intro h; (try dsimp only at h); first | omega)
      refine fin_nilJ ?_
      refine n_then ?_
      refine r_cut 1 rfl (by decide +kernel) (by decide +kernel) (by decide +kernel) ?_
      refine r_one (by decide +kernel) rfl ?_
      refine l_v (v_fieldAddr (off := 1) (ft := 30) (by kernel_rfl) rfl) ?_
      refine l_nil ?_
      refine n_then ?_
      refine r_one (by decide +kernel) rfl ?_
      refine l_to (to_store rfl rfl (show _ = (Value.slice _ _ _) from rfl) rfl (by kernel_rfl) HB5 (by simp) ?_)
      rintro w47 HB5 k47 z47
      have zs_k47 := k47.size
      try simp only [List.set_cons_zero, List.set_cons_succ, setAt, List.take, List.drop, List.nil_append, List.cons_append, List.append_nil, List.length_cons, List.length_nil] at HB5
      replace E := E.step k47 (by intro i hi he; (try dsimp only [NoK] at hi he ⊢); first | exact he.elim | omega | exact he)
      replace HB1 := HB1.keep k47 (by intro h; (try dsimp only at h); first | omega)
      replace HT1 := HT1.keep k47 (by intro i _ hi he; (try dsimp only [NoK, AllB] at hi he); first | exact hi.elim | exact he.elim | omega | (rcases hi with hi | hi <;> omega) | (rcases he with he | he <;> omega))
      replace HG2 := HG2.keep k47 (by intro i _ hi he; (try dsimp only [NoK, AllB] at hi he); first | exact hi.elim | exact he.elim | omega | (rcases hi with hi | hi <;> omega) | (rcases he with he | he <;> omega))
      replace HB2 := HB2.keep k47 (by intro h; (try dsimp only at h); first | omega)
      replace HB3 := HB3.keep k47 (by intro h; (try dsimp only at h); first | omega)
      replace HS1 := HS1.keep k47 (by intro i _ hi he; (try dsimp only [NoK, AllB] at hi he); first | exact hi.elim | exact he.elim | omega | (rcases hi with hi | hi <;> omega) | (rcases he with he | he <;> omega))
      replace HS2 := HS2.keep k47 (by intro i _ hi he; (try dsimp only [NoK, AllB] at hi he); first | exact hi.elim | exact he.elim | omega | (rcases hi with hi | hi <;> omega) | (rcases he with he | he <;> omega))
      replace HB6 := HB6.keep k47 (by intro h; (try dsimp only at h); first | omega)
      replace HB7 := HB7.keep k47 (by intro h; (try dsimp only at h); first | omega)
      replace HO46 := HO46.keep k47 (by intro i ho he; have he0 := he; have ho0 := ho; (try dsimp only [NoK] at he); (try simp only [Value.ownBlock, Option.some.injEq, reduceCtorEq] at ho); (try simp only [Value.ownBlock, Option.some.injEq, reduceCtorEq] at he); first | exact he.elim | exact ho.elim | omega | (have := zo_HO46 _ ho0; omega)) (by intro i _ hi _ he; have he0 := he; have hi := hi; have he := he; (try dsimp only [NoK, AllB] at hi he); (try simp only [Value.ownBlock, Option.some.injEq, reduceCtorEq] at he); all_goals first | exact hi.elim | exact hi.1.elim | exact he.elim | omega | (rcases hi with hi | hi <;> omega) | (rcases he with he | he <;> omega))
      refine l_nil ?_
      refine n_then ?_
      refine c_seq ?_
      obtain ⟨n10, hn10⟩ : ∃ n, n = w47.heap.size := ⟨_, rfl⟩
      have HS5 := HO46.view.mono (F' := fun k => n4 ≤ k ∧ k ≠ b3 ∧ (k < n8 ∨ n9 ≤ k) ∧ k < n10) fun k hk h => by rcases h with h | h | h <;> omega
      refine wp_reg (by decide +kernel) ?_
      refine l_to (to_make (et := 5) (bytes := 1) (by kernel_rfl) (t := tU8) (z := 0) (n := 26) (m := 26) (zv := .int .u8 0) rfl rfl (.inl rfl) (by omega) (by simp only [maxLen]; omega) (by unfold kZero; kernel_rfl) rfl rfl (fun _ _ => rfl) ?_)
      rintro b48 c48 w48 zb48 HO48 e48 z48
      have zs_e48 := e48.size
      replace E := E.trans (Ext.keep e48)
      replace HB1 := HB1.ext e48
      replace HT1 := HT1.ext e48
      replace HG2 := HG2.ext e48
      replace HB2 := HB2.ext e48
      replace HB3 := HB3.ext e48
      replace HS1 := HS1.ext e48
      replace HS2 := HS2.ext e48
      replace HB6 := HB6.ext e48
      replace HB7 := HB7.ext e48
      replace HB5 := HB5.ext e48
      replace HS5 := HS5.ext e48
      have zo_HO48 := fun (b : Nat) h => HO48.own_lt (b := b) h
      refine l_v (v_fieldAddr (off := 2) (ft := 31) (by kernel_rfl) rfl) ?_
      refine l_to (to_store rfl rfl (show _ = (Value.slice _ _ _) from rfl) rfl (by kernel_rfl) HB6 (by simp) ?_)
      rintro w49 HB6 k49 z49
      have zs_k49 := k49.size
      try simp only [List.set_cons_zero, List.set_cons_succ, setAt, List.take, List.drop, List.nil_append, List.cons_append, List.append_nil, List.length_cons, List.length_nil] at HB6
      replace E := E.step k49 (by intro i hi he; (try dsimp only [NoK] at hi he ⊢); first | exact he.elim | omega | exact he)
      replace HB1 := HB1.keep k49 (by intro h; (try dsimp only at h); first | omega)
      replace HT1 := HT1.keep k49 (by intro i _ hi he; (try dsimp only [NoK, AllB] at hi he); first | exact hi.elim | exact he.elim | omega | (rcases hi with hi | hi <;> omega) | (rcases he with he | he <;> omega))
      replace HG2 := HG2.keep k49 (by intro i _ hi he; (try dsimp only [NoK, AllB] at hi he); first | exact hi.elim | exact he.elim | omega | (rcases hi with hi | hi <;> omega) | (rcases he with he | he <;> omega))
      replace HB2 := HB2.keep k49 (by intro h; (try dsimp only at h); first | omega)
      replace HB3 := HB3.keep k49 (by intro h; (try dsimp only at h); first | omega)
      replace HS1 := HS1.keep k49 (by intro i _ hi he; (try dsimp only [NoK, AllB] at hi he); first | exact hi.elim | exact he.elim | omega | (rcases hi with hi | hi <;> omega) | (rcases he with he | he <;> omega))
      replace HS2 := HS2.keep k49 (by intro i _ hi he; (try dsimp only [NoK, AllB] at hi he); first | exact hi.elim | exact he.elim | omega | (rcases hi with hi | hi <;> omega) | (rcases he with he | he <;> omega))
      replace HB7 := HB7.keep k49 (by intro h; (try dsimp only at h); first | omega)
      replace HB5 := HB5.keep k49 (by intro h; (try dsimp only at h); first | omega)
      replace HS5 := HS5.keep k49 (by intro i _ hi he; (try dsimp only [NoK, AllB] at hi he); first | exact hi.elim | exact he.elim | omega | (rcases hi with hi | hi <;> omega) | (rcases he with he | he <;> omega))
      replace HO48 := HO48.keep k49 (by intro i ho he; have he0 := he; have ho0 := ho; (try dsimp only [NoK] at he); (try simp only [Value.ownBlock, Option.some.injEq, reduceCtorEq] at ho); (try simp only [Value.ownBlock, Option.some.injEq, reduceCtorEq] at he); first | exact he.elim | exact ho.elim | omega | (have := zo_HO48 _ ho0; omega)) (by intro i _ hi _ he; have he0 := he; have hi := hi; have he := he; (try dsimp only [NoK, AllB] at hi he); (try simp only [Value.ownBlock, Option.some.injEq, reduceCtorEq] at he); all_goals first | exact hi.elim | exact hi.1.elim | exact he.elim | omega | (rcases hi with hi | hi <;> omega) | (rcases he with he | he <;> omega))
      refine l_nil ?_
      refine n_then ?_
      refine c_seq ?_
      obtain ⟨n11, hn11⟩ : ∃ n, n = w49.heap.size := ⟨_, rfl⟩
      have HS6 := HO48.view.mono (F' := fun k => n4 ≤ k ∧ k ≠ b3 ∧ n9 ≤ k ∧ k < n11) fun k hk h => by rcases h with h | h; omega; exact h.elim
      refine wp_reg (by decide +kernel) ?_
      refine l_v (v_fieldAddr (off := 0) (ft := 29) (by kernel_rfl) rfl) ?_
      refine l_to (to_store rfl rfl (show _ = (Value.int _ _) from rfl) rfl (by kernel_rfl) HB7 (by simp) ?_)
      rintro w50 HB7 k50 z50
      have zs_k50 := k50.size
      try simp only [List.set_cons_zero, List.set_cons_succ, setAt, List.take, List.drop, List.nil_append, List.cons_append, List.append_nil, List.length_cons, List.length_nil] at HB7
      replace E := E.step k50 (by intro i hi he; (try dsimp only [NoK] at hi he ⊢); first | exact he.elim | omega | exact he)
      replace HB1 := HB1.keep k50 (by intro h; (try dsimp only at h); first | omega)
      replace HT1 := HT1.keep k50 (by intro i _ hi he; (try dsimp only [NoK, AllB] at hi he); first | exact hi.elim | exact he.elim | omega | (rcases hi with hi | hi <;> omega) | (rcases he with he | he <;> omega))
      replace HG2 := HG2.keep k50 (by intro i _ hi he; (try dsimp only [NoK, AllB] at hi he); first | exact hi.elim | exact he.elim | omega | (rcases hi with hi | hi <;> omega) | (rcases he with he | he <;> omega))
      replace HB2 := HB2.keep k50 (by intro h; (try dsimp only at h); first | omega)
      replace HB3 := HB3.keep k50 (by intro h; (try dsimp only at h); first | omega)
      replace HS1 := HS1.keep k50 (by intro i _ hi he; (try dsimp only [NoK, AllB] at hi he); first | exact hi.elim | exact he.elim | omega | (rcases hi with hi | hi <;> omega) | (rcases he with he | he <;> omega))
      replace HS2 := HS2.keep k50 (by intro i _ hi he; (try dsimp only [NoK, AllB] at hi he); first | exact hi.elim | exact he.elim | omega | (rcases hi with hi | hi <;> omega) | (rcases he with he | he <;> omega))
      replace HB5 := HB5.keep k50 (by intro h; (try dsimp only at h); first | omega)
      replace HS5 := HS5.keep k50 (by intro i _ hi he; (try dsimp only [NoK, AllB] at hi he); first | exact hi.elim | exact he.elim | omega | (rcases hi with hi | hi <;> omega) | (rcases he with he | he <;> omega))
      replace HB6 := HB6.keep k50 (by intro h; (try dsimp only at h); first | omega)
      replace HS6 := HS6.keep k50 (by intro i _ hi he; (try dsimp only [NoK, AllB] at hi he); first | exact hi.elim | exact he.elim | omega | (rcases hi with hi | hi <;> omega) | (rcases he with he | he <;> omega))
      refine l_nil ?_
      refine n_then ?_
      refine c_seq ?_
      have HG0 : AgV tAn _ (fun k => n4 ≤ k ∧ k ≠ b3 ∧ (k < n8 ∨ n9 ≤ k) ∧ k < n11) _ A0 := AgV.mkAn (e := 13) (HS1.mono fun k _ h => by omega) (HS2.mono fun k _ h => by omega) ⟨by decide, by decide⟩
      have HG5 : AgV tAn _ (fun k => n4 ≤ k ∧ k ≠ b3 ∧ (k < n8 ∨ n9 ≤ k) ∧ k < n11) _ A5 := AgV.mkAn (e := 13) (HS5.mono fun k _ h => by omega) (HS2.mono fun k _ h => by omega) ⟨by decide, by decide⟩
      have HG6 : AgV tAn _ (fun k => n4 ≤ k ∧ k ≠ b3 ∧ (k < n8 ∨ n9 ≤ k) ∧ k < n11) _ A6 := AgV.mkAn (e := 13) (HS1.mono fun k _ h => by omega) (HS6.mono fun k _ h => by omega) ⟨by decide, by decide⟩
      have HG7 : AgV tAn _ (fun k => n4 ≤ k ∧ k ≠ b3 ∧ (k < n8 ∨ n9 ≤ k) ∧ k < n11) _ A7 := AgV.mkAn (e := -1) (HS1.mono fun k _ h => by omega) (HS2.mono fun k _ h => by omega) ⟨by decide, by decide⟩
      refine wp_reg (by decide +kernel) ?_
      refine l_v (v_move (t := .pointer _) rfl) ?_
      refine l_v (v_loadA (by kernel_rfl) rfl (by first | exact HB7.pv | exact HB6.pv | exact HB5.pv | exact HB3.pv | exact HB2.pv | exact HB1.pv | assumption) rfl) ?_
      refine l_to (to_f4 (by kernel_rfl) (show _ = (Value.pointer _) from rfl) (show _ = (Value.int _ _) from rfl) (show _ = (Value.int _ _) from rfl) (show _ = (Value.agg _) from rfl) (CallsR.mono (put_k (n2 := n4) pn0 HB1 HT1 (fun i h => h.elim) (by omega) (by omega) hn1 HG0 ⟨by decide, by decide⟩) ?_))
      rintro _ w53 ⟨⟨rfl, HT1⟩, k53⟩
      have zs_k53 := k53.size
      replace E := E.step k53 (by intro i hi he; (try dsimp only [NoK] at hi he ⊢); first | exact he.elim | omega | exact he)
      replace HB1 := HB1.keep k53 (by intro h; (try dsimp only at h); first | omega)
      replace HG2 := HG2.keep k53 (by intro i _ hi he; (try dsimp only [NoK, AllB] at hi he); first | exact hi.elim | exact he.elim | omega | (rcases hi with hi | hi <;> omega) | (rcases he with he | he <;> omega))
      replace HB2 := HB2.keep k53 (by intro h; (try dsimp only at h); first | omega)
      replace HB3 := HB3.keep k53 (by intro h; (try dsimp only at h); first | omega)
      replace HB5 := HB5.keep k53 (by intro h; (try dsimp only at h); first | omega)
      replace HB6 := HB6.keep k53 (by intro h; (try dsimp only at h); first | omega)
      replace HB7 := HB7.keep k53 (by intro h; (try dsimp only at h); first | omega)
      replace HG0 := HG0.keep k53 (by intro i _ hi he; (try dsimp only [NoK, AllB] at hi he); first | exact hi.elim | exact he.elim | omega | (rcases hi with hi | hi <;> omega) | (rcases he with he | he <;> omega))
      replace HG5 := HG5.keep k53 (by intro i _ hi he; (try dsimp only [NoK, AllB] at hi he); first | exact hi.elim | exact he.elim | omega | (rcases hi with hi | hi <;> omega) | (rcases he with he | he <;> omega))
      replace HG6 := HG6.keep k53 (by intro i _ hi he; (try dsimp only [NoK, AllB] at hi he); first | exact hi.elim | exact he.elim | omega | (rcases hi with hi | hi <;> omega) | (rcases he with he | he <;> omega))
      replace HG7 := HG7.keep k53 (by intro i _ hi he; (try dsimp only [NoK, AllB] at hi he); first | exact hi.elim | exact he.elim | omega | (rcases hi with hi | hi <;> omega) | (rcases he with he | he <;> omega))
      refine l_v (v_assign (t := .int _ _) rfl) ?_
      refine l_nil ?_
      refine n_then ?_
      refine c_seq ?_
      refine wp_any (by kernel_rfl) ?_
      have e107 : Ext w53 { w53 with drawn := w53.drawn + 1 } := Keep.drawn _ _
      generalize hw107 : ({ w53 with drawn := w53.drawn + 1 } : World) = w107 at e107 ⊢
      clear hw107
      have zs_e107 := e107.size
      replace E := E.trans (Ext.keep e107)
      replace HB1 := HB1.ext e107
      replace HG2 := HG2.ext e107
      replace HB2 := HB2.ext e107
      replace HB3 := HB3.ext e107
      replace HB5 := HB5.ext e107
      replace HB6 := HB6.ext e107
      replace HB7 := HB7.ext e107
      replace HG0 := HG0.ext e107
      replace HG5 := HG5.ext e107
      replace HG6 := HG6.ext e107
      replace HG7 := HG7.ext e107
      replace HT1 := HT1.ext e107
      refine r_cut 9 rfl (by decide +kernel) (by decide +kernel) (by decide +kernel) ?_
      refine wp_regJW (fun i => i = m1) (ChJ 2 5 8 (fun n W => Blk W b1 [.map (some m1)] 65 ∧ TbI W (fun i => n4 ≤ i) m1 S4 ∧ (n4 ≤ W.heap.size ∧ AgV tAn W (fun k => n4 ≤ k ∧ k ≠ b3 ∧ (k < n8 ∨ n9 ≤ k) ∧ k < n11) (.agg #[.int .i64 13, .slice a46 (prs 32 ++ [pr0]).length c46, .slice (some ⟨b35, 0, none⟩) 25 c35]) A5 ∧ AgV tAn W (fun k => n4 ≤ k ∧ k ≠ b3 ∧ (k < n8 ∨ n9 ≤ k) ∧ k < n11) (.agg #[.int .i64 13, .slice a (prs 32).length c, .slice (some ⟨b48, 0, none⟩) 26 c48]) A6 ∧ AgV tAn W (fun k => n4 ≤ k ∧ k ≠ b3 ∧ (k < n8 ∨ n9 ≤ k) ∧ k < n11) (.agg #[.int .i64 (-1), .slice a (prs 32).length c, .slice (some ⟨b35, 0, none⟩) 25 c35]) A7))) (by decide +kernel) (by decide +kernel) (fun vals done hd => ChJ.start (⟨HB1, HT1.mono (fun i _ h => h.1), by have := E.size; omega, HG5, HG6, HG7⟩) (hd 2 (by decide)) (hd 5 (by decide)) (hd 8 (by decide))) ?_
      refine rj_vJ (fun done vals w hR hcl hdk hJ hdn hd => v_move (t := .pointer _) rfl) (fun done vals w hdk hJ => hJ.src (by decide) (by decide) (by decide)) ?_
      refine rj_vJ (fun done vals w hR hcl hdk hJ hdn hd => v_loadA (by kernel_rfl) rfl (by first | exact (HB7.keep hR (by intro h; (try dsimp only at h); first | omega)).pv | exact (HB6.keep hR (by intro h; (try dsimp only at h); first | omega)).pv | exact (HB5.keep hR (by intro h; (try dsimp only at h); first | omega)).pv | exact (HB3.keep hR (by intro h; (try dsimp only at h); first | omega)).pv | exact (HB2.keep hR (by intro h; (try dsimp only at h); first | omega)).pv | assumption) rfl) (fun done vals w hdk hJ => hJ.src (by decide) (by decide) (by decide)) ?_
      refine rj_to (fun v _ => v = (.int .i64 2)) (fun _ _ _ h _ => h) (fun done vals w hR hcl hdk hJ hdn hd => by
          obtain ⟨h0, hn⟩ := hJ.st0 hcl hdk ⟨_, rfl, rfl⟩ ⟨_, rfl, rfl⟩ (by decide) (by decide)
          exact to_f4 (by kernel_rfl) (hd 0 rfl) (show _ = (Value.int _ _) from rfl) (show _ = (Value.int _ _) from rfl) (hd 1 rfl) (CallsR.mono (put_k (n2 := n4) (pnF may5) h0.1 h0.2.1 (fun i h => h) (by omega) h0.2.2.1 hn1 h0.2.2.2.1 ⟨by decide, by decide⟩) fun v w1 h => ⟨h.2, h.1.1, hn _ _ (⟨h0.1.keep h.2 (fun he => by have he := he; (try dsimp only at he); omega), h.1.2.mono (fun i _ hi => hi.1), by have := h.2.size; have := h0.2.2.1; omega, h0.2.2.2.1.keep h.2 (fun i _ hf he => by have hf := hf; have he := he; (try dsimp only at hf he); omega), h0.2.2.2.2.1.keep h.2 (fun i _ hf he => by have hf := hf; have he := he; (try dsimp only at hf he); omega), h0.2.2.2.2.2.keep h.2 (fun i _ hf he => by have hf := hf; have he := he; (try dsimp only at hf he); omega)⟩)⟩)) ?_
      refine rj_vJ (fun done vals w hR hcl hdk hJ hdn hd => v_move (t := .pointer _) rfl) (fun done vals w hdk hJ => hJ.src (by decide) (by decide) (by decide)) ?_
      refine rj_vJ (fun done vals w hR hcl hdk hJ hdn hd => v_loadA (by kernel_rfl) rfl (by first | exact (HB7.keep hR (by intro h; (try dsimp only at h); first | omega)).pv | exact (HB6.keep hR (by intro h; (try dsimp only at h); first | omega)).pv | exact (HB5.keep hR (by intro h; (try dsimp only at h); first | omega)).pv | exact (HB3.keep hR (by intro h; (try dsimp only at h); first | omega)).pv | exact (HB2.keep hR (by intro h; (try dsimp only at h); first | omega)).pv | assumption) rfl) (fun done vals w hdk hJ => hJ.src (by decide) (by decide) (by decide)) ?_
      refine rj_to (fun v _ => v = (.int .i64 2)) (fun _ _ _ h _ => h) (fun done vals w hR hcl hdk hJ hdn hd => by
          obtain ⟨h0, hn⟩ := hJ.st1 hcl hdk (hdn 2 rfl) ⟨_, rfl, rfl⟩ (by decide) (by decide)
          exact to_f4 (by kernel_rfl) (hd 3 rfl) (show _ = (Value.int _ _) from rfl) (show _ = (Value.int _ _) from rfl) (hd 4 rfl) (CallsR.mono (put_k (n2 := n4) (pnF may6) h0.1 h0.2.1 (fun i h => h) (by omega) h0.2.2.1 hn1 h0.2.2.2.2.1 ⟨by decide, by decide⟩) fun v w1 h => ⟨h.2, h.1.1, hn _ _ (⟨h0.1.keep h.2 (fun he => by have he := he; (try dsimp only at he); omega), h.1.2.mono (fun i _ hi => hi.1), by have := h.2.size; have := h0.2.2.1; omega, h0.2.2.2.1.keep h.2 (fun i _ hf he => by have hf := hf; have he := he; (try dsimp only at hf he); omega), h0.2.2.2.2.1.keep h.2 (fun i _ hf he => by have hf := hf; have he := he; (try dsimp only at hf he); omega), h0.2.2.2.2.2.keep h.2 (fun i _ hf he => by have hf := hf; have he := he; (try dsimp only at hf he); omega)⟩)⟩)) ?_
      refine rj_vJ (fun done vals w hR hcl hdk hJ hdn hd => v_move (t := .pointer _) rfl) (fun done vals w hdk hJ => hJ.src (by decide) (by decide) (by decide)) ?_
      refine rj_vJ (fun done vals w hR hcl hdk hJ hdn hd => v_loadA (by kernel_rfl) rfl (by first | exact (HB7.keep hR (by intro h; (try dsimp only at h); first | omega)).pv | exact (HB6.keep hR (by intro h; (try dsimp only at h); first | omega)).pv | exact (HB5.keep hR (by intro h; (try dsimp only at h); first | omega)).pv | exact (HB3.keep hR (by intro h; (try dsimp only at h); first | omega)).pv | exact (HB2.keep hR (by intro h; (try dsimp only at h); first | omega)).pv | assumption) rfl) (fun done vals w hdk hJ => hJ.src (by decide) (by decide) (by decide)) ?_
      refine rj_to (fun v _ => v = (.int .i64 2)) (fun _ _ _ h _ => h) (fun done vals w hR hcl hdk hJ hdn hd => by
          obtain ⟨h0, hn⟩ := hJ.st2 hdk (hdn 5 rfl)
          exact to_f4 (by kernel_rfl) (hd 6 rfl) (show _ = (Value.int _ _) from rfl) (show _ = (Value.int _ _) from rfl) (hd 7 rfl) (CallsR.mono (put_k (n2 := n4) (pnF may7) h0.1 h0.2.1 (fun i h => h) (by omega) h0.2.2.1 hn1 h0.2.2.2.2.2 ⟨by decide, by decide⟩) fun v w1 h => ⟨h.2, h.1.1, hn _ _ (⟨h0.1.keep h.2 (fun he => by have he := he; (try dsimp only at he); omega), h.1.2.mono (fun i _ hi => hi.1), by have := h.2.size; have := h0.2.2.1; omega, h0.2.2.2.1.keep h.2 (fun i _ hf he => by have hf := hf; have he := he; (try dsimp only at hf he); omega), h0.2.2.2.2.1.keep h.2 (fun i _ hf he => by have hf := hf; have he := he; (try dsimp only at hf he); omega), h0.2.2.2.2.2.keep h.2 (fun i _ hf he => by have hf := hf; have he := he; (try dsimp only at hf he); omega)⟩)⟩)) ?_
      refine rj_nil (fun vals w108 k108 J108 => ?_)
      rintro _ - rfl _ - rfl _ - rfl _ - rfl _ - rfl _ - rfl _ - rfl _ - rfl _ - rfl
      have zs_k108 := k108.size
      obtain ⟨HB1, HT1, -⟩ := J108.fin
      replace E := E.step k108 (by intro i hi he; (try dsimp only [NoK] at hi he ⊢); first | exact he.elim | omega | exact he)
      replace HG2 := HG2.keep k108 (by intro i _ hi he; (try dsimp only [NoK, AllB] at hi he); first | exact hi.elim | exact he.elim | omega | (rcases hi with hi | hi <;> omega) | (rcases he with he | he <;> omega))
      replace HB2 := HB2.keep k108 (by intro h; (try dsimp only at h); first | omega)
      replace HB3 := HB3.keep k108 (by intro h; (try dsimp only at h); first | omega)
      replace HB5 := HB5.keep k108 (by intro h; (try dsimp only at h); first | omega)
      replace HB6 := HB6.keep k108 (by intro h; (try dsimp only at h); first | omega)
      replace HB7 := HB7.keep k108 (by intro h; (try dsimp only at h); first | omega)
      replace HG0 := HG0.keep k108 (by intro i _ hi he; (try dsimp only [NoK, AllB] at hi he); first | exact hi.elim | exact he.elim | omega | (rcases hi with hi | hi <;> omega) | (rcases he with he | he <;> omega))
      refine fin_nilJ ?_
      refine n_then ?_
      refine wp_regdW (NoK) (by decide +kernel) (by decide +kernel) ?_
      refine rt_v (fun vals w hR hd => v_assign (t := .int _ _) rfl) ?_
      refine rt_v (fun vals w hR hd => v_assign (t := .int _ _) rfl) ?_
      refine rt_v (fun vals w hR hd => v_assign (t := .int _ _) rfl) ?_
      refine rt_nil (fun w109 e109 => ?_)
      rintro _ rfl _ rfl _ rfl
      have zs_e109 := e109.size
      replace E := E.trans (Ext.keep e109)
      replace HG2 := HG2.ext e109
      replace HB2 := HB2.ext e109
      replace HB3 := HB3.ext e109
      replace HB5 := HB5.ext e109
      replace HB6 := HB6.ext e109
      replace HB7 := HB7.ext e109
      replace HG0 := HG0.ext e109
      replace HB1 := HB1.ext e109
      replace HT1 := HT1.ext e109
      refine fin_nil ?_
      refine n_then ?_
      refine c_seq ?_
      refine wp_reg (by decide +kernel) ?_
      refine l_v (v_move (t := .pointer _) rfl) ?_
      refine l_v (v_loadA (by kernel_rfl) rfl (by first | exact HB1.pv | exact HB7.pv | exact HB6.pv | exact HB5.pv | exact HB3.pv | exact HB2.pv | assumption) rfl) ?_
      refine l_to (to_f4 (by kernel_rfl) (show _ = (Value.pointer _) from rfl) (show _ = (Value.int _ _) from rfl) (show _ = (Value.int _ _) from rfl) (show _ = (Value.agg _) from rfl) (CallsR.mono (put_k (n2 := n4) pn8 HB1 HT1 (fun i h => h) (by omega) (by omega) hn1 HG0 ⟨by decide, by decide⟩) ?_))
      rintro _ w65 ⟨⟨rfl, HT1⟩, k65⟩
      have zs_k65 := k65.size
      replace E := E.step k65 (by intro i hi he; (try dsimp only [NoK] at hi he ⊢); first | exact he.elim | omega | exact he)
      replace HG2 := HG2.keep k65 (by intro i _ hi he; (try dsimp only [NoK, AllB] at hi he); first | exact hi.elim | exact he.elim | omega | (rcases hi with hi | hi <;> omega) | (rcases he with he | he <;> omega))
      replace HB2 := HB2.keep k65 (by intro h; (try dsimp only at h); first | omega)
      replace HB3 := HB3.keep k65 (by intro h; (try dsimp only at h); first | omega)
      replace HB5 := HB5.keep k65 (by intro h; (try dsimp only at h); first | omega)
      replace HB6 := HB6.keep k65 (by intro h; (try dsimp only at h); first | omega)
      replace HB7 := HB7.keep k65 (by intro h; (try dsimp only at h); first | omega)
      replace HG0 := HG0.keep k65 (by intro i _ hi he; (try dsimp only [NoK, AllB] at hi he); first | exact hi.elim | exact he.elim | omega | (rcases hi with hi | hi <;> omega) | (rcases he with he | he <;> omega))
      replace HB1 := HB1.keep k65 (by intro h; (try dsimp only at h); first | omega)
      refine l_v (v_assign (t := .int _ _) rfl) ?_
      refine l_nil ?_
      refine n_then ?_
      refine c_seq ?_
      refine wp_reg (by decide +kernel) ?_
      refine l_v (v_move (t := .pointer _) rfl) ?_
      refine l_to (to_f3 (by kernel_rfl) (show _ = (Value.pointer _) from rfl) (show _ = (Value.int _ _) from rfl) (show _ = (Value.int _ _) from rfl) (CallsR.mono (look_k ln1 HB1 HT1 S4_ok) ?_))
      rintro _ w68 ⟨⟨a68, c68, a69, c69, rfl, HG13⟩, e68⟩
      have zs_e68 := e68.size
      replace E := E.trans (Ext.keep e68)
      replace HG2 := HG2.ext e68
      replace HB2 := HB2.ext e68
      replace HB3 := HB3.ext e68
      replace HB5 := HB5.ext e68
      replace HB6 := HB6.ext e68
      replace HB7 := HB7.ext e68
      replace HG0 := HG0.ext e68
      replace HB1 := HB1.ext e68
      replace HT1 := HT1.ext e68
      refine l_v (v_move (t := .tuple _) rfl) ?_
      refine l_v (v_extract (t := .agg _) rfl rfl) ?_
      refine l_v (v_extract (t := .int _ _) rfl rfl) ?_
      refine l_v (v_extract (t := .int _ _) rfl rfl) ?_
      refine l_to (to_alloc (z := (.agg #[.int .i64 0, .slice none 0 0, .slice none 0 0])) (by unfold kZero; kernel_rfl) ?_)
      rintro b13 w13 zb13 HB13 e13 z13
      have zs_e13 := e13.size
      replace E := E.trans (Ext.keep e13)
      replace HG2 := HG2.ext e13
      replace HB2 := HB2.ext e13
      replace HB3 := HB3.ext e13
      replace HB5 := HB5.ext e13
      replace HB6 := HB6.ext e13
      replace HB7 := HB7.ext e13
      replace HG0 := HG0.ext e13
      replace HB1 := HB1.ext e13
      replace HT1 := HT1.ext e13
      replace HG13 := HG13.ext e13
      try simp only [Value.cells] at HB13
      refine l_to (to_storeA (n := 3) rfl rfl (show _ = (Value.agg _) from rfl) (by kernel_rfl) rfl (by first | (simp [slice_one]; done) | (simp only [List.forall_mem_cons, List.cons_append, List.nil_append]; repeat' (first | exact rfl | apply And.intro | (intro u hu; cases hu; done)))) HB13 (by first | exact of_decide_eq_true rfl | (simp; done) | decide | (simp only [List.length_set, hlen]; exact of_decide_eq_true rfl)) ?_)
      rintro w110 HX110 k110 z110
      have zs_k110 := k110.size
      replace E := E.step k110 (by intro i hi he; (try dsimp only [NoK] at hi he ⊢); first | exact he.elim | omega | exact he)
      replace HG2 := HG2.keep k110 (by intro i _ hi he; (try dsimp only [NoK, AllB] at hi he); first | exact hi.elim | exact he.elim | omega | (rcases hi with hi | hi <;> omega) | (rcases he with he | he <;> omega))
      replace HB2 := HB2.keep k110 (by intro h; (try dsimp only at h); first | omega)
      replace HB3 := HB3.keep k110 (by intro h; (try dsimp only at h); first | omega)
      replace HB5 := HB5.keep k110 (by intro h; (try dsimp only at h); first | omega)
      replace HB6 := HB6.keep k110 (by intro h; (try dsimp only at h); first | omega)
      replace HB7 := HB7.keep k110 (by intro h; (try dsimp only at h); first | omega)
      replace HG0 := HG0.keep k110 (by intro i _ hi he; (try dsimp only [NoK, AllB] at hi he); first | exact hi.elim | exact he.elim | omega | (rcases hi with hi | hi <;> omega) | (rcases he with he | he <;> omega))
      replace HB1 := HB1.keep k110 (by intro h; (try dsimp only at h); first | omega)
      replace HT1 := HT1.keep k110 (by intro i _ hi he; (try dsimp only [NoK, AllB] at hi he); first | exact hi.elim | exact he.elim | omega | (rcases hi with hi | hi <;> omega) | (rcases he with he | he <;> omega))
      replace HG13 := HG13.keep k110 (by intro i _ hi he; (try dsimp only [NoK, AllB] at hi he); first | exact hi.elim | exact he.elim | omega | (rcases hi with hi | hi <;> omega) | (rcases he with he | he <;> omega))
      replace HB13 := HX110
      clear HX110
      try simp only [List.set_cons_zero, List.set_cons_succ, setAt, List.take_zero, List.take_succ_cons, List.drop_zero, List.drop_succ_cons, List.nil_append, List.cons_append, List.append_nil, List.length_cons, List.length_nil, Nat.zero_add, Nat.reduceAdd, List.drop_nil] at HB13
      refine l_v (v_assign (t := .int _ _) rfl) ?_
      refine l_v (v_assign (t := .int _ _) rfl) ?_
      refine l_nil ?_
      refine n_then ?_
      refine c_seq ?_
      refine wp_reg (by decide +kernel) ?_
      refine l_v (v_move (t := .pointer _) rfl) ?_
      refine l_to (to_f3 (by kernel_rfl) (show _ = (Value.pointer _) from rfl) (show _ = (Value.int _ _) from rfl) (show _ = (Value.int _ _) from rfl) (CallsR.mono (look_k ln2 HB1 HT1 S4_ok) ?_))
      rintro _ w74 ⟨⟨a74, c74, a75, c75, rfl, HG16⟩, e74⟩
      have zs_e74 := e74.size
      replace E := E.trans (Ext.keep e74)
      replace HG2 := HG2.ext e74
      replace HB2 := HB2.ext e74
      replace HB3 := HB3.ext e74
      replace HB5 := HB5.ext e74
      replace HB6 := HB6.ext e74
      replace HB7 := HB7.ext e74
      replace HG0 := HG0.ext e74
      replace HB1 := HB1.ext e74
      replace HT1 := HT1.ext e74
      replace HG13 := HG13.ext e74
      replace HB13 := HB13.ext e74
      refine l_v (v_move (t := .tuple _) rfl) ?_
      refine l_v (v_extract (t := .agg _) rfl rfl) ?_
      refine l_v (v_extract (t := .int _ _) rfl rfl) ?_
      refine l_v (v_extract (t := .int _ _) rfl rfl) ?_
      refine l_to (to_alloc (z := (.agg #[.int .i64 0, .slice none 0 0, .slice none 0 0])) (by unfold kZero; kernel_rfl) ?_)
      rintro b16 w16 zb16 HB16 e16 z16
      have zs_e16 := e16.size
      replace E := E.trans (Ext.keep e16)
      replace HG2 := HG2.ext e16
      replace HB2 := HB2.ext e16
      replace HB3 := HB3.ext e16
      replace HB5 := HB5.ext e16
      replace HB6 := HB6.ext e16
      replace HB7 := HB7.ext e16
      replace HG0 := HG0.ext e16
      replace HB1 := HB1.ext e16
      replace HT1 := HT1.ext e16
      replace HG13 := HG13.ext e16
      replace HB13 := HB13.ext e16
      try simp only [Value.cells] at HB16
      refine l_to (to_storeA (n := 3) rfl rfl (show _ = (Value.agg _) from rfl) (by kernel_rfl) rfl (by first | (simp [slice_one]; done) | (simp only [List.forall_mem_cons, List.cons_append, List.nil_append]; repeat' (first | exact rfl | apply And.intro | (intro u hu; cases hu; done)))) HB16 (by first | exact of_decide_eq_true rfl | (simp; done) | decide | (simp only [List.length_set, hlen]; exact of_decide_eq_true rfl)) ?_)
      rintro w111 HX111 k111 z111
      have zs_k111 := k111.size
      replace E := E.step k111 (by intro i hi he; (try dsimp only [NoK] at hi he ⊢); first | exact he.elim | omega | exact he)
      replace HG2 := HG2.keep k111 (by intro i _ hi he; (try dsimp only [NoK, AllB] at hi he); first | exact hi.elim | exact he.elim | omega | (rcases hi with hi | hi <;> omega) | (rcases he with he | he <;> omega))
      replace HB2 := HB2.keep k111 (by intro h; (try dsimp only at h); first | omega)
      replace HB3 := HB3.keep k111 (by intro h; (try dsimp only at h); first | omega)
      replace HB5 := HB5.keep k111 (by intro h; (try dsimp only at h); first | omega)
      replace HB6 := HB6.keep k111 (by intro h; (try dsimp only at h); first | omega)
      replace HB7 := HB7.keep k111 (by intro h; (try dsimp only at h); first | omega)
      replace HG0 := HG0.keep k111 (by intro i _ hi he; (try dsimp only [NoK, AllB] at hi he); first | exact hi.elim | exact he.elim | omega | (rcases hi with hi | hi <;> omega) | (rcases he with he | he <;> omega))
      replace HB1 := HB1.keep k111 (by intro h; (try dsimp only at h); first | omega)
      replace HT1 := HT1.keep k111 (by intro i _ hi he; (try dsimp only [NoK, AllB] at hi he); first | exact hi.elim | exact he.elim | omega | (rcases hi with hi | hi <;> omega) | (rcases he with he | he <;> omega))
      replace HG13 := HG13.keep k111 (by intro i _ hi he; (try dsimp only [NoK, AllB] at hi he); first | exact hi.elim | exact he.elim | omega | (rcases hi with hi | hi <;> omega) | (rcases he with he | he <;> omega))
      replace HB13 := HB13.keep k111 (by intro h; (try dsimp only at h); first | omega)
      replace HB16 := HX111
      clear HX111
      try simp only [List.set_cons_zero, List.set_cons_succ, setAt, List.take_zero, List.take_succ_cons, List.drop_zero, List.drop_succ_cons, List.nil_append, List.cons_append, List.append_nil, List.length_cons, List.length_nil, Nat.zero_add, Nat.reduceAdd, List.drop_nil] at HB16
      refine l_v (v_assign (t := .int _ _) rfl) ?_
      refine l_v (v_assign (t := .int _ _) rfl) ?_
      refine l_nil ?_
      refine n_then ?_
      refine c_seq ?_
      refine wp_reg (by decide +kernel) ?_
      refine l_v (v_move (t := .int _ _) rfl) ?_
      refine l_to (to_f1 (by kernel_rfl) (show _ = (Value.int _ _) from rfl) (CallsR.mono (num_c) ?_))
      rintro _ w112 ⟨rfl, e112⟩
      have zs_e112 := e112.size
      replace E := E.trans (Ext.keep e112)
      replace HG2 := HG2.ext e112
      replace HB2 := HB2.ext e112
      replace HB3 := HB3.ext e112
      replace HB5 := HB5.ext e112
      replace HB6 := HB6.ext e112
      replace HB7 := HB7.ext e112
      replace HG0 := HG0.ext e112
      replace HB1 := HB1.ext e112
      replace HT1 := HT1.ext e112
      replace HG13 := HG13.ext e112
      replace HB13 := HB13.ext e112
      replace HB16 := HB16.ext e112
      refine l_v (v_move (t := .int _ _) rfl) ?_
      refine l_to (to_f1 (by kernel_rfl) (show _ = (Value.int _ _) from rfl) (CallsR.mono (num_c) ?_))
      rintro _ w113 ⟨rfl, e113⟩
      have zs_e113 := e113.size
      replace E := E.trans (Ext.keep e113)
      replace HG2 := HG2.ext e113
      replace HB2 := HB2.ext e113
      replace HB3 := HB3.ext e113
      replace HB5 := HB5.ext e113
      replace HB6 := HB6.ext e113
      replace HB7 := HB7.ext e113
      replace HG0 := HG0.ext e113
      replace HB1 := HB1.ext e113
      replace HT1 := HT1.ext e113
      replace HG13 := HG13.ext e113
      replace HB13 := HB13.ext e113
      replace HB16 := HB16.ext e113
      refine l_v (v_add rfl rfl (by first | exact wr_i64 (by omega) (by omega) | rfl)) ?_
      refine l_v (OpVat.as (b := true) (v_eql rfl rfl) rfl) ?_
      refine l_v (v_move (t := .bool _) rfl) ?_
      refine l_gt rfl rfl (OpTo.of_v (v_move (t := .int _ _) rfl) ?_)
      refine l_gt rfl rfl (to_f1 (by kernel_rfl) (show _ = (Value.int _ _) from rfl) (CallsR.mono (num_c) ?_))
      rintro _ w114 ⟨rfl, e114⟩
      have zs_e114 := e114.size
      replace E := E.trans (Ext.keep e114)
      replace HG2 := HG2.ext e114
      replace HB2 := HB2.ext e114
      replace HB3 := HB3.ext e114
      replace HB5 := HB5.ext e114
      replace HB6 := HB6.ext e114
      replace HB7 := HB7.ext e114
      replace HG0 := HG0.ext e114
      replace HB1 := HB1.ext e114
      replace HT1 := HT1.ext e114
      replace HG13 := HG13.ext e114
      replace HB13 := HB13.ext e114
      replace HB16 := HB16.ext e114
      refine l_gt rfl rfl (OpTo.of_v (OpVat.as (b := true) (v_eql rfl rfl) rfl) ?_)
      refine l_v (v_andT rfl rfl) ?_
      refine l_v (v_move (t := .bool _) rfl) ?_
      refine l_gt rfl rfl (OpTo.of_v (v_move (t := .int _ _) rfl) ?_)
      refine l_gt rfl rfl (to_f1 (by kernel_rfl) (show _ = (Value.int _ _) from rfl) (CallsR.mono (num_c) ?_))
      rintro _ w115 ⟨rfl, e115⟩
      have zs_e115 := e115.size
      replace E := E.trans (Ext.keep e115)
      replace HG2 := HG2.ext e115
      replace HB2 := HB2.ext e115
      replace HB3 := HB3.ext e115
      replace HB5 := HB5.ext e115
      replace HB6 := HB6.ext e115
      replace HB7 := HB7.ext e115
      replace HG0 := HG0.ext e115
      replace HB1 := HB1.ext e115
      replace HT1 := HT1.ext e115
      replace HG13 := HG13.ext e115
      replace HB13 := HB13.ext e115
      replace HB16 := HB16.ext e115
      refine l_gt rfl rfl (OpTo.of_v (OpVat.as (b := true) (v_eql rfl rfl) rfl) ?_)
      refine l_v (v_andT rfl rfl) ?_
      refine l_v (v_move (t := .bool _) rfl) ?_
      refine l_gt rfl rfl (OpTo.of_v (v_move (t := .int _ _) rfl) ?_)
      refine l_gt rfl rfl (to_f1 (by kernel_rfl) (show _ = (Value.int _ _) from rfl) (CallsR.mono (num_c) ?_))
      rintro _ w116 ⟨rfl, e116⟩
      have zs_e116 := e116.size
      replace E := E.trans (Ext.keep e116)
      replace HG2 := HG2.ext e116
      replace HB2 := HB2.ext e116
      replace HB3 := HB3.ext e116
      replace HB5 := HB5.ext e116
      replace HB6 := HB6.ext e116
      replace HB7 := HB7.ext e116
      replace HG0 := HG0.ext e116
      replace HB1 := HB1.ext e116
      replace HT1 := HT1.ext e116
      replace HG13 := HG13.ext e116
      replace HB13 := HB13.ext e116
      replace HB16 := HB16.ext e116
      refine l_gt rfl rfl (OpTo.of_v (OpVat.as (b := true) (v_eql rfl rfl) rfl) ?_)
      refine l_v (v_andT rfl rfl) ?_
      refine l_v (v_move (t := .bool _) rfl) ?_
      refine l_gt rfl rfl (OpTo.of_v (v_move (t := .int _ _) rfl) ?_)
      refine l_gt rfl rfl (to_f1 (by kernel_rfl) (show _ = (Value.int _ _) from rfl) (CallsR.mono (num_c) ?_))
      rintro _ w117 ⟨rfl, e117⟩
      have zs_e117 := e117.size
      replace E := E.trans (Ext.keep e117)
      replace HG2 := HG2.ext e117
      replace HB2 := HB2.ext e117
      replace HB3 := HB3.ext e117
      replace HB5 := HB5.ext e117
      replace HB6 := HB6.ext e117
      replace HB7 := HB7.ext e117
      replace HG0 := HG0.ext e117
      replace HB1 := HB1.ext e117
      replace HT1 := HT1.ext e117
      replace HG13 := HG13.ext e117
      replace HB13 := HB13.ext e117
      replace HB16 := HB16.ext e117
      refine l_gt rfl rfl (OpTo.of_v (OpVat.as (b := true) (v_eql rfl rfl) rfl) ?_)
      refine l_v (v_andT rfl rfl) ?_
      refine l_v (v_move (t := .bool _) rfl) ?_
      refine l_gt rfl rfl (OpTo.of_v (v_loadA (by kernel_rfl) rfl (by first | exact HB16.pv | exact HB13.pv | exact HB1.pv | exact HB7.pv | exact HB6.pv | exact HB5.pv | exact HB3.pv | exact HB2.pv | assumption) rfl) ?_)
      refine l_gt rfl rfl (OpTo.of_v (v_loadA (by kernel_rfl) rfl (by first | exact HB16.pv | exact HB13.pv | exact HB1.pv | exact HB7.pv | exact HB6.pv | exact HB5.pv | exact HB3.pv | exact HB2.pv | assumption) rfl) ?_)
      refine l_gt rfl rfl (to_f2 (by kernel_rfl) (show _ = (Value.agg _) from rfl) (show _ = (Value.agg _) from rfl) (CallsR.mono (refSame_r HG13 HG0) ?_))
      rintro _ w118 ⟨rfl, e118⟩
      have zs_e118 := e118.size
      replace E := E.trans (Ext.keep e118)
      replace HG2 := HG2.ext e118
      replace HB2 := HB2.ext e118
      replace HB3 := HB3.ext e118
      replace HB5 := HB5.ext e118
      replace HB6 := HB6.ext e118
      replace HB7 := HB7.ext e118
      replace HG0 := HG0.ext e118
      replace HB1 := HB1.ext e118
      replace HT1 := HT1.ext e118
      replace HG13 := HG13.ext e118
      replace HB13 := HB13.ext e118
      replace HB16 := HB16.ext e118
      refine l_v (v_andT rfl rfl) ?_
      refine l_v (v_move (t := .bool _) rfl) ?_
      refine l_gt rfl rfl (OpTo.of_v (v_move (t := .int _ _) rfl) ?_)
      refine l_gt rfl rfl (OpTo.of_v (OpVat.as (b := true) (v_eql rfl rfl) rfl) ?_)
      refine l_v (v_andT rfl rfl) ?_
      refine l_v (v_move (t := .bool _) rfl) ?_
      refine l_gt rfl rfl (OpTo.of_v (v_move (t := .int _ _) rfl) ?_)
      refine l_gt rfl rfl (to_f1 (by kernel_rfl) (show _ = (Value.int _ _) from rfl) (CallsR.mono (num_c) ?_))
      rintro _ w119 ⟨rfl, e119⟩
      have zs_e119 := e119.size
      replace E := E.trans (Ext.keep e119)
      replace HG2 := HG2.ext e119
      replace HB2 := HB2.ext e119
      replace HB3 := HB3.ext e119
      replace HB5 := HB5.ext e119
      replace HB6 := HB6.ext e119
      replace HB7 := HB7.ext e119
      replace HG0 := HG0.ext e119
      replace HB1 := HB1.ext e119
      replace HT1 := HT1.ext e119
      replace HG13 := HG13.ext e119
      replace HB13 := HB13.ext e119
      replace HB16 := HB16.ext e119
      refine l_gt rfl rfl (OpTo.of_v (OpVat.as (b := true) (v_eql rfl rfl) rfl) ?_)
      refine l_v (v_andT rfl rfl) ?_
      refine l_v (v_move (t := .bool _) rfl) ?_
      refine l_gt rfl rfl (OpTo.of_v (v_move (t := .pointer _) rfl) ?_)
      refine l_gt rfl rfl (to_f2 (by kernel_rfl) (show _ = (Value.pointer _) from rfl) (show _ = (Value.pointer _) from rfl) (CallsR.mono (nJoin_c (n0 := b1 + 1) (i1 := true) (i2 := false) (isT_blk HB1 (by omega)) (isT_nil _ _) rfl) ?_))
      rintro _ w120 ⟨rfl, e120⟩
      have zs_e120 := e120.size
      replace E := E.trans (Ext.keep e120)
      replace HG2 := HG2.ext e120
      replace HB2 := HB2.ext e120
      replace HB3 := HB3.ext e120
      replace HB5 := HB5.ext e120
      replace HB6 := HB6.ext e120
      replace HB7 := HB7.ext e120
      replace HG0 := HG0.ext e120
      replace HB1 := HB1.ext e120
      replace HT1 := HT1.ext e120
      replace HG13 := HG13.ext e120
      replace HB13 := HB13.ext e120
      replace HB16 := HB16.ext e120
      refine l_gt rfl rfl (to_f1 (by kernel_rfl) (show _ = (Value.int _ _) from rfl) (CallsR.mono (num_c) ?_))
      rintro _ w121 ⟨rfl, e121⟩
      have zs_e121 := e121.size
      replace E := E.trans (Ext.keep e121)
      replace HG2 := HG2.ext e121
      replace HB2 := HB2.ext e121
      replace HB3 := HB3.ext e121
      replace HB5 := HB5.ext e121
      replace HB6 := HB6.ext e121
      replace HB7 := HB7.ext e121
      replace HG0 := HG0.ext e121
      replace HB1 := HB1.ext e121
      replace HT1 := HT1.ext e121
      replace HG13 := HG13.ext e121
      replace HB13 := HB13.ext e121
      replace HB16 := HB16.ext e121
      refine l_gt rfl rfl (OpTo.of_v (OpVat.as (b := true) (v_eql rfl rfl) rfl) ?_)
      refine l_v (v_andT rfl rfl) ?_
      refine l_v (v_move (t := .bool _) rfl) ?_
      refine l_gt rfl rfl (OpTo.of_v (v_move (t := .pointer _) rfl) ?_)
      refine l_gt rfl rfl (OpTo.of_v (v_build (pl := [(0, 1)]) (z := .agg #[.map none]) (zl := [.map none]) (by kernel_rfl) (by unfold kZero; kernel_rfl) rfl rfl (cells := [_]) rfl) ?_)
      refine l_gt rfl rfl (to_box (show _ = (Value.agg _) from rfl) ?_)
      rintro b127 w127 zb127 HB127 e127 z127
      have zs_e127 := e127.size
      replace E := E.trans (Ext.keep e127)
      replace HG2 := HG2.ext e127
      replace HB2 := HB2.ext e127
      replace HB3 := HB3.ext e127
      replace HB5 := HB5.ext e127
      replace HB6 := HB6.ext e127
      replace HB7 := HB7.ext e127
      replace HG0 := HG0.ext e127
      replace HB1 := HB1.ext e127
      replace HT1 := HT1.ext e127
      replace HG13 := HG13.ext e127
      replace HB13 := HB13.ext e127
      replace HB16 := HB16.ext e127
      try simp only [Value.cells] at HB127
      refine l_gt rfl rfl (to_f2 (by kernel_rfl) (show _ = (Value.pointer _) from rfl) (show _ = (Value.pointer _) from rfl) (CallsR.mono (nJoin_c (n0 := b127 + 1) (i1 := true) (i2 := false) (isT_blk HB1 (by omega)) (isT_blk HB127 (by omega)) rfl) ?_))
      rintro _ w122 ⟨rfl, e122⟩
      have zs_e122 := e122.size
      replace E := E.trans (Ext.keep e122)
      replace HG2 := HG2.ext e122
      replace HB2 := HB2.ext e122
      replace HB3 := HB3.ext e122
      replace HB5 := HB5.ext e122
      replace HB6 := HB6.ext e122
      replace HB7 := HB7.ext e122
      replace HG0 := HG0.ext e122
      replace HB1 := HB1.ext e122
      replace HT1 := HT1.ext e122
      replace HG13 := HG13.ext e122
      replace HB13 := HB13.ext e122
      replace HB16 := HB16.ext e122
      replace HB127 := HB127.ext e122
      refine l_gt rfl rfl (to_f1 (by kernel_rfl) (show _ = (Value.int _ _) from rfl) (CallsR.mono (num_c) ?_))
      rintro _ w123 ⟨rfl, e123⟩
      have zs_e123 := e123.size
      replace E := E.trans (Ext.keep e123)
      replace HG2 := HG2.ext e123
      replace HB2 := HB2.ext e123
      replace HB3 := HB3.ext e123
      replace HB5 := HB5.ext e123
      replace HB6 := HB6.ext e123
      replace HB7 := HB7.ext e123
      replace HG0 := HG0.ext e123
      replace HB1 := HB1.ext e123
      replace HT1 := HT1.ext e123
      replace HG13 := HG13.ext e123
      replace HB13 := HB13.ext e123
      replace HB16 := HB16.ext e123
      replace HB127 := HB127.ext e123
      refine l_gt rfl rfl (OpTo.of_v (OpVat.as (b := true) (v_eql rfl rfl) rfl) ?_)
      refine l_v (v_andT rfl rfl) ?_
      refine l_v (v_move (t := .bool _) rfl) ?_
      refine l_gt rfl rfl (to_f1 (by kernel_rfl) (show _ = (Value.pointer _) from rfl) (CallsR.mono (nothing_c (isT_nil _ _)) ?_))
      rintro _ w124 ⟨rfl, e124⟩
      have zs_e124 := e124.size
      replace E := E.trans (Ext.keep e124)
      replace HG2 := HG2.ext e124
      replace HB2 := HB2.ext e124
      replace HB3 := HB3.ext e124
      replace HB5 := HB5.ext e124
      replace HB6 := HB6.ext e124
      replace HB7 := HB7.ext e124
      replace HG0 := HG0.ext e124
      replace HB1 := HB1.ext e124
      replace HT1 := HT1.ext e124
      replace HG13 := HG13.ext e124
      replace HB13 := HB13.ext e124
      replace HB16 := HB16.ext e124
      replace HB127 := HB127.ext e124
      refine l_v (v_andT rfl rfl) ?_
      refine l_v (v_move (t := .bool _) rfl) ?_
      refine l_gt rfl rfl (OpTo.of_v (v_build (pl := [(0, 1)]) (z := .agg #[.map none]) (zl := [.map none]) (by kernel_rfl) (by unfold kZero; kernel_rfl) rfl rfl (cells := [_]) rfl) ?_)
      refine l_gt rfl rfl (to_box (show _ = (Value.agg _) from rfl) ?_)
      rintro b137 w137 zb137 HB137 e137 z137
      have zs_e137 := e137.size
      replace E := E.trans (Ext.keep e137)
      replace HG2 := HG2.ext e137
      replace HB2 := HB2.ext e137
      replace HB3 := HB3.ext e137
      replace HB5 := HB5.ext e137
      replace HB6 := HB6.ext e137
      replace HB7 := HB7.ext e137
      replace HG0 := HG0.ext e137
      replace HB1 := HB1.ext e137
      replace HT1 := HT1.ext e137
      replace HG13 := HG13.ext e137
      replace HB13 := HB13.ext e137
      replace HB16 := HB16.ext e137
      replace HB127 := HB127.ext e137
      try simp only [Value.cells] at HB137
      refine l_gt rfl rfl (to_f1 (by kernel_rfl) (show _ = (Value.pointer _) from rfl) (CallsR.mono (nothing_c (isT_blk HB137 HB137.lt)) ?_))
      rintro _ w125 ⟨rfl, e125⟩
      have zs_e125 := e125.size
      replace E := E.trans (Ext.keep e125)
      replace HG2 := HG2.ext e125
      replace HB2 := HB2.ext e125
      replace HB3 := HB3.ext e125
      replace HB5 := HB5.ext e125
      replace HB6 := HB6.ext e125
      replace HB7 := HB7.ext e125
      replace HG0 := HG0.ext e125
      replace HB1 := HB1.ext e125
      replace HT1 := HT1.ext e125
      replace HG13 := HG13.ext e125
      replace HB13 := HB13.ext e125
      replace HB16 := HB16.ext e125
      replace HB127 := HB127.ext e125
      replace HB137 := HB137.ext e125
      refine l_v (v_andT rfl rfl) ?_
      refine l_v (v_move (t := .bool _) rfl) ?_
      refine l_gt rfl rfl (OpTo.of_v (v_move (t := .pointer _) rfl) ?_)
      refine l_gt rfl rfl (to_f2 (by kernel_rfl) (show _ = (Value.pointer _) from rfl) (show _ = (Value.pointer _) from rfl) (CallsR.mono (nSame_c (n0 := b1 + 1) (i1 := true) (i2 := false) (isT_blk HB1 (by omega)) (isT_nil _ _) rfl) ?_))
      rintro _ w126 ⟨rfl, e126⟩
      have zs_e126 := e126.size
      replace E := E.trans (Ext.keep e126)
      replace HG2 := HG2.ext e126
      replace HB2 := HB2.ext e126
      replace HB3 := HB3.ext e126
      replace HB5 := HB5.ext e126
      replace HB6 := HB6.ext e126
      replace HB7 := HB7.ext e126
      replace HG0 := HG0.ext e126
      replace HB1 := HB1.ext e126
      replace HT1 := HT1.ext e126
      replace HG13 := HG13.ext e126
      replace HB13 := HB13.ext e126
      replace HB16 := HB16.ext e126
      replace HB127 := HB127.ext e126
      replace HB137 := HB137.ext e126
      refine l_gt rfl rfl (OpTo.of_v (v_not rfl) ?_)
      refine l_v (v_andT rfl rfl) ?_
      refine l_v (v_move (t := .bool _) rfl) ?_
      refine l_gt rfl rfl (to_f0 (by kernel_rfl) (CallsR.mono (known_c) ?_))
      rintro _ w127 ⟨rfl, e127⟩
      have zs_e127 := e127.size
      replace E := E.trans (Ext.keep e127)
      replace HG2 := HG2.ext e127
      replace HB2 := HB2.ext e127
      replace HB3 := HB3.ext e127
      replace HB5 := HB5.ext e127
      replace HB6 := HB6.ext e127
      replace HB7 := HB7.ext e127
      replace HG0 := HG0.ext e127
      replace HB1 := HB1.ext e127
      replace HT1 := HT1.ext e127
      replace HG13 := HG13.ext e127
      replace HB13 := HB13.ext e127
      replace HB16 := HB16.ext e127
      replace HB127 := HB127.ext e127
      replace HB137 := HB137.ext e127
      refine l_v (v_andT rfl rfl) ?_
      refine l_v (v_assign (t := .bool _) rfl) ?_
      refine l_nil ?_
      refine n_then ?_
      refine c_ret ?_
      refine ret1v rfl (by decide) (show _ = (Value.bool _) from rfl) ?_
      exact ⟨rfl, E⟩
end Go.Proofs.Ytlhanmlpionomaa
