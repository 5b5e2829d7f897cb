/- A part of the proof: steps and lemmas for the walks through the given program. -/
import Derived.Test.YtaidpdjlchnonaaN8
import Derived.Test.YtaidpdjlchnonaaGu
namespace Go.Proofs.Ytaidpdjlchnonaa
open Go.Vc
set_option linter.unusedVariables false
set_option linter.unusedSimpArgs false
set_option maxRecDepth 100000

theorem To_c {w : World} {F : Nat → Prop} {a : Option Addr} {c bw : Nat} {y : Value} {ms : List Ms} {node : Int} (HB1 : Blk w bw [.bool true, .slice a ms.length c, y] 68) (HS1 : SlV tMs w F (.slice a ms.length c) ms) (hmay : ∀ m ∈ ms, mayN m = true) (hlen : ms.length ≤ 1000000) : CallsR Try.prog 31 #[.pointer (some ⟨bw, 0, none⟩), .int .i64 node] w (fun o w' => (∃ a2 c2, o = .slice a2 (toL node ms 0).length c2 ∧ SlV (tInt .i64) w' (fun b => w.heap.size ≤ b) o (toL node ms 0)) ∧ Ext w w') := by
  have zl1 := HB1.lt
  have hmx := HS1.len_max
  refine enterM 21 Try.func31 rfl rfl (by simp) ?_
  refine c_seq ?_
  have E := Keep.refl (K := NoK) w
  replace HS1 := HS1.all
  refine wp_reg (by decide +kernel) ?_
  refine l_to (to_box (show _ = (Value.int _ _) from rfl) ?_)
  rintro b3 w3 zb3 HB3 e3 z3
  have zs_e3 := e3.size
  replace E := E.trans (Ext.keep e3)
  replace HB1 := HB1.ext e3
  replace HS1 := HS1.ext e3
  try simp only [Value.cells] at HB3
  refine l_v (v_assign rfl) ?_
  refine l_nil ?_
  refine n_then ?_
  refine c_seq ?_
  refine wp_reg (by decide +kernel) ?_
  refine l_to (to_alloc (z := (.slice none 0 0)) (by unfold kZero; kernel_rfl) ?_)
  rintro b5 w5 zb5 HB5 e5 z5
  have zs_e5 := e5.size
  replace E := E.trans (Ext.keep e5)
  replace HB1 := HB1.ext e5
  replace HS1 := HS1.ext e5
  replace HB3 := HB3.ext e5
  try simp only [Value.cells] at HB5
  refine l_nil ?_
  refine n_then ?_
  refine c_seq ?_
  refine c_seq ?_
  refine wp_reg (by decide +kernel) ?_
  refine l_v (v_move (t := .pointer _) rfl) ?_
  refine l_to (to_f1 (by kernel_rfl) (show _ = (Value.pointer _) from rfl) (CallsR.mono (All_c) ?_))
  rintro _ w4 ⟨b4, hb4, rfl, HB4, z4, e4⟩
  have zs_e4 := e4.size
  replace E := E.trans (Ext.keep e4)
  replace HB1 := HB1.ext e4
  replace HS1 := HS1.ext e4
  replace HB3 := HB3.ext e4
  replace HB5 := HB5.ext e4
  refine l_nil ?_
  refine n_then ?_
  refine c_block ?_
  simp only [Value.cells] at HB4
  refine c_rangeZ (N := 21) rfl (show _ = (Value.func _ _ _) from rfl) (by kernel_rfl) (by decide) E (fun x => [.int .i64 (x.1 : Int), .agg x.2.toArray]) (fun _ => rfl) (yAll w4.heap.size ms) (fun xs => xs.length = ms.length) (fun _ => True) (fun i => i = b5) (fun i h => by have h := h; (try dsimp only at h); omega) ((All1_seq (K := fun i => i = b5 ∨ b4 + 1 ≤ i) HB1 HS1 HB4 (fun i h => by omega) (by omega) (by omega) hmay).mono (fun i h => by omega)) (fun pre W => pre.length ≤ ms.length ∧ ∃ a2 c2, Blk W b5 [.slice a2 (toL node (ms.take pre.length) 0).length c2] 56 ∧ OwV (tInt .i64) 3 W (w4.heap.size + 2) NoK (.slice a2 (toL node (ms.take pre.length) 0).length c2) (toL node (ms.take pre.length) 0)) (fun c pre W => False) (fun s W W' t h => by obtain ⟨h0, a2, c2, h1, h2⟩ := h; exact ⟨h0, a2, c2, h1.turn t, h2.turn t (fun _ _ h => h.elim)⟩) (fun c s W W' t h => h) (⟨Nat.zero_le _, none, 0, HB5, OwV.nil _ _ _ _ _⟩) (fun pre x e1 W => ∃ b7 r, Holds [(3, .pointer (some ⟨b3, 0, none⟩)), (5, .pointer (some ⟨b5, 0, none⟩)), (6, .int .i64 (x.1 : Int)), (7, .pointer (some ⟨b7, 0, none⟩))] e1 ∧ Blk W b7 x.2 26 ∧ w4.heap.size + 2 ≤ b7 ∧ x.1 = pre.length ∧ ms[x.1]? = some r ∧ tMs.rep W (fun b => w4.heap.size + 2 ≤ b) x.2 r) (fun pre x e1 W W' t h => by obtain ⟨b7, r, h1, h2, h3, h4, h5, h6⟩ := h; exact ⟨b7, r, h1, h2.turn t.turn, h3, h4, h5, tMs.keep h6 t.keep (fun b _ hb hh => by omega)⟩) ?_ ?_ ?_ ?_
  · skip
    rintro l pre x w101 E EK hY ⟨hp1, a2, c2, HB5, HO5⟩
    have zs_EK101 := EK.size
    have zs_E101 := E.size
    replace HB1 := HB1.keep EK (by intro h; (try dsimp only at h); first | omega)
    replace HS1 := HS1.keep EK (by intro i _ hi he; (try dsimp only [NoK, AllB] at hi he); first | exact hi.elim | exact he.elim | omega | (rcases hi with hi | hi <;> omega) | (rcases he with he | he <;> omega))
    replace HB3 := HB3.keep EK (by intro h; (try dsimp only at h); first | omega)
    have zo_HO5 := fun (b : Nat) h => HO5.own_lt (b := b) h
    obtain ⟨hxn, hzz, r, hxr, hr⟩ := hY
    have hlt := (List.getElem?_eq_some_iff.1 hxr).1
    obtain ⟨a7, c7, a8, c8, hcs, _⟩ := tMs_cells hr
    have EL1 := Keep.refl (K := NoK) w101
    refine c_seq ?_
    refine wp_reg (by decide +kernel) ?_
    refine l_v (v_assign (t := .int _ _) rfl) ?_
    refine l_nil ?_
    refine n_then ?_
    refine wp_reg (by decide +kernel) ?_
    refine l_to (to_alloc (z := (.agg #[.int .i64 0, .int .i64 0, .int .i64 0, .int .i64 0, .int .i64 0, .int .i64 0, .int .i64 0, .int .i64 0, .slice none 0 0, .bool false, .slice none 0 0])) (by unfold kZero; kernel_rfl) ?_)
    rintro b7 w21 zb11 HB7 e21 z21
    have zs_e21 := e21.size
    replace HB1 := HB1.ext e21
    replace HS1 := HS1.ext e21
    replace HB3 := HB3.ext e21
    replace E := E.trans (Ext.keep e21)
    replace HB5 := HB5.ext e21
    replace HO5 := HO5.ext e21
    replace EL1 := EL1.trans (Ext.keep e21)
    try simp only [Value.cells] at HB7
    refine l_to (to_storeA (n := 11) rfl rfl (show _ = (Value.agg _) from rfl) (by kernel_rfl) (tMs.len hr) (tMs.one hr) HB7 (by first | exact of_decide_eq_true rfl | (simp; done) | decide) ?_)
    rintro w22 HB24 k22 z22
    have zs_k22 := k22.size
    rw [show x.2.toArray.toList = x.2 from rfl, setAt_all (by rw [hcs]; rfl)] at HB24
    replace HB1 := HB1.keep k22 (by intro h; (try dsimp only at h); first | omega)
    replace HS1 := HS1.keep k22 (by intro i _ hi he; (try dsimp only [NoK, AllB] at hi he); first | exact hi.elim | exact he.elim | omega | (rcases hi with hi | hi <;> omega) | (rcases he with he | he <;> omega))
    replace HB3 := HB3.keep k22 (by intro h; (try dsimp only at h); first | omega)
    replace E := E.step k22 (by intro i hi he; (try dsimp only [NoK] at hi he ⊢); first | exact he.elim | omega | exact he)
    replace HB5 := HB5.keep k22 (by intro h; (try dsimp only at h); first | omega)
    replace HO5 := HO5.keep k22 (by intro i ho he; have he0 := he; have ho0 := ho; (try dsimp only [NoK] at he); (try simp only [Value.ownBlock, Option.some.injEq, reduceCtorEq] at ho); (try simp only [Value.ownBlock, Option.some.injEq, reduceCtorEq] at he); first | exact he.elim | exact ho.elim | omega | (have := zo_HO5 _ ho0; omega)) (by intro i _ hi _ he; have he0 := he; have hi := hi; have he := he; (try dsimp only [NoK, AllB] at hi he); (try simp only [Value.ownBlock, Option.some.injEq, reduceCtorEq] at he); all_goals first | exact hi.elim | exact hi.1.elim | exact he.elim | omega | (rcases hi with hi | hi <;> omega) | (rcases he with he | he <;> omega))
    replace EL1 := EL1.step k22 (by intro i hi he; (try dsimp only [NoK] at hi he ⊢); first | exact he.elim | omega | exact he)
    refine l_nil ?_
    refine n_then ?_
    exact ⟨_, rfl, EL1, ⟨hp1, a2, c2, HB5, HO5⟩, b7, r, ⟨rfl, rfl, rfl, rfl, trivial⟩, HB24, by omega, hxn, hxr, tMs.keep hr EL1 (fun _ _ _ h => h)⟩
  · skip
    rintro l pre x e1 w102 E EK ⟨hp1, a2, c2, HB5, HO5⟩ ⟨b7, r, hh, HB7, hb7, hxn, hxr, hr⟩
    have zs_EK102 := EK.size
    have zs_E102 := E.size
    replace HB1 := HB1.keep EK (by intro h; (try dsimp only at h); first | omega)
    replace HS1 := HS1.keep EK (by intro i _ hi he; (try dsimp only [NoK, AllB] at hi he); first | exact hi.elim | exact he.elim | omega | (rcases hi with hi | hi <;> omega) | (rcases he with he | he <;> omega))
    replace HB3 := HB3.keep EK (by intro h; (try dsimp only at h); first | omega)
    have zo_HO5 := fun (b : Nat) h => HO5.own_lt (b := b) h
    have zl7 := HB7.lt
    obtain ⟨jj, rfl⟩ : ∃ j, e1 = updL _ j := ⟨_, hh.upd⟩
    have hlt := (List.getElem?_eq_some_iff.1 hxr).1
    obtain ⟨a7, c7, a8, c8, hcs, _⟩ := tMs_cells hr
    obtain ⟨xi, xcs⟩ := x
    simp only at hcs hxr hxn HB7 hr
    subst hcs hxn
    have htk : ms.take (pre.length + 1) = ms.take pre.length ++ [r] := by rw [List.take_add_one, hxr]; rfl
    have hsn := toL_snoc node r (ms.take pre.length) 0
    have hl0 := toL_len node (ms.take pre.length) 0
    rw [← htk, List.length_take, Nat.min_eq_left (by omega)] at hsn
    rw [List.length_take, Nat.min_eq_left (by omega)] at hl0
    have EL1 := Keep.refl (K := fun i => i = b5 ∨ w4.heap.size + 2 ≤ i) w102
    refine c_block ?_
    refine c_seq ?_
    refine wp_reg (by decide +kernel) ?_
    refine l_v (v_fieldAddr (off := 2) (ft := 3) (by kernel_rfl) rfl) ?_
    refine l_v (v_load (by kernel_rfl) rfl (by first | exact HB7.pv 2 _ rfl | exact HB7.pv 2 _ rfl | exact HB7.pv 2 _ rfl | exact HB5.pv 2 _ rfl | exact HB3.pv 2 _ rfl | exact HB1.pv 2 _ rfl | assumption)) ?_
    refine l_v (v_load (by kernel_rfl) rfl (by first | exact HB7.cell rfl | exact HB7.cell rfl | exact HB7.cell rfl | exact HB5.cell rfl | exact HB3.cell rfl | exact HB1.cell rfl | assumption)) ?_
    refine l_v (v_eql rfl rfl) ?_
    refine l_nil ?_
    refine n_then ?_
    refine c_cond rfl rfl (fun hq => ?_) (fun hq => ?_)
    · skip
      rw [if_pos (by simpa using hq)] at hsn
      refine wp_reg (by decide +kernel) ?_
      refine l_v (v_load (by kernel_rfl) rfl (by first | exact HB5.cell rfl | exact HB3.cell rfl | exact HB1.cell rfl | assumption)) ?_
      refine l_v (v_move (t := .int _ _) rfl) ?_
      refine l_to (to_slice1 (t := (tInt .i64)) (et := 3) (bytes := 8) (by kernel_rfl) (by decide) (show _ = (Value.int _ _) from rfl) ((show (tInt .i64).rep _ NoK [.int .i64 (pre.length : Int)] (pre.length : Int) from ⟨rfl, wf_of_i64 (by omega)⟩)) ?_)
      rintro b19 w19 zb19 HO19 e19 z19
      have zs_e19 := e19.size
      replace HB1 := HB1.ext e19
      replace HS1 := HS1.ext e19
      replace HB3 := HB3.ext e19
      replace E := E.trans (Ext.keep e19)
      replace HB5 := HB5.ext e19
      replace HO5 := HO5.ext e19
      replace EL1 := EL1.trans (Ext.keep e19)
      have zo_HO19 := fun (b : Nat) h => HO19.own_lt (b := b) h
      refine l_to (to_append (et := 3) (bytes := 8) (by kernel_rfl) (show _ = (Value.slice _ _ _) from rfl) HO5 (show _ = (Value.slice _ _ _) from rfl) HO19.view ((flat_int _).to) (by first | omega | (simp; done) | (simp; omega)) (by simp only [maxLen]; first | omega | (simp; done) | (simp; omega)) (by omega) ?_)
      rintro a20 n20 c20 w20 HO20 hn20 k20 h20 i20
      have zs_k20 := k20.size
      subst hn20
      replace HB1 := HB1.keep k20 (by intro h; have he0 := h; (try dsimp only at h); (try simp only [Value.ownBlock, Option.some.injEq] at h); first | omega | (have := (HO5).own_lt he0; omega) | (have := zo_HO5 _ he0; omega))
      replace HS1 := HS1.keep k20 (by intro i _ hi he; have he0 := he; (try dsimp only [NoK, AllB] at hi he); (try simp only [Value.ownBlock, Option.some.injEq] at he); first | exact hi.elim | exact he.elim | omega | (rcases hi with hi | hi <;> omega) | (rcases he with he | he <;> omega) | (have := (HO5).own_lt he0; omega) | (have := zo_HO5 _ he0; omega) | (have := (HO5).own_lt he0; rcases hi with hi | hi <;> omega))
      replace HB3 := HB3.keep k20 (by intro h; have he0 := h; (try dsimp only at h); (try simp only [Value.ownBlock, Option.some.injEq] at h); first | omega | (have := (HO5).own_lt he0; omega) | (have := zo_HO5 _ he0; omega))
      replace E := E.step k20 (by intro i hi he; have he0 := he; (try dsimp only [NoK] at hi he ⊢); (try simp only [Value.ownBlock, Option.some.injEq] at he); first | exact he.elim | omega | exact he | (have := (HO5).own_lt he0; omega) | (have := zo_HO5 _ he0; omega) | (have := (HO5).own_lt he0; rcases hi with hi | hi <;> omega))
      replace HB5 := HB5.keep k20 (by intro h; have he0 := h; (try dsimp only at h); (try simp only [Value.ownBlock, Option.some.injEq] at h); first | omega | (have := (HO5).own_lt he0; omega) | (have := zo_HO5 _ he0; omega))
      replace EL1 := EL1.step k20 (by intro i hi he; have he0 := he; (try dsimp only [NoK] at hi he ⊢); (try simp only [Value.ownBlock, Option.some.injEq] at he); first | exact he.elim | omega | exact he | (have := (HO5).own_lt he0; omega) | (have := zo_HO5 _ he0; omega) | (have := (HO5).own_lt he0; rcases hi with hi | hi <;> omega))
      replace HO19 := HO19.keep k20 (by intro i ho he; have he0 := he; have ho0 := ho; (try dsimp only [NoK] at he); (try simp only [Value.ownBlock, Option.some.injEq, reduceCtorEq] at ho); (try simp only [Value.ownBlock, Option.some.injEq, reduceCtorEq] at he); first | exact he.elim | exact ho.elim | omega | (have := zo_HO19 _ ho0; omega) | (have := (HO5).own_lt he0; omega) | (have := zo_HO5 _ he0; omega) | (have := zo_HO19 _ ho0; have := (HO5).own_lt he0; omega)) (by intro i _ hi _ he; have he0 := he; have hi := hi; have he := he; (try dsimp only [NoK, AllB] at hi he); (try simp only [Value.ownBlock, Option.some.injEq, reduceCtorEq] at he); all_goals first | exact hi.elim | exact hi.1.elim | exact he.elim | omega | (rcases hi with hi | hi <;> omega) | (rcases he with he | he <;> omega) | (have := (HO5).own_lt he0; omega) | (have := zo_HO5 _ he0; omega) | (have := (HO5).own_lt he0; rcases hi with hi | hi <;> omega))
      have zo_HO20 := fun (b : Nat) h => HO20.own_lt (b := b) h
      refine l_to (to_store rfl rfl (show _ = (Value.slice _ _ _) from rfl) rfl (by kernel_rfl) HB5 (by first | exact of_decide_eq_true rfl | (simp; done) | decide) ?_)
      rintro w103 HX103 k103 z103
      have zs_k103 := k103.size
      replace HB1 := HB1.keep k103 (by intro h; (try dsimp only at h); first | omega)
      replace HS1 := HS1.keep k103 (by intro i _ hi he; (try dsimp only [NoK, AllB] at hi he); first | exact hi.elim | exact he.elim | omega | (rcases hi with hi | hi <;> omega) | (rcases he with he | he <;> omega))
      replace HB3 := HB3.keep k103 (by intro h; (try dsimp only at h); first | omega)
      replace E := E.step k103 (by intro i hi he; (try dsimp only [NoK] at hi he ⊢); first | exact he.elim | omega | exact he)
      replace EL1 := EL1.step k103 (by intro i hi he; (try dsimp only [NoK] at hi he ⊢); first | exact he.elim | omega | exact he)
      replace HO19 := HO19.keep k103 (by intro i ho he; have he0 := he; have ho0 := ho; (try dsimp only [NoK] at he); (try simp only [Value.ownBlock, Option.some.injEq, reduceCtorEq] at ho); (try simp only [Value.ownBlock, Option.some.injEq, reduceCtorEq] at he); first | exact he.elim | exact ho.elim | omega | (have := zo_HO19 _ ho0; omega)) (by intro i _ hi _ he; have he0 := he; have hi := hi; have he := he; (try dsimp only [NoK, AllB] at hi he); (try simp only [Value.ownBlock, Option.some.injEq, reduceCtorEq] at he); all_goals first | exact hi.elim | exact hi.1.elim | exact he.elim | omega | (rcases hi with hi | hi <;> omega) | (rcases he with he | he <;> omega))
      replace HO20 := HO20.keep k103 (by intro i ho he; have he0 := he; have ho0 := ho; (try dsimp only [NoK] at he); (try simp only [Value.ownBlock, Option.some.injEq, reduceCtorEq] at ho); (try simp only [Value.ownBlock, Option.some.injEq, reduceCtorEq] at he); first | exact he.elim | exact ho.elim | omega | (have := zo_HO20 _ ho0; omega)) (by intro i _ hi _ he; have he0 := he; have hi := hi; have he := he; (try dsimp only [NoK, AllB] at hi he); (try simp only [Value.ownBlock, Option.some.injEq, reduceCtorEq] at he); all_goals first | exact hi.elim | exact hi.1.elim | exact he.elim | omega | (rcases hi with hi | hi <;> omega) | (rcases he with he | he <;> omega))
      replace HB5 := HX103
      clear HX103
      try simp only [List.set_cons_zero, List.set_cons_succ, setAt, List.take_zero, List.take_succ_cons, List.drop_zero, List.drop_succ_cons, List.nil_append, List.cons_append, List.append_nil, List.length_cons, List.length_nil, Nat.zero_add, Nat.reduceAdd, List.drop_nil] at HB5
      refine l_nil ?_
      refine n_blk ?_
      refine ⟨EL1, ?_⟩
      exact ⟨by simp; omega, a20, c20, by simpa [hsn] using HB5, by simpa [hsn] using HO20⟩
    · skip
      rw [if_neg (by simpa using hq), List.append_nil] at hsn
      refine c_skip ?_
      refine n_blk ?_
      refine ⟨EL1, ?_⟩
      exact ⟨by simp; omega, a2, c2, by simpa [hsn] using HB5, by simpa [hsn] using HO5⟩
  · skip
    rintro D xs w104 hD E EK hS ⟨hp1, a2, c2, HB5, HO5⟩ HD
    have zs_EK104 := EK.size
    have zs_E104 := E.size
    replace HB1 := HB1.keep EK (by intro h; (try dsimp only at h); first | omega)
    replace HS1 := HS1.keep EK (by intro i _ hi he; (try dsimp only [NoK, AllB] at hi he); first | exact hi.elim | exact he.elim | omega | (rcases hi with hi | hi <;> omega) | (rcases he with he | he <;> omega))
    replace HB3 := HB3.keep EK (by intro h; (try dsimp only at h); first | omega)
    have zo_HO5 := fun (b : Nat) h => HO5.own_lt (b := b) h
    refine n_blk ?_
    refine n_then ?_
    refine c_seq ?_
    refine wp_reg (by decide +kernel) ?_
    refine l_v (v_load (by kernel_rfl) rfl (by first | exact HB5.cell rfl | exact HB3.cell rfl | exact HB1.cell rfl | assumption)) ?_
    refine l_v (v_assign (t := .slice _ _ _) rfl) ?_
    refine l_nil ?_
    refine n_then ?_
    refine c_ret ?_
    refine retM1v HD rfl (by decide) (show _ = (Value.slice _ _ _) from rfl) ?_
    have E := keep_put E (by omega : w.heap.size ≤ D) (.deferred none)
    have h1 : ms.take xs.length = ms := List.take_of_length_le (by omega)
    rw [h1] at HO5 ⊢
    have HO6 := HO5.turn (turn_put HD hD (.deferred none)) (fun _ _ h => h.elim)
    exact ⟨⟨a2, c2, rfl, HO6.view.mono fun b _ hb => hb.elim (fun h => by omega) (fun h => h.elim)⟩, E⟩
  · skip
    rintro D _ pre W hD E EK hpre h HD; exact h.elim
end Go.Proofs.Ytaidpdjlchnonaa
