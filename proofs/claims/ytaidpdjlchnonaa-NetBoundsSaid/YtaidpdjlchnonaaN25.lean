/- A part of the proof: steps and lemmas for the walks through the given program. -/
import Derived.Test.YtaidpdjlchnonaaN24
import Derived.Test.YtaidpdjlchnonaaGn
namespace Go.Proofs.Ytaidpdjlchnonaa
open Go.Vc
set_option linter.unusedVariables false
set_option linter.unusedSimpArgs false
set_option maxRecDepth 100000

theorem netMany_c {w : World} {n : Nat} (hn : n ≤ 1000) : CallsR Try.prog 37 #[.int .i64 n] w (fun r w' => SlV tEn w' AllB r (List.replicate n en1) ∧ Ext w w') := by
  refine enter 15 Try.func37 rfl rfl (by simp) ?_
  refine c_seq ?_
  have E := Keep.refl (K := NoK) w
  refine wp_reg (by decide +kernel) ?_
  refine l_v (v_assign rfl) ?_
  refine l_nil ?_
  refine n_then ?_
  refine c_seq ?_
  refine wp_reg (by decide +kernel) ?_
  refine l_v (v_assign rfl) ?_
  refine l_nil ?_
  refine n_then ?_
  refine c_seq ?_
  refine c_seq ?_
  refine wp_reg (by decide +kernel) ?_
  refine l_v (v_assign rfl) ?_
  refine l_nil ?_
  refine n_then ?_
  refine c_block ?_
  refine c_loop (τ := Nat × Option Addr × Nat × Nat) [3, 4, 5, 6, 7, 8, 9, 10, 11, 12, 13] (fun (i, a, k, c) => [(3, .slice a k c), (4, .int .i64 i)]) (fun (i, a, k, c) W => Ext w W ∧ Keep (fun b => w.heap.size ≤ b) w W ∧ i ≤ n ∧ k = i ∧ OwV tEn 73 W w.heap.size AllB (.slice a k c) (List.replicate i en1)) (fun (i, a, k, c) => n - i) (0, none, 0, 0) (by exact ⟨rfl, rfl, trivial⟩) (by exact ⟨E, Keep.refl _, Nat.zero_le _, rfl, OwV.nil _ _ _ _ _⟩) ?_
  rintro ⟨i, a, k, c⟩ w101 j ⟨E, EL1, h1, h2, HOx⟩
  have zs_EL1 := EL1.size
  have zo_HOx := fun (b : Nat) h => HOx.own_lt (b := b) h
  refine c_seq ?_
  refine c_seq ?_
  refine wp_reg (by decide +kernel) ?_
  refine l_v (v_move (t := .int _ _) rfl) ?_
  refine l_v (v_move (t := .int _ _) rfl) ?_
  refine l_v (v_lss rfl rfl) ?_
  refine l_nil ?_
  refine n_then ?_
  refine c_cond rfl rfl (fun hlt => ?_) (fun hlt => ?_)
  · skip
    have hlt := dtrue hlt
    have zo_HOx := fun (b : Nat) h => HOx.own_lt (b := b) h
    refine c_skip ?_
    refine n_then ?_
    refine c_seq ?_
    refine c_block ?_
    refine wp_reg (by decide +kernel) ?_
    refine l_v (v_move (t := .slice _ _ _) rfl) ?_
    refine l_v (v_build (pl := [(0, 1), (1, 1)]) (z := .agg #[.int .i64 0, .slice none 0 0]) (zl := [.int .i64 0, .slice none 0 0]) (by kernel_rfl) (by unfold kZero; kernel_rfl) rfl rfl (cells := [_, _]) rfl) ?_
    refine l_to (to_slice1 (t := tEn) (et := 73) (bytes := 32) (by kernel_rfl) (by decide) (show _ = (Value.agg _) from rfl) ((show tEn.rep _ NoK [.int .i64 1, .slice none 0 0] en1 from ⟨[_], [_], rfl, ⟨rfl, by decide⟩, _, rfl, SlV.nil _ _ _⟩)) ?_)
    rintro b9 w9 zb9 HO9 e9 z9
    have zs_e9 := e9.size
    replace E := E.trans (Ext.keep e9)
    replace HOx := HOx.ext e9
    replace EL1 := EL1.trans (Ext.keep e9)
    have zo_HO9 := fun (b : Nat) h => HO9.own_lt (b := b) h
    have hk : (List.replicate i en1).length = i := by simp
    refine l_to (to_append (et := 73) (bytes := 32) (by kernel_rfl) (show _ = (Value.slice _ _ _) from rfl) HOx (show _ = (Value.slice _ _ _) from rfl) HO9.view (deepF fun b hb hb2 => ⟨trivial, fun ho => by have := zo_HOx _ ho; exact Or.elim hb2 (fun h => by omega) (fun h => h.1.elim)⟩) (by first | omega | (simp; done) | (simp; omega)) (by simp only [maxLen]; first | omega | (simp; done) | (simp; omega)) (by omega) ?_)
    rintro a20 n20 c20 w20 HO20 hn20 k20 h20 i20
    have zs_k20 := k20.size
    replace E := E.step k20 (by intro i hi he; have he0 := he; (try dsimp only [NoK] at hi he ⊢); (try simp only [Value.ownBlock, Option.some.injEq] at he); first | exact he.elim | omega | exact he | (have := (HOx).own_lt he0; omega) | (have := zo_HOx _ he0; omega) | (have := (HOx).own_lt he0; rcases hi with hi | hi <;> omega))
    replace EL1 := EL1.step k20 (by intro i hi he; have he0 := he; (try dsimp only [NoK] at hi he ⊢); (try simp only [Value.ownBlock, Option.some.injEq] at he); first | exact he.elim | omega | exact he | (have := (HOx).own_lt he0; omega) | (have := zo_HOx _ he0; omega) | (have := (HOx).own_lt he0; rcases hi with hi | hi <;> omega))
    replace HO9 := HO9.keep k20 (by intro i ho he; have he0 := he; have ho0 := ho; (try dsimp only [NoK] at he); (try simp only [Value.ownBlock, Option.some.injEq, reduceCtorEq] at ho); (try simp only [Value.ownBlock, Option.some.injEq, reduceCtorEq] at he); first | exact he.elim | exact ho.elim | omega | (have := zo_HO9 _ ho0; omega) | (have := (HOx).own_lt he0; omega) | (have := zo_HOx _ he0; omega) | (have := zo_HO9 _ ho0; have := (HOx).own_lt he0; omega)) (by intro i _ hi _ he; have he0 := he; have hi := hi; have he := he; (try dsimp only [NoK, AllB] at hi he); (try simp only [Value.ownBlock, Option.some.injEq, reduceCtorEq] at he); all_goals first | exact hi.elim | exact hi.1.elim | exact he.elim | omega | (rcases hi with hi | hi <;> omega) | (rcases he with he | he <;> omega) | (have := (HOx).own_lt he0; omega) | (have := zo_HOx _ he0; omega) | (have := (HOx).own_lt he0; rcases hi with hi | hi <;> omega))
    have zo_HO20 := fun (b : Nat) h => HO20.own_lt (b := b) h
    refine l_v (v_assign (t := .slice _ _ _) rfl) ?_
    refine l_nil ?_
    refine n_blk ?_
    refine n_then ?_
    refine wp_reg (by decide +kernel) ?_
    refine l_v (v_move (t := .int _ _) rfl) ?_
    refine l_v (v_add rfl rfl (by first | exact wr_i64 (by omega) (by omega) | rfl)) ?_
    refine l_v (v_assign (t := .int _ _) rfl) ?_
    refine l_nil ?_
    refine n_then ?_
    refine ⟨(i + 1, a20, n20, c20), _, rfl, by (repeat (first | exact Off.of_over _ _ _ | refine Off.upd ?_ (by decide) _ | refine Off.overs ?_ (by decide) _)), ⟨by first | rfl | exact congrArg (Value.int _) (by omega) | (simp; done), by first | rfl | exact congrArg (Value.int _) (by omega) | (simp; done), trivial⟩, ⟨E, EL1, ?_⟩, ?_⟩
    · skip
      exact ⟨by omega, by rw [hn20]; simp, by rw [List.replicate_succ']; exact HO20⟩
    · (dsimp only; omega)
  · skip
    refine c_exit ?_
    refine x_then ?_
    refine x_then ?_
    refine x_hit ?_
    refine n_then ?_
    refine c_seq ?_
    refine wp_reg (by decide +kernel) ?_
    refine l_v (v_move (t := .slice _ _ _) rfl) ?_
    refine l_v (v_assign (t := .slice _ _ _) rfl) ?_
    refine l_nil ?_
    refine n_then ?_
    refine c_ret ?_
    refine ret1v rfl (by decide) (show _ = (Value.slice _ _ _) from rfl) ?_
    have h := dfalse hlt
    obtain rfl : i = n := by omega
    exact ⟨HOx.view.allB, E⟩
theorem may_true {w : World} {F : Nat → Prop} {v : Value} {m : Ms} (h : mayN m = true) (HG1 : AgV tMs w F v m) : CallsR Try.prog 27 #[v] w (fun o w' => o = .bool true ∧ Ext w w') :=
  CallsR.mono (May_c HG1) fun o w' ⟨h1, h2⟩ => ⟨by rw [h1, h], h2⟩
set_option maxHeartbeats 8000000 in
theorem NetBounds_c {w : World} : CallsR Try.prog 8 #[] w (fun o w' => o = .bool true ∧ Ext w w') := by
  refine enter 96 Try.func8 rfl rfl (by simp) ?_
  refine c_seq ?_
  have E := Keep.refl (K := NoK) w
  refine wp_reg (by decide +kernel) ?_
  refine l_v (v_assign rfl) ?_
  refine l_nil ?_
  refine n_then ?_
  refine c_seq ?_
  refine wp_reg (by decide +kernel) ?_
  refine l_to (to_f2 (by kernel_rfl) (show _ = (Value.int _ _) from rfl) (show _ = (Value.int _ _) from rfl) (CallsR.mono (vote_c) ?_))
  rintro _ w101 ⟨rfl, e101⟩
  have zs_e101 := e101.size
  replace E := E.trans (Ext.keep e101)
  refine l_to (to_alloc (z := (.agg #[.int .i64 0, .int .i64 0, .int .i64 0, .int .i64 0, .int .i64 0, .int .i64 0, .int .i64 0, .int .i64 0, .slice none 0 0, .bool false, .slice none 0 0])) (by unfold kZero; kernel_rfl) ?_)
  rintro b1 w1 zb1 HB1 e1 z1
  have zs_e1 := e1.size
  replace E := E.trans (Ext.keep e1)
  try simp only [Value.cells] at HB1
  refine l_to (to_storeA (n := 11) rfl rfl (show _ = (Value.agg _) from rfl) (by kernel_rfl) rfl (by first | (simp [slice_one]; done) | (simp only [List.forall_mem_cons, List.cons_append, List.nil_append]; repeat' (first | exact rfl | apply And.intro | (intro u hu; cases hu; done)))) HB1 (by first | exact of_decide_eq_true rfl | (simp; done) | decide) ?_)
  rintro w102 HX102 k102 z102
  have zs_k102 := k102.size
  replace E := E.step k102 (by intro i hi he; (try dsimp only [NoK] at hi he ⊢); first | exact he.elim | omega | exact he)
  replace HB1 := HX102
  clear HX102
  try simp only [List.set_cons_zero, List.set_cons_succ, setAt, List.take_zero, List.take_succ_cons, List.drop_zero, List.drop_succ_cons, List.nil_append, List.cons_append, List.append_nil, List.length_cons, List.length_nil, Nat.zero_add, Nat.reduceAdd, List.drop_nil] at HB1
  refine l_nil ?_
  refine n_then ?_
  refine c_seq ?_
  refine wp_reg (by decide +kernel) ?_
  refine l_v (v_fieldAddr (off := 3) (ft := 3) (by kernel_rfl) rfl) ?_
  refine l_to (to_store rfl rfl (show _ = (Value.int _ _) from rfl) rfl (by kernel_rfl) HB1 (by first | exact of_decide_eq_true rfl | (simp; done) | decide) ?_)
  rintro w103 HX103 k103 z103
  have zs_k103 := k103.size
  replace E := E.step k103 (by intro i hi he; (try dsimp only [NoK] at hi he ⊢); first | exact he.elim | omega | exact he)
  replace HB1 := HX103
  clear HX103
  try simp only [List.set_cons_zero, List.set_cons_succ, setAt, List.take_zero, List.take_succ_cons, List.drop_zero, List.drop_succ_cons, List.nil_append, List.cons_append, List.append_nil, List.length_cons, List.length_nil, Nat.zero_add, Nat.reduceAdd, List.drop_nil] at HB1
  refine l_v (v_fieldAddr (off := 4) (ft := 2) (by kernel_rfl) rfl) ?_
  refine l_to (to_store rfl rfl (show _ = (Value.int _ _) from rfl) rfl (by kernel_rfl) HB1 (by first | exact of_decide_eq_true rfl | (simp; done) | decide) ?_)
  rintro w104 HX104 k104 z104
  have zs_k104 := k104.size
  replace E := E.step k104 (by intro i hi he; (try dsimp only [NoK] at hi he ⊢); first | exact he.elim | omega | exact he)
  replace HB1 := HX104
  clear HX104
  try simp only [List.set_cons_zero, List.set_cons_succ, setAt, List.take_zero, List.take_succ_cons, List.drop_zero, List.drop_succ_cons, List.nil_append, List.cons_append, List.append_nil, List.length_cons, List.length_nil, Nat.zero_add, Nat.reduceAdd, List.drop_nil] at HB1
  refine l_v (v_fieldAddr (off := 5) (ft := 2) (by kernel_rfl) rfl) ?_
  refine l_to (to_store rfl rfl (show _ = (Value.int _ _) from rfl) rfl (by kernel_rfl) HB1 (by first | exact of_decide_eq_true rfl | (simp; done) | decide) ?_)
  rintro w105 HX105 k105 z105
  have zs_k105 := k105.size
  replace E := E.step k105 (by intro i hi he; (try dsimp only [NoK] at hi he ⊢); first | exact he.elim | omega | exact he)
  replace HB1 := HX105
  clear HX105
  try simp only [List.set_cons_zero, List.set_cons_succ, setAt, List.take_zero, List.take_succ_cons, List.drop_zero, List.drop_succ_cons, List.nil_append, List.cons_append, List.append_nil, List.length_cons, List.length_nil, Nat.zero_add, Nat.reduceAdd, List.drop_nil] at HB1
  refine l_v (v_fieldAddr (off := 6) (ft := 2) (by kernel_rfl) rfl) ?_
  refine l_to (to_store rfl rfl (show _ = (Value.int _ _) from rfl) rfl (by kernel_rfl) HB1 (by first | exact of_decide_eq_true rfl | (simp; done) | decide) ?_)
  rintro w106 HX106 k106 z106
  have zs_k106 := k106.size
  replace E := E.step k106 (by intro i hi he; (try dsimp only [NoK] at hi he ⊢); first | exact he.elim | omega | exact he)
  replace HB1 := HX106
  clear HX106
  try simp only [List.set_cons_zero, List.set_cons_succ, setAt, List.take_zero, List.take_succ_cons, List.drop_zero, List.drop_succ_cons, List.nil_append, List.cons_append, List.append_nil, List.length_cons, List.length_nil, Nat.zero_add, Nat.reduceAdd, List.drop_nil] at HB1
  refine l_nil ?_
  refine n_then ?_
  refine c_seq ?_
  refine wp_any (by kernel_rfl) ?_
  have e107 : Ext w106 { w106 with drawn := w106.drawn + 1 } := Keep.drawn _ _
  generalize hw107 : ({ w106 with drawn := w106.drawn + 1 } : World) = w107 at e107 ⊢
  clear hw107
  have zs_e107 := e107.size
  replace E := E.trans (Ext.keep e107)
  replace HB1 := HB1.ext e107
  refine r_cut 17 rfl (by decide +kernel) (by decide +kernel) (by decide +kernel) ?_
  refine wp_regJW (fun k => w107.heap.size ≤ k) (AlJ w107.heap.size [⟨6, some 12, 26, ([.int .i64 0, .int .i64 0, .int .i64 0, .int .i64 0, .int .i64 0, .int .i64 0, .int .i64 0, .int .i64 0, .slice none 0 0, .bool false, .slice none 0 0] : List Value), ([.int .i64 1, .int .i64 0, .int .i64 4, .int .i64 4, .int .i64 2147483647, .int .i64 2147483647, .int .i64 2147483647, .int .i64 0, .slice none 0 0, .bool false, .slice none 0 0] : List Value)⟩, ⟨7, some 13, 26, ([.int .i64 0, .int .i64 0, .int .i64 0, .int .i64 0, .int .i64 0, .int .i64 0, .int .i64 0, .int .i64 0, .slice none 0 0, .bool false, .slice none 0 0] : List Value), ([.int .i64 1, .int .i64 0, .int .i64 4, .int .i64 4, .int .i64 2147483647, .int .i64 2147483647, .int .i64 2147483647, .int .i64 0, .slice none 0 0, .bool false, .slice none 0 0] : List Value)⟩, ⟨8, some 14, 26, ([.int .i64 0, .int .i64 0, .int .i64 0, .int .i64 0, .int .i64 0, .int .i64 0, .int .i64 0, .int .i64 0, .slice none 0 0, .bool false, .slice none 0 0] : List Value), ([.int .i64 1, .int .i64 0, .int .i64 4, .int .i64 4, .int .i64 2147483647, .int .i64 2147483647, .int .i64 2147483647, .int .i64 0, .slice none 0 0, .bool false, .slice none 0 0] : List Value)⟩, ⟨9, some 15, 26, ([.int .i64 0, .int .i64 0, .int .i64 0, .int .i64 0, .int .i64 0, .int .i64 0, .int .i64 0, .int .i64 0, .slice none 0 0, .bool false, .slice none 0 0] : List Value), ([.int .i64 1, .int .i64 0, .int .i64 4, .int .i64 4, .int .i64 2147483647, .int .i64 2147483647, .int .i64 2147483647, .int .i64 0, .slice none 0 0, .bool false, .slice none 0 0] : List Value)⟩, ⟨10, some 16, 26, ([.int .i64 0, .int .i64 0, .int .i64 0, .int .i64 0, .int .i64 0, .int .i64 0, .int .i64 0, .int .i64 0, .slice none 0 0, .bool false, .slice none 0 0] : List Value), ([.int .i64 1, .int .i64 0, .int .i64 4, .int .i64 4, .int .i64 2147483647, .int .i64 2147483647, .int .i64 2147483647, .int .i64 0, .slice none 0 0, .bool false, .slice none 0 0] : List Value)⟩, ⟨11, none, 26, ([.int .i64 0, .int .i64 0, .int .i64 0, .int .i64 0, .int .i64 0, .int .i64 0, .int .i64 0, .int .i64 0, .slice none 0 0, .bool false, .slice none 0 0] : List Value), ([.int .i64 0, .int .i64 0, .int .i64 0, .int .i64 0, .int .i64 0, .int .i64 0, .int .i64 0, .int .i64 0, .slice none 0 0, .bool false, .slice none 0 0] : List Value)⟩]) (by decide +kernel) (by decide +kernel) (fun vals done hd => AlJ.start (Nat.le_refl _) (fun a ha => hd a.al (al_lt (n := 17) rfl a ha))) ?_
  refine rj_vJ (fun done vals w hR hcl hdk hJ hdn hd => v_loadA (by kernel_rfl) rfl (by first | exact (HB1.keep hR (by intro h; (try dsimp only at h); first | omega)).pv | assumption) rfl) (fun done vals w hdk hJ => hJ.src (Keep.refl _) rfl) ?_
  refine rj_vJ (fun done vals w hR hcl hdk hJ hdn hd => v_loadA (by kernel_rfl) rfl (by first | exact (HB1.keep hR (by intro h; (try dsimp only at h); first | omega)).pv | assumption) rfl) (fun done vals w hdk hJ => hJ.src (Keep.refl _) rfl) ?_
  refine rj_vJ (fun done vals w hR hcl hdk hJ hdn hd => v_loadA (by kernel_rfl) rfl (by first | exact (HB1.keep hR (by intro h; (try dsimp only at h); first | omega)).pv | assumption) rfl) (fun done vals w hdk hJ => hJ.src (Keep.refl _) rfl) ?_
  refine rj_vJ (fun done vals w hR hcl hdk hJ hdn hd => v_loadA (by kernel_rfl) rfl (by first | exact (HB1.keep hR (by intro h; (try dsimp only at h); first | omega)).pv | assumption) rfl) (fun done vals w hdk hJ => hJ.src (Keep.refl _) rfl) ?_
  refine rj_vJ (fun done vals w hR hcl hdk hJ hdn hd => v_loadA (by kernel_rfl) rfl (by first | exact (HB1.keep hR (by intro h; (try dsimp only at h); first | omega)).pv | assumption) rfl) (fun done vals w hdk hJ => hJ.src (Keep.refl _) rfl) ?_
  refine rj_vJ (fun done vals w hR hcl hdk hJ hdn hd => v_loadA (by kernel_rfl) rfl (by first | exact (HB1.keep hR (by intro h; (try dsimp only at h); first | omega)).pv | assumption) rfl) (fun done vals w hdk hJ => hJ.src (Keep.refl _) rfl) ?_
  refine rj_d (fun done vals w hR hcl hdk hJ hdn hd => to_alloc (z := .agg #[.int .i64 0, .int .i64 0, .int .i64 0, .int .i64 0, .int .i64 0, .int .i64 0, .int .i64 0, .int .i64 0, .slice none 0 0, .bool false, .slice none 0 0]) (by unfold kZero; kernel_rfl) fun b w1 hb hB e hz => ⟨Ext.keep e, hJ.al (i := 0) rfl rfl hdk hcl (fun m a hm he => alOne_al (i := 0) (m := m) rfl rfl hm he) (fun a ha => alSt_ne rfl ha (List.mem_of_getElem? (i := 0) rfl)) (fun s hs => by cases hs; exact ⟨_, rfl, rfl⟩) hb hB e⟩) ?_
  refine rj_d (fun done vals w hR hcl hdk hJ hdn hd => to_alloc (z := .agg #[.int .i64 0, .int .i64 0, .int .i64 0, .int .i64 0, .int .i64 0, .int .i64 0, .int .i64 0, .int .i64 0, .slice none 0 0, .bool false, .slice none 0 0]) (by unfold kZero; kernel_rfl) fun b w1 hb hB e hz => ⟨Ext.keep e, hJ.al (i := 1) rfl rfl hdk hcl (fun m a hm he => alOne_al (i := 1) (m := m) rfl rfl hm he) (fun a ha => alSt_ne rfl ha (List.mem_of_getElem? (i := 1) rfl)) (fun s hs => by cases hs; exact ⟨_, rfl, rfl⟩) hb hB e⟩) ?_
  refine rj_d (fun done vals w hR hcl hdk hJ hdn hd => to_alloc (z := .agg #[.int .i64 0, .int .i64 0, .int .i64 0, .int .i64 0, .int .i64 0, .int .i64 0, .int .i64 0, .int .i64 0, .slice none 0 0, .bool false, .slice none 0 0]) (by unfold kZero; kernel_rfl) fun b w1 hb hB e hz => ⟨Ext.keep e, hJ.al (i := 2) rfl rfl hdk hcl (fun m a hm he => alOne_al (i := 2) (m := m) rfl rfl hm he) (fun a ha => alSt_ne rfl ha (List.mem_of_getElem? (i := 2) rfl)) (fun s hs => by cases hs; exact ⟨_, rfl, rfl⟩) hb hB e⟩) ?_
  refine rj_d (fun done vals w hR hcl hdk hJ hdn hd => to_alloc (z := .agg #[.int .i64 0, .int .i64 0, .int .i64 0, .int .i64 0, .int .i64 0, .int .i64 0, .int .i64 0, .int .i64 0, .slice none 0 0, .bool false, .slice none 0 0]) (by unfold kZero; kernel_rfl) fun b w1 hb hB e hz => ⟨Ext.keep e, hJ.al (i := 3) rfl rfl hdk hcl (fun m a hm he => alOne_al (i := 3) (m := m) rfl rfl hm he) (fun a ha => alSt_ne rfl ha (List.mem_of_getElem? (i := 3) rfl)) (fun s hs => by cases hs; exact ⟨_, rfl, rfl⟩) hb hB e⟩) ?_
  refine rj_d (fun done vals w hR hcl hdk hJ hdn hd => to_alloc (z := .agg #[.int .i64 0, .int .i64 0, .int .i64 0, .int .i64 0, .int .i64 0, .int .i64 0, .int .i64 0, .int .i64 0, .slice none 0 0, .bool false, .slice none 0 0]) (by unfold kZero; kernel_rfl) fun b w1 hb hB e hz => ⟨Ext.keep e, hJ.al (i := 4) rfl rfl hdk hcl (fun m a hm he => alOne_al (i := 4) (m := m) rfl rfl hm he) (fun a ha => alSt_ne rfl ha (List.mem_of_getElem? (i := 4) rfl)) (fun s hs => by cases hs; exact ⟨_, rfl, rfl⟩) hb hB e⟩) ?_
  refine rj_d (fun done vals w hR hcl hdk hJ hdn hd => to_alloc (z := .agg #[.int .i64 0, .int .i64 0, .int .i64 0, .int .i64 0, .int .i64 0, .int .i64 0, .int .i64 0, .int .i64 0, .slice none 0 0, .bool false, .slice none 0 0]) (by unfold kZero; kernel_rfl) fun b w1 hb hB e hz => ⟨Ext.keep e, hJ.al (i := 5) rfl rfl hdk hcl (fun m a hm he => alOne_al (i := 5) (m := m) rfl rfl hm he) (fun a ha => alSt_ne rfl ha (List.mem_of_getElem? (i := 5) rfl)) (fun s hs => by cases hs) hb hB e⟩) ?_
  refine rj_d (fun done vals w hR hcl hdk hJ hdn hd => by
      obtain ⟨b, hb, hn, hB⟩ := hJ.at (i := 0) rfl rfl hdk (hdn 6 rfl)
      exact to_storeA (n := 11) (hb : _ = Value.pointer (some ⟨b, 0, none⟩)) rfl (hd 0 rfl) (by kernel_rfl) rfl (by first | (simp [slice_one]; done) | (simp only [List.forall_mem_cons, List.cons_append, List.nil_append]; repeat' (first | exact rfl | apply And.intro | (intro u hu; cases hu; done)))) hB (of_decide_eq_true rfl) (fun w1 hB1 kk z => ⟨kk.mono (fun i _ h => by rw [h]; exact hn), hJ.st (i := 0) rfl rfl hdk (hdn 6 rfl) (fun m a hm he => alOne_st (i := 0) (m := m) rfl rfl hm rfl he) (fun a ha h => alSt_ne (a := _) rfl (List.mem_of_getElem? (i := 0) rfl) ha (by rw [h])) rfl (fun m a hm he => alOne_al (i := 0) (m := m) rfl rfl hm he) hb hB1 kk⟩)) ?_
  refine rj_d (fun done vals w hR hcl hdk hJ hdn hd => by
      obtain ⟨b, hb, hn, hB⟩ := hJ.at (i := 1) rfl rfl hdk (hdn 7 rfl)
      exact to_storeA (n := 11) (hb : _ = Value.pointer (some ⟨b, 0, none⟩)) rfl (hd 1 rfl) (by kernel_rfl) rfl (by first | (simp [slice_one]; done) | (simp only [List.forall_mem_cons, List.cons_append, List.nil_append]; repeat' (first | exact rfl | apply And.intro | (intro u hu; cases hu; done)))) hB (of_decide_eq_true rfl) (fun w1 hB1 kk z => ⟨kk.mono (fun i _ h => by rw [h]; exact hn), hJ.st (i := 1) rfl rfl hdk (hdn 7 rfl) (fun m a hm he => alOne_st (i := 1) (m := m) rfl rfl hm rfl he) (fun a ha h => alSt_ne (a := _) rfl (List.mem_of_getElem? (i := 1) rfl) ha (by rw [h])) rfl (fun m a hm he => alOne_al (i := 1) (m := m) rfl rfl hm he) hb hB1 kk⟩)) ?_
  refine rj_d (fun done vals w hR hcl hdk hJ hdn hd => by
      obtain ⟨b, hb, hn, hB⟩ := hJ.at (i := 2) rfl rfl hdk (hdn 8 rfl)
      exact to_storeA (n := 11) (hb : _ = Value.pointer (some ⟨b, 0, none⟩)) rfl (hd 2 rfl) (by kernel_rfl) rfl (by first | (simp [slice_one]; done) | (simp only [List.forall_mem_cons, List.cons_append, List.nil_append]; repeat' (first | exact rfl | apply And.intro | (intro u hu; cases hu; done)))) hB (of_decide_eq_true rfl) (fun w1 hB1 kk z => ⟨kk.mono (fun i _ h => by rw [h]; exact hn), hJ.st (i := 2) rfl rfl hdk (hdn 8 rfl) (fun m a hm he => alOne_st (i := 2) (m := m) rfl rfl hm rfl he) (fun a ha h => alSt_ne (a := _) rfl (List.mem_of_getElem? (i := 2) rfl) ha (by rw [h])) rfl (fun m a hm he => alOne_al (i := 2) (m := m) rfl rfl hm he) hb hB1 kk⟩)) ?_
  refine rj_d (fun done vals w hR hcl hdk hJ hdn hd => by
      obtain ⟨b, hb, hn, hB⟩ := hJ.at (i := 3) rfl rfl hdk (hdn 9 rfl)
      exact to_storeA (n := 11) (hb : _ = Value.pointer (some ⟨b, 0, none⟩)) rfl (hd 3 rfl) (by kernel_rfl) rfl (by first | (simp [slice_one]; done) | (simp only [List.forall_mem_cons, List.cons_append, List.nil_append]; repeat' (first | exact rfl | apply And.intro | (intro u hu; cases hu; done)))) hB (of_decide_eq_true rfl) (fun w1 hB1 kk z => ⟨kk.mono (fun i _ h => by rw [h]; exact hn), hJ.st (i := 3) rfl rfl hdk (hdn 9 rfl) (fun m a hm he => alOne_st (i := 3) (m := m) rfl rfl hm rfl he) (fun a ha h => alSt_ne (a := _) rfl (List.mem_of_getElem? (i := 3) rfl) ha (by rw [h])) rfl (fun m a hm he => alOne_al (i := 3) (m := m) rfl rfl hm he) hb hB1 kk⟩)) ?_
  refine rj_d (fun done vals w hR hcl hdk hJ hdn hd => by
      obtain ⟨b, hb, hn, hB⟩ := hJ.at (i := 4) rfl rfl hdk (hdn 10 rfl)
      exact to_storeA (n := 11) (hb : _ = Value.pointer (some ⟨b, 0, none⟩)) rfl (hd 4 rfl) (by kernel_rfl) rfl (by first | (simp [slice_one]; done) | (simp only [List.forall_mem_cons, List.cons_append, List.nil_append]; repeat' (first | exact rfl | apply And.intro | (intro u hu; cases hu; done)))) hB (of_decide_eq_true rfl) (fun w1 hB1 kk z => ⟨kk.mono (fun i _ h => by rw [h]; exact hn), hJ.st (i := 4) rfl rfl hdk (hdn 10 rfl) (fun m a hm he => alOne_st (i := 4) (m := m) rfl rfl hm rfl he) (fun a ha h => alSt_ne (a := _) rfl (List.mem_of_getElem? (i := 4) rfl) ha (by rw [h])) rfl (fun m a hm he => alOne_al (i := 4) (m := m) rfl rfl hm he) hb hB1 kk⟩)) ?_
  refine rj_nil (fun vals w108 k108 J108 => ?_)
  rintro _ - rfl _ - rfl _ - rfl _ - rfl _ - rfl _ - rfl v2 qv2 - v3 qv3 - v4 qv4 - v5 qv5 - v6 qv6 - v7 qv7 - _ - - _ - - _ - - _ - - _ - -
  have zs_k108 := k108.size
  obtain ⟨b2, hb2, zb2, HB2⟩ := J108.fin (i := 0) rfl
  try dsimp only at HB2
  have zl2 := HB2.lt
  obtain ⟨b3, hb3, zb3, HB3⟩ := J108.fin (i := 1) rfl
  try dsimp only at HB3
  have zl3 := HB3.lt
  obtain ⟨b4, hb4, zb4, HB4⟩ := J108.fin (i := 2) rfl
  try dsimp only at HB4
  have zl4 := HB4.lt
  obtain ⟨b5, hb5, zb5, HB5⟩ := J108.fin (i := 3) rfl
  try dsimp only at HB5
  have zl5 := HB5.lt
  obtain ⟨b6, hb6, zb6, HB6⟩ := J108.fin (i := 4) rfl
  try dsimp only at HB6
  have zl6 := HB6.lt
  obtain ⟨b7, hb7, zb7, HB7⟩ := J108.fin (i := 5) rfl
  try dsimp only at HB7
  have zl7 := HB7.lt
  have ne2_3 := J108.ne (i := 0) (m := 1) rfl rfl (by dsimp only; decide) hb2 hb3
  have ne2_4 := J108.ne (i := 0) (m := 2) rfl rfl (by dsimp only; decide) hb2 hb4
  have ne2_5 := J108.ne (i := 0) (m := 3) rfl rfl (by dsimp only; decide) hb2 hb5
  have ne2_6 := J108.ne (i := 0) (m := 4) rfl rfl (by dsimp only; decide) hb2 hb6
  have ne2_7 := J108.ne (i := 0) (m := 5) rfl rfl (by dsimp only; decide) hb2 hb7
  have ne3_4 := J108.ne (i := 1) (m := 2) rfl rfl (by dsimp only; decide) hb3 hb4
  have ne3_5 := J108.ne (i := 1) (m := 3) rfl rfl (by dsimp only; decide) hb3 hb5
  have ne3_6 := J108.ne (i := 1) (m := 4) rfl rfl (by dsimp only; decide) hb3 hb6
  have ne3_7 := J108.ne (i := 1) (m := 5) rfl rfl (by dsimp only; decide) hb3 hb7
  have ne4_5 := J108.ne (i := 2) (m := 3) rfl rfl (by dsimp only; decide) hb4 hb5
  have ne4_6 := J108.ne (i := 2) (m := 4) rfl rfl (by dsimp only; decide) hb4 hb6
  have ne4_7 := J108.ne (i := 2) (m := 5) rfl rfl (by dsimp only; decide) hb4 hb7
  have ne5_6 := J108.ne (i := 3) (m := 4) rfl rfl (by dsimp only; decide) hb5 hb6
  have ne5_7 := J108.ne (i := 3) (m := 5) rfl rfl (by dsimp only; decide) hb5 hb7
  have ne6_7 := J108.ne (i := 4) (m := 5) rfl rfl (by dsimp only; decide) hb6 hb7
  obtain rfl := qv2.trans hb2
  obtain rfl := qv3.trans hb3
  obtain rfl := qv4.trans hb4
  obtain rfl := qv5.trans hb5
  obtain rfl := qv6.trans hb6
  obtain rfl := qv7.trans hb7
  replace E := E.step k108 (by intro i hi he; (try dsimp only [NoK] at hi he ⊢); first | exact he.elim | omega | exact he)
  replace HB1 := HB1.keep k108 (by intro h; (try dsimp only at h); first | omega)
  refine fin_nilJ ?_
  refine n_then ?_
  refine r_one (by decide +kernel) rfl ?_
  refine l_to (to_storeA (n := 11) rfl rfl (show _ = (Value.agg _) from rfl) (by kernel_rfl) rfl (by first | (simp [slice_one]; done) | (simp only [List.forall_mem_cons, List.cons_append, List.nil_append]; repeat' (first | exact rfl | apply And.intro | (intro u hu; cases hu; done)))) HB7 (by first | exact of_decide_eq_true rfl | (simp; done) | decide) ?_)
  rintro w109 HX109 k109 z109
  have zs_k109 := k109.size
  replace E := E.step k109 (by intro i hi he; (try dsimp only [NoK] at hi he ⊢); first | exact he.elim | omega | exact he)
  replace HB1 := HB1.keep k109 (by intro h; (try dsimp only at h); first | omega)
  replace HB2 := HB2.keep k109 (by intro h; (try dsimp only at h); first | omega)
  replace HB3 := HB3.keep k109 (by intro h; (try dsimp only at h); first | omega)
  replace HB4 := HB4.keep k109 (by intro h; (try dsimp only at h); first | omega)
  replace HB5 := HB5.keep k109 (by intro h; (try dsimp only at h); first | omega)
  replace HB6 := HB6.keep k109 (by intro h; (try dsimp only at h); first | omega)
  replace HB7 := HX109
  clear HX109
  try simp only [List.set_cons_zero, List.set_cons_succ, setAt, List.take_zero, List.take_succ_cons, List.drop_zero, List.drop_succ_cons, List.nil_append, List.cons_append, List.append_nil, List.length_cons, List.length_nil, Nat.zero_add, Nat.reduceAdd, List.drop_nil] at HB7
  refine l_nil ?_
  refine n_then ?_
  refine c_seq ?_
  refine wp_reg (by decide +kernel) ?_
  refine l_v (v_fieldAddr (off := 2) (ft := 3) (by kernel_rfl) rfl) ?_
  refine l_to (to_store rfl rfl (show _ = (Value.int _ _) from rfl) rfl (by kernel_rfl) HB2 (by first | exact of_decide_eq_true rfl | (simp; done) | decide) ?_)
  rintro w110 HX110 k110 z110
  have zs_k110 := k110.size
  replace E := E.step k110 (by intro i hi he; (try dsimp only [NoK] at hi he ⊢); first | exact he.elim | omega | exact he)
  replace HB1 := HB1.keep k110 (by intro h; (try dsimp only at h); first | omega)
  replace HB3 := HB3.keep k110 (by intro h; (try dsimp only at h); first | omega)
  replace HB4 := HB4.keep k110 (by intro h; (try dsimp only at h); first | omega)
  replace HB5 := HB5.keep k110 (by intro h; (try dsimp only at h); first | omega)
  replace HB6 := HB6.keep k110 (by intro h; (try dsimp only at h); first | omega)
  replace HB7 := HB7.keep k110 (by intro h; (try dsimp only at h); first | omega)
  replace HB2 := HX110
  clear HX110
  try simp only [List.set_cons_zero, List.set_cons_succ, setAt, List.take_zero, List.take_succ_cons, List.drop_zero, List.drop_succ_cons, List.nil_append, List.cons_append, List.append_nil, List.length_cons, List.length_nil, Nat.zero_add, Nat.reduceAdd, List.drop_nil] at HB2
  refine l_v (v_fieldAddr (off := 3) (ft := 3) (by kernel_rfl) rfl) ?_
  refine l_to (to_store rfl rfl (show _ = (Value.int _ _) from rfl) rfl (by kernel_rfl) HB3 (by first | exact of_decide_eq_true rfl | (simp; done) | decide) ?_)
  rintro w111 HX111 k111 z111
  have zs_k111 := k111.size
  replace E := E.step k111 (by intro i hi he; (try dsimp only [NoK] at hi he ⊢); first | exact he.elim | omega | exact he)
  replace HB1 := HB1.keep k111 (by intro h; (try dsimp only at h); first | omega)
  replace HB2 := HB2.keep k111 (by intro h; (try dsimp only at h); first | omega)
  replace HB4 := HB4.keep k111 (by intro h; (try dsimp only at h); first | omega)
  replace HB5 := HB5.keep k111 (by intro h; (try dsimp only at h); first | omega)
  replace HB6 := HB6.keep k111 (by intro h; (try dsimp only at h); first | omega)
  replace HB7 := HB7.keep k111 (by intro h; (try dsimp only at h); first | omega)
  replace HB3 := HX111
  clear HX111
  try simp only [List.set_cons_zero, List.set_cons_succ, setAt, List.take_zero, List.take_succ_cons, List.drop_zero, List.drop_succ_cons, List.nil_append, List.cons_append, List.append_nil, List.length_cons, List.length_nil, Nat.zero_add, Nat.reduceAdd, List.drop_nil] at HB3
  refine l_v (v_fieldAddr (off := 4) (ft := 2) (by kernel_rfl) rfl) ?_
  refine l_to (to_store rfl rfl (show _ = (Value.int _ _) from rfl) rfl (by kernel_rfl) HB4 (by first | exact of_decide_eq_true rfl | (simp; done) | decide) ?_)
  rintro w112 HX112 k112 z112
  have zs_k112 := k112.size
  replace E := E.step k112 (by intro i hi he; (try dsimp only [NoK] at hi he ⊢); first | exact he.elim | omega | exact he)
  replace HB1 := HB1.keep k112 (by intro h; (try dsimp only at h); first | omega)
  replace HB2 := HB2.keep k112 (by intro h; (try dsimp only at h); first | omega)
  replace HB3 := HB3.keep k112 (by intro h; (try dsimp only at h); first | omega)
  replace HB5 := HB5.keep k112 (by intro h; (try dsimp only at h); first | omega)
  replace HB6 := HB6.keep k112 (by intro h; (try dsimp only at h); first | omega)
  replace HB7 := HB7.keep k112 (by intro h; (try dsimp only at h); first | omega)
  replace HB4 := HX112
  clear HX112
  try simp only [List.set_cons_zero, List.set_cons_succ, setAt, List.take_zero, List.take_succ_cons, List.drop_zero, List.drop_succ_cons, List.nil_append, List.cons_append, List.append_nil, List.length_cons, List.length_nil, Nat.zero_add, Nat.reduceAdd, List.drop_nil] at HB4
  refine l_v (v_fieldAddr (off := 5) (ft := 2) (by kernel_rfl) rfl) ?_
  refine l_to (to_store rfl rfl (show _ = (Value.int _ _) from rfl) rfl (by kernel_rfl) HB5 (by first | exact of_decide_eq_true rfl | (simp; done) | decide) ?_)
  rintro w113 HX113 k113 z113
  have zs_k113 := k113.size
  replace E := E.step k113 (by intro i hi he; (try dsimp only [NoK] at hi he ⊢); first | exact he.elim | omega | exact he)
  replace HB1 := HB1.keep k113 (by intro h; (try dsimp only at h); first | omega)
  replace HB2 := HB2.keep k113 (by intro h; (try dsimp only at h); first | omega)
  replace HB3 := HB3.keep k113 (by intro h; (try dsimp only at h); first | omega)
  replace HB4 := HB4.keep k113 (by intro h; (try dsimp only at h); first | omega)
  replace HB6 := HB6.keep k113 (by intro h; (try dsimp only at h); first | omega)
  replace HB7 := HB7.keep k113 (by intro h; (try dsimp only at h); first | omega)
  replace HB5 := HX113
  clear HX113
  try simp only [List.set_cons_zero, List.set_cons_succ, setAt, List.take_zero, List.take_succ_cons, List.drop_zero, List.drop_succ_cons, List.nil_append, List.cons_append, List.append_nil, List.length_cons, List.length_nil, Nat.zero_add, Nat.reduceAdd, List.drop_nil] at HB5
  refine l_v (v_fieldAddr (off := 7) (ft := 2) (by kernel_rfl) rfl) ?_
  refine l_to (to_store rfl rfl (show _ = (Value.int _ _) from rfl) rfl (by kernel_rfl) HB6 (by first | exact of_decide_eq_true rfl | (simp; done) | decide) ?_)
  rintro w114 HX114 k114 z114
  have zs_k114 := k114.size
  replace E := E.step k114 (by intro i hi he; (try dsimp only [NoK] at hi he ⊢); first | exact he.elim | omega | exact he)
  replace HB1 := HB1.keep k114 (by intro h; (try dsimp only at h); first | omega)
  replace HB2 := HB2.keep k114 (by intro h; (try dsimp only at h); first | omega)
  replace HB3 := HB3.keep k114 (by intro h; (try dsimp only at h); first | omega)
  replace HB4 := HB4.keep k114 (by intro h; (try dsimp only at h); first | omega)
  replace HB5 := HB5.keep k114 (by intro h; (try dsimp only at h); first | omega)
  replace HB7 := HB7.keep k114 (by intro h; (try dsimp only at h); first | omega)
  replace HB6 := HX114
  clear HX114
  try simp only [List.set_cons_zero, List.set_cons_succ, setAt, List.take_zero, List.take_succ_cons, List.drop_zero, List.drop_succ_cons, List.nil_append, List.cons_append, List.append_nil, List.length_cons, List.length_nil, Nat.zero_add, Nat.reduceAdd, List.drop_nil] at HB6
  refine l_v (v_fieldAddr (off := 0) (ft := 22) (by kernel_rfl) rfl) ?_
  refine l_to (to_store rfl rfl (show _ = (Value.int _ _) from rfl) rfl (by kernel_rfl) HB7 (by first | exact of_decide_eq_true rfl | (simp; done) | decide) ?_)
  rintro w115 HX115 k115 z115
  have zs_k115 := k115.size
  replace E := E.step k115 (by intro i hi he; (try dsimp only [NoK] at hi he ⊢); first | exact he.elim | omega | exact he)
  replace HB1 := HB1.keep k115 (by intro h; (try dsimp only at h); first | omega)
  replace HB2 := HB2.keep k115 (by intro h; (try dsimp only at h); first | omega)
  replace HB3 := HB3.keep k115 (by intro h; (try dsimp only at h); first | omega)
  replace HB4 := HB4.keep k115 (by intro h; (try dsimp only at h); first | omega)
  replace HB5 := HB5.keep k115 (by intro h; (try dsimp only at h); first | omega)
  replace HB6 := HB6.keep k115 (by intro h; (try dsimp only at h); first | omega)
  replace HB7 := HX115
  clear HX115
  try simp only [List.set_cons_zero, List.set_cons_succ, setAt, List.take_zero, List.take_succ_cons, List.drop_zero, List.drop_succ_cons, List.nil_append, List.cons_append, List.append_nil, List.length_cons, List.length_nil, Nat.zero_add, Nat.reduceAdd, List.drop_nil] at HB7
  refine l_nil ?_
  refine n_then ?_
  refine c_seq ?_
  refine wp_any (by kernel_rfl) ?_
  have e116 : Ext w115 { w115 with drawn := w115.drawn + 1 } := Keep.drawn _ _
  generalize hw116 : ({ w115 with drawn := w115.drawn + 1 } : World) = w116 at e116 ⊢
  clear hw116
  have zs_e116 := e116.size
  replace E := E.trans (Ext.keep e116)
  replace HB1 := HB1.ext e116
  replace HB2 := HB2.ext e116
  replace HB3 := HB3.ext e116
  replace HB4 := HB4.ext e116
  replace HB5 := HB5.ext e116
  replace HB6 := HB6.ext e116
  replace HB7 := HB7.ext e116
  refine r_cut 14 rfl (by decide +kernel) (by decide +kernel) (by decide +kernel) ?_
  refine wp_regdW (NoK) (by decide +kernel) (by decide +kernel) ?_
  refine rt_v (fun vals w hR hd => v_loadA (by kernel_rfl) rfl (by first | exact (HB7.ext hR).pv | exact (HB6.ext hR).pv | exact (HB5.ext hR).pv | exact (HB4.ext hR).pv | exact (HB3.ext hR).pv | exact (HB2.ext hR).pv | exact (HB1.ext hR).pv | assumption) rfl) ?_
  refine rt_v (fun vals w hR hd => v_loadA (by kernel_rfl) rfl (by first | exact (HB7.ext hR).pv | exact (HB6.ext hR).pv | exact (HB5.ext hR).pv | exact (HB4.ext hR).pv | exact (HB3.ext hR).pv | exact (HB2.ext hR).pv | exact (HB1.ext hR).pv | assumption) rfl) ?_
  refine rt_v (fun vals w hR hd => v_loadA (by kernel_rfl) rfl (by first | exact (HB7.ext hR).pv | exact (HB6.ext hR).pv | exact (HB5.ext hR).pv | exact (HB4.ext hR).pv | exact (HB3.ext hR).pv | exact (HB2.ext hR).pv | exact (HB1.ext hR).pv | assumption) rfl) ?_
  refine rt_v (fun vals w hR hd => v_loadA (by kernel_rfl) rfl (by first | exact (HB7.ext hR).pv | exact (HB6.ext hR).pv | exact (HB5.ext hR).pv | exact (HB4.ext hR).pv | exact (HB3.ext hR).pv | exact (HB2.ext hR).pv | exact (HB1.ext hR).pv | assumption) rfl) ?_
  refine rt_v (fun vals w hR hd => v_loadA (by kernel_rfl) rfl (by first | exact (HB7.ext hR).pv | exact (HB6.ext hR).pv | exact (HB5.ext hR).pv | exact (HB4.ext hR).pv | exact (HB3.ext hR).pv | exact (HB2.ext hR).pv | exact (HB1.ext hR).pv | assumption) rfl) ?_
  refine rt_v (fun vals w hR hd => v_loadA (by kernel_rfl) rfl (by first | exact (HB7.ext hR).pv | exact (HB6.ext hR).pv | exact (HB5.ext hR).pv | exact (HB4.ext hR).pv | exact (HB3.ext hR).pv | exact (HB2.ext hR).pv | exact (HB1.ext hR).pv | assumption) rfl) ?_
  refine rt_v (fun vals w hR hd => v_build (pl := [(0, 1), (1, 1), (2, 1), (3, 1), (4, 1), (5, 1), (6, 1), (7, 1), (8, 1), (9, 1), (10, 1)]) (z := .agg #[.int .i64 0, .int .i64 0, .int .i64 0, .int .i64 0, .int .i64 0, .int .i64 0, .int .i64 0, .int .i64 0, .slice none 0 0, .bool false, .slice none 0 0]) (zl := [.int .i64 0, .int .i64 0, .int .i64 0, .int .i64 0, .int .i64 0, .int .i64 0, .int .i64 0, .int .i64 0, .slice none 0 0, .bool false, .slice none 0 0]) (by kernel_rfl) (by unfold kZero; kernel_rfl) rfl rfl (cells := [_, _, _, _, _, _, _, _, _, _, _]) rfl) ?_
  refine rt_v (fun vals w hR hd => v_build (pl := [(0, 1), (1, 1), (2, 1), (3, 1), (4, 1), (5, 1), (6, 1), (7, 1), (8, 1), (9, 1), (10, 1)]) (z := .agg #[.int .i64 0, .int .i64 0, .int .i64 0, .int .i64 0, .int .i64 0, .int .i64 0, .int .i64 0, .int .i64 0, .slice none 0 0, .bool false, .slice none 0 0]) (zl := [.int .i64 0, .int .i64 0, .int .i64 0, .int .i64 0, .int .i64 0, .int .i64 0, .int .i64 0, .int .i64 0, .slice none 0 0, .bool false, .slice none 0 0]) (by kernel_rfl) (by unfold kZero; kernel_rfl) rfl rfl (cells := [_, _, _, _, _, _, _, _, _, _, _]) rfl) ?_
  refine rt_to (fun v W => SlV tEn W AllB v ([((0 : Int), ([] : List UInt8))])) (fun v w w' h k => h.ext k) (fun vals w hR hd => to_makeA (et := 73) (bytes := 32) (by kernel_rfl) (t := tEn) (z := (0, [])) (n := 1) (zv := .agg #[.int .i64 0, .slice none 0 0]) rfl rfl (by omega) (by simp only [maxLen]; omega) (by unfold kZero; kernel_rfl) rfl (fun _ _ => ⟨[_], [_], rfl, ⟨rfl, by decide⟩, _, rfl, SlV.nil _ _ _⟩) (fun b w1 hb HO e z => ⟨e, HO.view.allB⟩)) ?_
  refine rt_to (fun v W => ∃ u, v = .agg #[.int .i64 7, .int .i64 1, .int .i64 0, .int .i64 0, .int .i64 1, .int .i64 0, .int .i64 0, .int .i64 0, u, .bool false, .slice none 0 0] ∧ SlV tEn W AllB u ([((0 : Int), ([] : List UInt8))])) (fun v w w' h k => by obtain ⟨u, h1, h2⟩ := h; exact ⟨u, h1, h2.ext k⟩) (fun vals w hR hd => OpTo.of_v (v_build (pl := [(0, 1), (1, 1), (2, 1), (3, 1), (4, 1), (5, 1), (6, 1), (7, 1), (8, 1), (9, 1), (10, 1)]) (z := .agg #[.int .i64 0, .int .i64 0, .int .i64 0, .int .i64 0, .int .i64 0, .int .i64 0, .int .i64 0, .int .i64 0, .slice none 0 0, .bool false, .slice none 0 0]) (zl := [.int .i64 0, .int .i64 0, .int .i64 0, .int .i64 0, .int .i64 0, .int .i64 0, .int .i64 0, .int .i64 0, .slice none 0 0, .bool false, .slice none 0 0]) (ps := [(0, .int .i64 7), (1, .int .i64 1), (4, .int .i64 1), (8, vals 8)]) (by kernel_rfl) (by unfold kZero; kernel_rfl) rfl (parts4 rfl rfl rfl rfl) (cells := [.int .i64 7, .int .i64 1, .int .i64 0, .int .i64 0, .int .i64 1, .int .i64 0, .int .i64 0, .int .i64 0, vals 8, .bool false, .slice none 0 0]) (by have h1 := SlV.one (show SlV tEn _ AllB _ ([((0 : Int), ([] : List UInt8))]) from hd 8 rfl); simp [fillL, one_cells h1, setAt, cells_int])) ⟨Keep.refl _, _, rfl, (show SlV tEn _ AllB _ ([((0 : Int), ([] : List UInt8))]) from hd 8 rfl)⟩) ?_
  refine rt_to (fun v W => SlV tEn W AllB v (List.replicate 65 en1)) (fun v w w' h k => h.ext k) (fun vals w hR hd => to_f1 (by kernel_rfl) rfl (CallsR.mono (netMany_c (n := 65) (by decide)) fun v w1 ⟨h, e⟩ => ⟨e, h⟩)) ?_
  refine rt_to (fun v W => ∃ u, v = .agg #[.int .i64 3, .int .i64 1, .int .i64 0, .int .i64 0, .int .i64 1, .int .i64 0, .int .i64 0, .int .i64 0, u, .bool false, .slice none 0 0] ∧ SlV tEn W AllB u (List.replicate 65 en1)) (fun v w w' h k => by obtain ⟨u, h1, h2⟩ := h; exact ⟨u, h1, h2.ext k⟩) (fun vals w hR hd => OpTo.of_v (v_build (pl := [(0, 1), (1, 1), (2, 1), (3, 1), (4, 1), (5, 1), (6, 1), (7, 1), (8, 1), (9, 1), (10, 1)]) (z := .agg #[.int .i64 0, .int .i64 0, .int .i64 0, .int .i64 0, .int .i64 0, .int .i64 0, .int .i64 0, .int .i64 0, .slice none 0 0, .bool false, .slice none 0 0]) (zl := [.int .i64 0, .int .i64 0, .int .i64 0, .int .i64 0, .int .i64 0, .int .i64 0, .int .i64 0, .int .i64 0, .slice none 0 0, .bool false, .slice none 0 0]) (ps := [(0, .int .i64 3), (1, .int .i64 1), (4, .int .i64 1), (8, vals 10)]) (by kernel_rfl) (by unfold kZero; kernel_rfl) rfl (parts4 rfl rfl rfl rfl) (cells := [.int .i64 3, .int .i64 1, .int .i64 0, .int .i64 0, .int .i64 1, .int .i64 0, .int .i64 0, .int .i64 0, vals 10, .bool false, .slice none 0 0]) (by have h1 := SlV.one (show SlV tEn _ AllB _ (List.replicate 65 en1) from hd 10 rfl); simp [fillL, one_cells h1, setAt, cells_int])) ⟨Keep.refl _, _, rfl, (show SlV tEn _ AllB _ (List.replicate 65 en1) from hd 10 rfl)⟩) ?_
  refine rt_to (fun v W => SlV tEn W AllB v (List.replicate 2 en1)) (fun v w w' h k => h.ext k) (fun vals w hR hd => to_f1 (by kernel_rfl) rfl (CallsR.mono (netMany_c (n := 2) (by decide)) fun v w1 ⟨h, e⟩ => ⟨e, h⟩)) ?_
  refine rt_to (fun v W => ∃ u, v = .agg #[.int .i64 6, .int .i64 1, .int .i64 0, .int .i64 0, .int .i64 1, .int .i64 0, .int .i64 0, .int .i64 0, u, .bool false, .slice none 0 0] ∧ SlV tEn W AllB u (List.replicate 2 en1)) (fun v w w' h k => by obtain ⟨u, h1, h2⟩ := h; exact ⟨u, h1, h2.ext k⟩) (fun vals w hR hd => OpTo.of_v (v_build (pl := [(0, 1), (1, 1), (2, 1), (3, 1), (4, 1), (5, 1), (6, 1), (7, 1), (8, 1), (9, 1), (10, 1)]) (z := .agg #[.int .i64 0, .int .i64 0, .int .i64 0, .int .i64 0, .int .i64 0, .int .i64 0, .int .i64 0, .int .i64 0, .slice none 0 0, .bool false, .slice none 0 0]) (zl := [.int .i64 0, .int .i64 0, .int .i64 0, .int .i64 0, .int .i64 0, .int .i64 0, .int .i64 0, .int .i64 0, .slice none 0 0, .bool false, .slice none 0 0]) (ps := [(0, .int .i64 6), (1, .int .i64 1), (4, .int .i64 1), (8, vals 12)]) (by kernel_rfl) (by unfold kZero; kernel_rfl) rfl (parts4 rfl rfl rfl rfl) (cells := [.int .i64 6, .int .i64 1, .int .i64 0, .int .i64 0, .int .i64 1, .int .i64 0, .int .i64 0, .int .i64 0, vals 12, .bool false, .slice none 0 0]) (by have h1 := SlV.one (show SlV tEn _ AllB _ (List.replicate 2 en1) from hd 12 rfl); simp [fillL, one_cells h1, setAt, cells_int])) ⟨Keep.refl _, _, rfl, (show SlV tEn _ AllB _ (List.replicate 2 en1) from hd 12 rfl)⟩) ?_
  refine rt_nil (fun w117 e117 => ?_)
  rintro _ rfl _ rfl _ rfl _ rfl _ rfl _ rfl _ rfl _ rfl v37 hs37 v38 hs38 v39 hs39 v40 hs40 v41 hs41 v42 hs42
  have zs_e117 := e117.size
  have hs38 : ∃ u, v38 = .agg #[.int .i64 7, .int .i64 1, .int .i64 0, .int .i64 0, .int .i64 1, .int .i64 0, .int .i64 0, .int .i64 0, u, .bool false, .slice none 0 0] ∧ SlV tEn _ AllB u ([((0 : Int), ([] : List UInt8))]) := hs38
  obtain ⟨u38, rfl, hu38⟩ := hs38
  obtain ⟨a38, c38, rfl⟩ := hu38.shape
  have hs40 : ∃ u, v40 = .agg #[.int .i64 3, .int .i64 1, .int .i64 0, .int .i64 0, .int .i64 1, .int .i64 0, .int .i64 0, .int .i64 0, u, .bool false, .slice none 0 0] ∧ SlV tEn _ AllB u (List.replicate 65 en1) := hs40
  obtain ⟨u40, rfl, hu40⟩ := hs40
  obtain ⟨a40, c40, rfl⟩ := hu40.shape
  have hs42 : ∃ u, v42 = .agg #[.int .i64 6, .int .i64 1, .int .i64 0, .int .i64 0, .int .i64 1, .int .i64 0, .int .i64 0, .int .i64 0, u, .bool false, .slice none 0 0] ∧ SlV tEn _ AllB u (List.replicate 2 en1) := hs42
  obtain ⟨u42, rfl, hu42⟩ := hs42
  obtain ⟨a42, c42, rfl⟩ := hu42.shape
  replace E := E.trans (Ext.keep e117)
  replace HB1 := HB1.ext e117
  replace HB2 := HB2.ext e117
  replace HB3 := HB3.ext e117
  replace HB4 := HB4.ext e117
  replace HB5 := HB5.ext e117
  replace HB6 := HB6.ext e117
  replace HB7 := HB7.ext e117
  refine fin_nil ?_
  refine n_then ?_
  refine r_cut 1 rfl (by decide +kernel) (by decide +kernel) (by decide +kernel) ?_
  refine r_one (by decide +kernel) rfl ?_
  refine l_to (to_sliceN (t := tMs) (xs := bL) (et := 26) (bytes := 120) (zl := [.int .i64 0, .int .i64 0, .int .i64 0, .int .i64 0, .int .i64 0, .int .i64 0, .int .i64 0, .int .i64 0, .slice none 0 0, .bool false, .slice none 0 0, .int .i64 0, .int .i64 0, .int .i64 0, .int .i64 0, .int .i64 0, .int .i64 0, .int .i64 0, .int .i64 0, .slice none 0 0, .bool false, .slice none 0 0, .int .i64 0, .int .i64 0, .int .i64 0, .int .i64 0, .int .i64 0, .int .i64 0, .int .i64 0, .int .i64 0, .slice none 0 0, .bool false, .slice none 0 0, .int .i64 0, .int .i64 0, .int .i64 0, .int .i64 0, .int .i64 0, .int .i64 0, .int .i64 0, .int .i64 0, .slice none 0 0, .bool false, .slice none 0 0, .int .i64 0, .int .i64 0, .int .i64 0, .int .i64 0, .int .i64 0, .int .i64 0, .int .i64 0, .int .i64 0, .slice none 0 0, .bool false, .slice none 0 0, .int .i64 0, .int .i64 0, .int .i64 0, .int .i64 0, .int .i64 0, .int .i64 0, .int .i64 0, .int .i64 0, .slice none 0 0, .bool false, .slice none 0 0, .int .i64 0, .int .i64 0, .int .i64 0, .int .i64 0, .int .i64 0, .int .i64 0, .int .i64 0, .int .i64 0, .slice none 0 0, .bool false, .slice none 0 0, .int .i64 0, .int .i64 0, .int .i64 0, .int .i64 0, .int .i64 0, .int .i64 0, .int .i64 0, .int .i64 0, .slice none 0 0, .bool false, .slice none 0 0, .int .i64 0, .int .i64 0, .int .i64 0, .int .i64 0, .int .i64 0, .int .i64 0, .int .i64 0, .int .i64 0, .slice none 0 0, .bool false, .slice none 0 0, .int .i64 0, .int .i64 0, .int .i64 0, .int .i64 0, .int .i64 0, .int .i64 0, .int .i64 0, .int .i64 0, .slice none 0 0, .bool false, .slice none 0 0, .int .i64 0, .int .i64 0, .int .i64 0, .int .i64 0, .int .i64 0, .int .i64 0, .int .i64 0, .int .i64 0, .slice none 0 0, .bool false, .slice none 0 0]) (by kernel_rfl) (by decide) (by decide) (by unfold kZeros; kernel_rfl) rfl (cells := ([[.int .i64 1, .int .i64 0, .int .i64 5, .int .i64 4, .int .i64 2147483647, .int .i64 2147483647, .int .i64 2147483647, .int .i64 0, .slice none 0 0, .bool false, .slice none 0 0], [.int .i64 1, .int .i64 0, .int .i64 4, .int .i64 5, .int .i64 2147483647, .int .i64 2147483647, .int .i64 2147483647, .int .i64 0, .slice none 0 0, .bool false, .slice none 0 0], [.int .i64 1, .int .i64 0, .int .i64 4, .int .i64 4, .int .i64 0, .int .i64 2147483647, .int .i64 2147483647, .int .i64 0, .slice none 0 0, .bool false, .slice none 0 0], [.int .i64 1, .int .i64 0, .int .i64 4, .int .i64 4, .int .i64 2147483647, .int .i64 (-1), .int .i64 2147483647, .int .i64 0, .slice none 0 0, .bool false, .slice none 0 0], [.int .i64 1, .int .i64 0, .int .i64 4, .int .i64 4, .int .i64 2147483647, .int .i64 2147483647, .int .i64 2147483647, .int .i64 1, .slice none 0 0, .bool false, .slice none 0 0], [.int .i64 8, .int .i64 0, .int .i64 4, .int .i64 4, .int .i64 2147483647, .int .i64 2147483647, .int .i64 2147483647, .int .i64 0, .slice none 0 0, .bool false, .slice none 0 0], [.int .i64 0, .int .i64 0, .int .i64 0, .int .i64 0, .int .i64 0, .int .i64 0, .int .i64 0, .int .i64 0, .slice none 0 0, .bool false, .slice none 0 0], [.int .i64 6, .int .i64 1, .int .i64 0, .int .i64 0, .int .i64 1, .int .i64 0, .int .i64 0, .int .i64 0, .slice none 0 0, .bool false, .slice none 0 0], [.int .i64 7, .int .i64 1, .int .i64 0, .int .i64 0, .int .i64 1, .int .i64 0, .int .i64 0, .int .i64 0, .slice a38 1 c38, .bool false, .slice none 0 0], [.int .i64 3, .int .i64 1, .int .i64 0, .int .i64 0, .int .i64 1, .int .i64 0, .int .i64 0, .int .i64 0, .slice a40 65 c40, .bool false, .slice none 0 0], [.int .i64 6, .int .i64 1, .int .i64 0, .int .i64 0, .int .i64 1, .int .i64 0, .int .i64 0, .int .i64 0, .slice a42 2 c42, .bool false, .slice none 0 0]] : List (List Value)).flatten) (by kernel_rfl) (by kernel_rfl) (by kernel_rfl) ((allRep.reps (F := AllB) (css := [[.int .i64 1, .int .i64 0, .int .i64 5, .int .i64 4, .int .i64 2147483647, .int .i64 2147483647, .int .i64 2147483647, .int .i64 0, .slice none 0 0, .bool false, .slice none 0 0], [.int .i64 1, .int .i64 0, .int .i64 4, .int .i64 5, .int .i64 2147483647, .int .i64 2147483647, .int .i64 2147483647, .int .i64 0, .slice none 0 0, .bool false, .slice none 0 0], [.int .i64 1, .int .i64 0, .int .i64 4, .int .i64 4, .int .i64 0, .int .i64 2147483647, .int .i64 2147483647, .int .i64 0, .slice none 0 0, .bool false, .slice none 0 0], [.int .i64 1, .int .i64 0, .int .i64 4, .int .i64 4, .int .i64 2147483647, .int .i64 (-1), .int .i64 2147483647, .int .i64 0, .slice none 0 0, .bool false, .slice none 0 0], [.int .i64 1, .int .i64 0, .int .i64 4, .int .i64 4, .int .i64 2147483647, .int .i64 2147483647, .int .i64 2147483647, .int .i64 1, .slice none 0 0, .bool false, .slice none 0 0], [.int .i64 8, .int .i64 0, .int .i64 4, .int .i64 4, .int .i64 2147483647, .int .i64 2147483647, .int .i64 2147483647, .int .i64 0, .slice none 0 0, .bool false, .slice none 0 0], [.int .i64 0, .int .i64 0, .int .i64 0, .int .i64 0, .int .i64 0, .int .i64 0, .int .i64 0, .int .i64 0, .slice none 0 0, .bool false, .slice none 0 0], [.int .i64 6, .int .i64 1, .int .i64 0, .int .i64 0, .int .i64 1, .int .i64 0, .int .i64 0, .int .i64 0, .slice none 0 0, .bool false, .slice none 0 0], [.int .i64 7, .int .i64 1, .int .i64 0, .int .i64 0, .int .i64 1, .int .i64 0, .int .i64 0, .int .i64 0, .slice a38 1 c38, .bool false, .slice none 0 0], [.int .i64 3, .int .i64 1, .int .i64 0, .int .i64 0, .int .i64 1, .int .i64 0, .int .i64 0, .int .i64 0, .slice a40 65 c40, .bool false, .slice none 0 0], [.int .i64 6, .int .i64 1, .int .i64 0, .int .i64 0, .int .i64 1, .int .i64 0, .int .i64 0, .int .i64 0, .slice a42 2 c42, .bool false, .slice none 0 0]]) (xs := bL) ⟨ms_rep (SlV.nil _ _ _) (SlV.nil _ _ _) ⟨by unfold I64; decide, by unfold I64; decide, by unfold I64; decide, by unfold I64; decide, by unfold I64; decide, by unfold I64; decide, by unfold I64; decide, by unfold I64; decide⟩, ms_rep (SlV.nil _ _ _) (SlV.nil _ _ _) ⟨by unfold I64; decide, by unfold I64; decide, by unfold I64; decide, by unfold I64; decide, by unfold I64; decide, by unfold I64; decide, by unfold I64; decide, by unfold I64; decide⟩, ms_rep (SlV.nil _ _ _) (SlV.nil _ _ _) ⟨by unfold I64; decide, by unfold I64; decide, by unfold I64; decide, by unfold I64; decide, by unfold I64; decide, by unfold I64; decide, by unfold I64; decide, by unfold I64; decide⟩, ms_rep (SlV.nil _ _ _) (SlV.nil _ _ _) ⟨by unfold I64; decide, by unfold I64; decide, by unfold I64; decide, by unfold I64; decide, by unfold I64; decide, by unfold I64; decide, by unfold I64; decide, by unfold I64; decide⟩, ms_rep (SlV.nil _ _ _) (SlV.nil _ _ _) ⟨by unfold I64; decide, by unfold I64; decide, by unfold I64; decide, by unfold I64; decide, by unfold I64; decide, by unfold I64; decide, by unfold I64; decide, by unfold I64; decide⟩, ms_rep (SlV.nil _ _ _) (SlV.nil _ _ _) ⟨by unfold I64; decide, by unfold I64; decide, by unfold I64; decide, by unfold I64; decide, by unfold I64; decide, by unfold I64; decide, by unfold I64; decide, by unfold I64; decide⟩, ms_rep (SlV.nil _ _ _) (SlV.nil _ _ _) ⟨by unfold I64; decide, by unfold I64; decide, by unfold I64; decide, by unfold I64; decide, by unfold I64; decide, by unfold I64; decide, by unfold I64; decide, by unfold I64; decide⟩, ms_rep (SlV.nil _ _ _) (SlV.nil _ _ _) ⟨by unfold I64; decide, by unfold I64; decide, by unfold I64; decide, by unfold I64; decide, by unfold I64; decide, by unfold I64; decide, by unfold I64; decide, by unfold I64; decide⟩, ms_rep hu38 (SlV.nil _ _ _) ⟨by unfold I64; decide, by unfold I64; decide, by unfold I64; decide, by unfold I64; decide, by unfold I64; decide, by unfold I64; decide, by unfold I64; decide, by unfold I64; decide⟩, ms_rep hu40 (SlV.nil _ _ _) ⟨by unfold I64; decide, by unfold I64; decide, by unfold I64; decide, by unfold I64; decide, by unfold I64; decide, by unfold I64; decide, by unfold I64; decide, by unfold I64; decide⟩, ms_rep hu42 (SlV.nil _ _ _) ⟨by unfold I64; decide, by unfold I64; decide, by unfold I64; decide, by unfold I64; decide, by unfold I64; decide, by unfold I64; decide, by unfold I64; decide, by unfold I64; decide⟩, trivial⟩)) ?_)
  rintro b43 w43 zb43 HO43 e43 z43
  have zs_e43 := e43.size
  replace E := E.trans (Ext.keep e43)
  replace HB1 := HB1.ext e43
  replace HB2 := HB2.ext e43
  replace HB3 := HB3.ext e43
  replace HB4 := HB4.ext e43
  replace HB5 := HB5.ext e43
  replace HB6 := HB6.ext e43
  replace HB7 := HB7.ext e43
  have zo_HO43 := fun (b : Nat) h => HO43.own_lt (b := b) h
  refine l_nil ?_
  refine n_then ?_
  refine r_one (by decide +kernel) rfl ?_
  refine l_v (v_assign (t := .slice _ _ _) rfl) ?_
  refine l_nil ?_
  refine n_then ?_
  refine c_seq ?_
  refine c_seq ?_
  refine wp_reg (by decide +kernel) ?_
  refine l_v (v_assign rfl) ?_
  refine l_nil ?_
  refine n_then ?_
  refine c_block ?_
  refine c_loop (τ := Nat) [0, 9, 10, 11, 44, 45, 46, 47, 48, 49, 50, 51, 52, 53, 54, 55, 56, 57, 58, 59, 60, 61, 62, 63, 64, 65, 66, 67] (fun i => [(9, .int .i64 i)]) (fun i W => Ext w W ∧ Keep (NoK) w43 W ∧ i ≤ 11) (fun i => 11 - i) 0 (by exact ⟨rfl, trivial⟩) (by exact ⟨E, Keep.refl _, Nat.zero_le _⟩) ?_
  rintro i w118 j ⟨E, EL1, h1⟩
  have zs_EL1 := EL1.size
  replace HB1 := HB1.ext EL1
  replace HB2 := HB2.ext EL1
  replace HB3 := HB3.ext EL1
  replace HB4 := HB4.ext EL1
  replace HB5 := HB5.ext EL1
  replace HB6 := HB6.ext EL1
  replace HB7 := HB7.ext EL1
  replace HO43 := HO43.ext EL1
  refine c_seq ?_
  refine c_seq ?_
  refine wp_reg (by decide +kernel) ?_
  refine l_v (v_move (t := .int _ _) rfl) ?_
  refine l_v (v_move (t := .slice _ _ _) rfl) ?_
  refine l_v (v_len (et := 26) (by kernel_rfl) rfl) ?_
  refine l_v (v_lss rfl rfl) ?_
  refine l_nil ?_
  refine n_then ?_
  refine c_cond rfl rfl (fun hlt => ?_) (fun hlt => ?_)
  · skip
    have hlt : i < 11 := by have := dtrue hlt; omega
    obtain ⟨m, hx, _⟩ := getE (l := bL) (i := i) (by have : bL.length = 11 := rfl; omega)
    have hno := bL_no m (List.mem_of_getElem? hx)
    obtain ⟨q, cs, hq, hF, _, HPq, hr⟩ := HO43.view.el hx
    cases hq
    have HGq : AgV tMs _ _ _ m := ⟨cs, rfl, hr⟩
    obtain ⟨a7, c7, a8, c8, rfl, _⟩ := tMs_cells hr
    refine c_skip ?_
    refine n_then ?_
    refine c_seq ?_
    refine c_block ?_
    refine c_seq ?_
    refine wp_reg (by decide +kernel) ?_
    refine l_v (v_move (t := .slice _ _ _) rfl) ?_
    refine l_v (v_move (t := .int _ _) rfl) ?_
    refine l_v (v_indexAddr (et := 26) (sz := 11) (k := i) (by kernel_rfl) (by kernel_rfl) rfl rfl (by first | rfl | omega) (by omega)) ?_
    refine l_v (v_loadA (by kernel_rfl) rfl (by first | exact HPq | exact HB7.pv | exact HB6.pv | exact HB5.pv | exact HB4.pv | exact HB3.pv | exact HB2.pv | exact HB1.pv | assumption) rfl) ?_
    refine l_to (to_f1 (by kernel_rfl) (show _ = (Value.agg _) from rfl) (CallsR.mono (mBytes_c HGq) ?_))
    rintro _ w50 ⟨⟨x50, rfl, hs50⟩, e50⟩
    have zs_e50 := e50.size
    rw [if_neg (by rw [hno]; decide)]
    obtain ⟨a51, c51, rfl⟩ := hs50.shape
    replace E := E.trans (Ext.keep e50)
    replace HB1 := HB1.ext e50
    replace HB2 := HB2.ext e50
    replace HB3 := HB3.ext e50
    replace HB4 := HB4.ext e50
    replace HB5 := HB5.ext e50
    replace HB6 := HB6.ext e50
    replace HB7 := HB7.ext e50
    replace HO43 := HO43.ext e50
    replace EL1 := EL1.trans (Ext.keep e50)
    replace HPq := HPq.ext e50
    replace HGq := HGq.ext e50
    refine l_v (v_move (t := .tuple _) rfl) ?_
    refine l_v (v_extract (t := .slice _ _ _) rfl rfl) ?_
    refine l_v (v_extract (t := .int _ _) rfl rfl) ?_
    refine l_v (v_assign (t := .slice _ _ _) rfl) ?_
    refine l_v (v_assign (t := .int _ _) rfl) ?_
    refine l_nil ?_
    refine n_then ?_
    refine c_seq ?_
    refine wp_reg (by decide +kernel) ?_
    refine l_v (v_move (t := .slice _ _ _) rfl) ?_
    refine l_v (v_move (t := .int _ _) rfl) ?_
    refine l_v (v_indexAddr (et := 26) (sz := 11) (k := i) (by kernel_rfl) (by kernel_rfl) rfl rfl (by first | rfl | omega) (by omega)) ?_
    refine l_v (v_loadA (by kernel_rfl) rfl (by first | exact HPq | exact HB7.pv | exact HB6.pv | exact HB5.pv | exact HB4.pv | exact HB3.pv | exact HB2.pv | exact HB1.pv | assumption) rfl) ?_
    refine l_to (to_f1 (by kernel_rfl) (show _ = (Value.agg _) from rfl) (CallsR.mono (May_c HGq) ?_))
    rintro _ w119 ⟨rfl, e119⟩
    have zs_e119 := e119.size
    replace E := E.trans (Ext.keep e119)
    replace HB1 := HB1.ext e119
    replace HB2 := HB2.ext e119
    replace HB3 := HB3.ext e119
    replace HB4 := HB4.ext e119
    replace HB5 := HB5.ext e119
    replace HB6 := HB6.ext e119
    replace HB7 := HB7.ext e119
    replace HO43 := HO43.ext e119
    replace EL1 := EL1.trans (Ext.keep e119)
    replace HPq := HPq.ext e119
    replace HGq := HGq.ext e119
    refine l_v (v_move (t := .bool _) rfl) ?_
    refine l_g1 rfl rfl (fun hG => v_move (t := .int _ _) rfl) ?_
    refine l_g1f rfl rfl (fun hG => to_f1 (by kernel_rfl) (gd hG rfl) (num_c)) ?_
    rintro w120 e120
    have zs_e120 := e120.size
    replace E := E.trans (Ext.keep e120)
    replace HB1 := HB1.ext e120
    replace HB2 := HB2.ext e120
    replace HB3 := HB3.ext e120
    replace HB4 := HB4.ext e120
    replace HB5 := HB5.ext e120
    replace HB6 := HB6.ext e120
    replace HB7 := HB7.ext e120
    replace HO43 := HO43.ext e120
    replace EL1 := EL1.trans (Ext.keep e120)
    replace HPq := HPq.ext e120
    replace HGq := HGq.ext e120
    refine l_g1 rfl rfl (fun hG => v_neq (gd hG rfl) rfl) ?_
    refine l_v (v_or rfl rfl) ?_
    refine l_nil ?_
    refine n_then ?_
    refine c_cond rfl rfl (fun hb => ?_) (fun hb => ?_)
    · skip
      rw [hno] at hb; simp at hb
    · skip
      refine c_skip ?_
      refine n_blk ?_
      refine n_then ?_
      refine wp_reg (by decide +kernel) ?_
      refine l_v (v_move (t := .int _ _) rfl) ?_
      refine l_v (v_add rfl rfl (by first | exact wr_i64 (by omega) (by omega) | rfl)) ?_
      refine l_v (v_assign (t := .int _ _) rfl) ?_
      refine l_nil ?_
      refine n_then ?_
      refine ⟨i + 1, _, rfl, by (repeat (first | exact Off.of_over _ _ _ | refine Off.upd ?_ (by decide) _ | refine Off.overs ?_ (by decide) _)), ⟨by first | rfl | exact congrArg (Value.int _) (by omega) | (simp; done), trivial⟩, ⟨E, EL1, ?_⟩, ?_⟩
      · skip
        omega
      · (dsimp only; omega)
  · skip
    refine c_exit ?_
    refine x_then ?_
    refine x_then ?_
    refine x_hit ?_
    refine n_then ?_
    refine c_seq ?_
    refine wp_reg (by decide +kernel) ?_
    refine l_v (v_loadA (by kernel_rfl) rfl (by first | exact HB7.pv | exact HB6.pv | exact HB5.pv | exact HB4.pv | exact HB3.pv | exact HB2.pv | exact HB1.pv | assumption) rfl) ?_
    refine l_to (to_f1 (by kernel_rfl) (show _ = (Value.agg _) from rfl) (CallsR.mono (may_true (F := NoK) bV_may ⟨_, rfl, ms_rep (SlV.nil _ _ _) (SlV.nil _ _ _) ⟨by unfold I64; decide, by unfold I64; decide, by unfold I64; decide, by unfold I64; decide, by unfold I64; decide, by unfold I64; decide, by unfold I64; decide, by unfold I64; decide⟩⟩) ?_))
    rintro _ w121 ⟨rfl, e121⟩
    have zs_e121 := e121.size
    replace E := E.trans (Ext.keep e121)
    replace HB1 := HB1.ext e121
    replace HB2 := HB2.ext e121
    replace HB3 := HB3.ext e121
    replace HB4 := HB4.ext e121
    replace HB5 := HB5.ext e121
    replace HB6 := HB6.ext e121
    replace HB7 := HB7.ext e121
    replace HO43 := HO43.ext e121
    refine l_v (v_move (t := .bool _) rfl) ?_
    refine l_gt rfl rfl (to_f1 (by kernel_rfl) (show _ = (Value.int _ _) from rfl) (CallsR.mono (netMany_c (n := 64) (by decide)) ?_))
    rintro _ w71 ⟨hs71, e71⟩
    have zs_e71 := e71.size
    obtain ⟨a71, c71, rfl⟩ := hs71.shape
    replace E := E.trans (Ext.keep e71)
    replace HB1 := HB1.ext e71
    replace HB2 := HB2.ext e71
    replace HB3 := HB3.ext e71
    replace HB4 := HB4.ext e71
    replace HB5 := HB5.ext e71
    replace HB6 := HB6.ext e71
    replace HB7 := HB7.ext e71
    replace HO43 := HO43.ext e71
    refine l_gt rfl rfl (OpTo.of_v (v_build (pl := [(0, 1), (1, 1), (2, 1), (3, 1), (4, 1), (5, 1), (6, 1), (7, 1), (8, 1), (9, 1), (10, 1)]) (z := .agg #[.int .i64 0, .int .i64 0, .int .i64 0, .int .i64 0, .int .i64 0, .int .i64 0, .int .i64 0, .int .i64 0, .slice none 0 0, .bool false, .slice none 0 0]) (zl := [.int .i64 0, .int .i64 0, .int .i64 0, .int .i64 0, .int .i64 0, .int .i64 0, .int .i64 0, .int .i64 0, .slice none 0 0, .bool false, .slice none 0 0]) (by kernel_rfl) (by unfold kZero; kernel_rfl) rfl rfl (cells := [_, _, _, _, _, _, _, _, _, _, _]) rfl) ?_)
    refine l_gt rfl rfl (to_f1 (by kernel_rfl) (show _ = (Value.agg _) from rfl) (CallsR.mono (may_true (F := AllB) bA_may ⟨_, rfl, ms_rep hs71 (SlV.nil _ _ _) ⟨by unfold I64; decide, by unfold I64; decide, by unfold I64; decide, by unfold I64; decide, by unfold I64; decide, by unfold I64; decide, by unfold I64; decide, by unfold I64; decide⟩⟩) ?_))
    rintro _ w122 ⟨rfl, e122⟩
    have zs_e122 := e122.size
    replace E := E.trans (Ext.keep e122)
    replace HB1 := HB1.ext e122
    replace HB2 := HB2.ext e122
    replace HB3 := HB3.ext e122
    replace HB4 := HB4.ext e122
    replace HB5 := HB5.ext e122
    replace HB6 := HB6.ext e122
    replace HB7 := HB7.ext e122
    replace HO43 := HO43.ext e122
    refine l_v (v_andT rfl rfl) ?_
    refine l_v (v_move (t := .bool _) rfl) ?_
    refine l_gt rfl rfl (to_f1 (by kernel_rfl) (show _ = (Value.int _ _) from rfl) (CallsR.mono (netMany_c (n := 1) (by decide)) ?_))
    rintro _ w76 ⟨hs76, e76⟩
    have zs_e76 := e76.size
    obtain ⟨a76, c76, rfl⟩ := hs76.shape
    replace E := E.trans (Ext.keep e76)
    replace HB1 := HB1.ext e76
    replace HB2 := HB2.ext e76
    replace HB3 := HB3.ext e76
    replace HB4 := HB4.ext e76
    replace HB5 := HB5.ext e76
    replace HB6 := HB6.ext e76
    replace HB7 := HB7.ext e76
    replace HO43 := HO43.ext e76
    refine l_gt rfl rfl (OpTo.of_v (v_build (pl := [(0, 1), (1, 1), (2, 1), (3, 1), (4, 1), (5, 1), (6, 1), (7, 1), (8, 1), (9, 1), (10, 1)]) (z := .agg #[.int .i64 0, .int .i64 0, .int .i64 0, .int .i64 0, .int .i64 0, .int .i64 0, .int .i64 0, .int .i64 0, .slice none 0 0, .bool false, .slice none 0 0]) (zl := [.int .i64 0, .int .i64 0, .int .i64 0, .int .i64 0, .int .i64 0, .int .i64 0, .int .i64 0, .int .i64 0, .slice none 0 0, .bool false, .slice none 0 0]) (by kernel_rfl) (by unfold kZero; kernel_rfl) rfl rfl (cells := [_, _, _, _, _, _, _, _, _, _, _]) rfl) ?_)
    refine l_gt rfl rfl (to_f1 (by kernel_rfl) (show _ = (Value.agg _) from rfl) (CallsR.mono (may_true (F := AllB) bD_may ⟨_, rfl, ms_rep hs76 (SlV.nil _ _ _) ⟨by unfold I64; decide, by unfold I64; decide, by unfold I64; decide, by unfold I64; decide, by unfold I64; decide, by unfold I64; decide, by unfold I64; decide, by unfold I64; decide⟩⟩) ?_))
    rintro _ w123 ⟨rfl, e123⟩
    have zs_e123 := e123.size
    replace E := E.trans (Ext.keep e123)
    replace HB1 := HB1.ext e123
    replace HB2 := HB2.ext e123
    replace HB3 := HB3.ext e123
    replace HB4 := HB4.ext e123
    replace HB5 := HB5.ext e123
    replace HB6 := HB6.ext e123
    replace HB7 := HB7.ext e123
    replace HO43 := HO43.ext e123
    refine l_v (v_andT rfl rfl) ?_
    refine l_v (v_move (t := .bool _) rfl) ?_
    refine l_gt rfl rfl (to_f1 (by kernel_rfl) (show _ = (Value.pointer _) from rfl) (CallsR.mono (nothing_c (NoWay.none _)) ?_))
    rintro _ w124 ⟨rfl, e124⟩
    have zs_e124 := e124.size
    replace E := E.trans (Ext.keep e124)
    replace HB1 := HB1.ext e124
    replace HB2 := HB2.ext e124
    replace HB3 := HB3.ext e124
    replace HB4 := HB4.ext e124
    replace HB5 := HB5.ext e124
    replace HB6 := HB6.ext e124
    replace HB7 := HB7.ext e124
    replace HO43 := HO43.ext e124
    refine l_v (v_andT rfl rfl) ?_
    refine l_v (v_move (t := .bool _) rfl) ?_
    refine l_gt rfl rfl (OpTo.of_v (v_build (pl := [(0, 1), (1, 1), (2, 1)]) (z := .agg #[.bool false, .slice none 0 0, .int .i64 0]) (zl := [.bool false, .slice none 0 0, .int .i64 0]) (by kernel_rfl) (by unfold kZero; kernel_rfl) rfl rfl (cells := [_, _, _]) rfl) ?_)
    refine l_gt rfl rfl (to_box (show _ = (Value.agg _) from rfl) ?_)
    rintro b85 w85 zb85 HB85 e85 z85
    have zs_e85 := e85.size
    replace E := E.trans (Ext.keep e85)
    replace HB1 := HB1.ext e85
    replace HB2 := HB2.ext e85
    replace HB3 := HB3.ext e85
    replace HB4 := HB4.ext e85
    replace HB5 := HB5.ext e85
    replace HB6 := HB6.ext e85
    replace HB7 := HB7.ext e85
    replace HO43 := HO43.ext e85
    try simp only [Value.cells] at HB85
    refine l_gt rfl rfl (to_f1 (by kernel_rfl) (show _ = (Value.pointer _) from rfl) (CallsR.mono (nothing_c (NoWay.blk HB85)) ?_))
    rintro _ w125 ⟨rfl, e125⟩
    have zs_e125 := e125.size
    replace E := E.trans (Ext.keep e125)
    replace HB1 := HB1.ext e125
    replace HB2 := HB2.ext e125
    replace HB3 := HB3.ext e125
    replace HB4 := HB4.ext e125
    replace HB5 := HB5.ext e125
    replace HB6 := HB6.ext e125
    replace HB7 := HB7.ext e125
    replace HO43 := HO43.ext e125
    replace HB85 := HB85.ext e125
    refine l_v (v_andT rfl rfl) ?_
    refine l_v (v_move (t := .bool _) rfl) ?_
    refine l_gt rfl rfl (to_f0 (by kernel_rfl) (CallsR.mono (New_c) ?_))
    rintro _ w89 ⟨b89, hb89, rfl, HB89, z89, e89⟩
    have zs_e89 := e89.size
    replace E := E.trans (Ext.keep e89)
    replace HB1 := HB1.ext e89
    replace HB2 := HB2.ext e89
    replace HB3 := HB3.ext e89
    replace HB4 := HB4.ext e89
    replace HB5 := HB5.ext e89
    replace HB6 := HB6.ext e89
    replace HB7 := HB7.ext e89
    replace HO43 := HO43.ext e89
    replace HB85 := HB85.ext e89
    refine l_gt rfl rfl (to_f2 (by kernel_rfl) (show _ = (Value.pointer _) from rfl) (show _ = (Value.pointer _) from rfl) (CallsR.mono (SameWay_made_nil HB89) ?_))
    rintro _ w126 ⟨rfl, e126⟩
    have zs_e126 := e126.size
    replace E := E.trans (Ext.keep e126)
    replace HB1 := HB1.ext e126
    replace HB2 := HB2.ext e126
    replace HB3 := HB3.ext e126
    replace HB4 := HB4.ext e126
    replace HB5 := HB5.ext e126
    replace HB6 := HB6.ext e126
    replace HB7 := HB7.ext e126
    replace HO43 := HO43.ext e126
    replace HB85 := HB85.ext e126
    replace HB89 := HB89.ext e126
    refine l_gt rfl rfl (OpTo.of_v (v_not rfl) ?_)
    refine l_v (v_andT rfl rfl) ?_
    refine l_v (v_move (t := .bool _) rfl) ?_
    refine l_gt rfl rfl (to_f0 (by kernel_rfl) (CallsR.mono (known_c) ?_))
    rintro _ w127 ⟨rfl, e127⟩
    have zs_e127 := e127.size
    replace E := E.trans (Ext.keep e127)
    replace HB1 := HB1.ext e127
    replace HB2 := HB2.ext e127
    replace HB3 := HB3.ext e127
    replace HB4 := HB4.ext e127
    replace HB5 := HB5.ext e127
    replace HB6 := HB6.ext e127
    replace HB7 := HB7.ext e127
    replace HO43 := HO43.ext e127
    replace HB85 := HB85.ext e127
    replace HB89 := HB89.ext e127
    refine l_v (v_andT rfl rfl) ?_
    refine l_v (v_assign (t := .bool _) rfl) ?_
    refine l_nil ?_
    refine n_then ?_
    refine c_ret ?_
    refine ret1v rfl (by decide) (show _ = (Value.bool _) from rfl) ?_
    exact ⟨rfl, E⟩
end Go.Proofs.Ytaidpdjlchnonaa
