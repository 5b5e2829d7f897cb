/- A part of the proof: steps and lemmas for the walks through the given program. -/
import Derived.Test.YtaidpdjlchnonaaN13
import Derived.Test.YtaidpdjlchnonaaGn
import Derived.Test.YtaidpdjlchnonaaGu
namespace Go.Proofs.Ytaidpdjlchnonaa
open Go.Vc
set_option linter.unusedVariables false
set_option linter.unusedSimpArgs false
set_option maxRecDepth 100000

theorem refput_c {w : World} {n : Int} (h0 : 0 ≤ n) (hn : n ≤ 9223372036854775807) : CallsR Try.prog 53 #[.int .i64 n] w (fun r w' => OwV tU8 nU8 w' w.heap.size NoK r (wNum n.toNat) ∧ (∃ q c, r = .slice (some q) (wNum n.toNat).length c) ∧ Ext w w') := by
  obtain ⟨n, rfl⟩ := Int.eq_ofNat_of_zero_le h0
  refine enter 6 Try.func53 rfl rfl (by simp) ?_
  refine c_seq ?_
  have E := Keep.refl (K := NoK) w
  refine wp_reg (by decide +kernel) ?_
  refine l_v (v_assign rfl) ?_
  refine l_nil ?_
  refine n_then ?_
  refine c_seq ?_
  refine wp_reg (by decide +kernel) ?_
  refine l_v (v_move (t := .int _ _) rfl) ?_
  refine l_v (v_conv (ds := .int .i64) (by kernel_rfl) (by kernel_rfl) rfl (by first | exact wr_u64 (by omega) (by omega) | rfl)) ?_
  refine l_to (to_f1 (by kernel_rfl) (show _ = (Value.int _ _) from rfl) (CallsR.mono (refNumber_c (n := n) rfl (by omega)) ?_))
  rintro _ w1 ⟨HO1, ⟨q1, c1, rfl⟩, e1⟩
  have zs_e1 := e1.size
  replace E := E.trans (Ext.keep e1)
  have zo_HO1 := fun (b : Nat) h => HO1.own_lt (b := b) h
  refine l_v (v_assign (t := .slice _ _ _) rfl) ?_
  refine l_nil ?_
  refine n_then ?_
  refine c_ret ?_
  refine ret1v rfl (by decide) (show _ = (Value.slice _ _ _) from rfl) ?_
  exact ⟨HO1, ⟨q1, c1, rfl⟩, E⟩
theorem refflag_c {w : World} {is : Bool} : CallsR Try.prog 54 #[.bool is] w (fun r w' => OwV tU8 nU8 w' w.heap.size NoK r (wFlag is) ∧ (∃ q c, r = .slice (some q) (wFlag is).length c) ∧ Ext w w') := by
  refine enter 6 Try.func54 rfl rfl (by simp) ?_
  refine c_seq ?_
  have E := Keep.refl (K := NoK) w
  refine wp_reg (by decide +kernel) ?_
  refine l_v (v_assign rfl) ?_
  refine l_nil ?_
  refine n_then ?_
  refine c_seq ?_
  refine c_seq ?_
  refine wp_reg (by decide +kernel) ?_
  refine l_v (v_move (t := .bool _) rfl) ?_
  refine l_nil ?_
  refine n_then ?_
  refine c_cond rfl rfl (fun hc => ?_) (fun hc => ?_)
  · skip
    refine c_seq ?_
    refine wp_reg (by decide +kernel) ?_
    refine l_to (to_slice1 (t := tU8) (et := 5) (bytes := 1) (by kernel_rfl) (by decide) (show _ = (Value.int _ _) from rfl) ((show tU8.rep _ NoK [.int .u8 1] 1 from rfl)) ?_)
    rintro b1 w1 zb1 HO1 e1 z1
    have zs_e1 := e1.size
    replace E := E.trans (Ext.keep e1)
    have zo_HO1 := fun (b : Nat) h => HO1.own_lt (b := b) h
    refine l_v (v_assign (t := .slice _ _ _) rfl) ?_
    refine l_nil ?_
    refine n_then ?_
    refine c_ret ?_
    refine r_then ?_
    refine ret1v rfl (by decide) (show _ = (Value.slice _ _ _) from rfl) ?_
    rw [hc]
    exact ⟨(HO1.base (by omega)).mono (fun _ _ h => h.1), ⟨_, _, rfl⟩, E⟩
  · skip
    refine c_skip ?_
    refine n_then ?_
    refine c_seq ?_
    refine wp_reg (by decide +kernel) ?_
    refine l_to (to_slice1 (t := tU8) (et := 5) (bytes := 1) (by kernel_rfl) (by decide) (show _ = (Value.int _ _) from rfl) ((show tU8.rep _ NoK [.int .u8 0] 0 from rfl)) ?_)
    rintro b1 w1 zb1 HO1 e1 z1
    have zs_e1 := e1.size
    replace E := E.trans (Ext.keep e1)
    have zo_HO1 := fun (b : Nat) h => HO1.own_lt (b := b) h
    refine l_v (v_assign (t := .slice _ _ _) rfl) ?_
    refine l_nil ?_
    refine n_then ?_
    refine c_ret ?_
    refine ret1v rfl (by decide) (show _ = (Value.slice _ _ _) from rfl) ?_
    rw [hc]
    exact ⟨(HO1.base (by omega)).mono (fun _ _ h => h.1), ⟨_, _, rfl⟩, E⟩
def accE (es : List EnV) (i : Nat) : List UInt8 := wNum es.length ++ ((es.take i).map spE).flatten
theorem accE_zero (es : List EnV) : accE es 0 = wNum es.length := by simp [accE]
theorem accE_succ {es : List EnV} {i : Nat} {r : EnV} (hx : es[i]? = some r) : accE es (i + 1) = accE es i ++ wNum r.1.toNat ++ wBytes r.2 := by
  rw [accE, accE, List.take_add_one, hx]; simp [spE]
theorem accE_end {es : List EnV} {i : Nat} (h : es.length ≤ i) : accE es i = wList spE es := by
  rw [accE, List.take_of_length_le h, wList]
theorem accE_le {es : List EnV} {i L : Nat} (hL : (wList spE es).length ≤ L) : (accE es i).length ≤ L := by
  have h2 := accE_end (es := es) (i := i + es.length) (by omega)
  have h3 : (accE es i).length ≤ (accE es (i + es.length)).length := by
    have h4 : ∃ z, accE es (i + es.length) = accE es i ++ z := by
      have h5 : es.take (i + es.length) = es.take i ++ (es.take (i + es.length)).drop i := by
        conv => lhs; rw [← List.take_append_drop i (es.take (i + es.length)), List.take_take, Nat.min_eq_left (by omega)]
      obtain ⟨z, hz⟩ : ∃ z, es.take (i + es.length) = es.take i ++ z := ⟨_, h5⟩
      exact ⟨(z.map spE).flatten, by rw [accE, hz, accE]; simp⟩
    obtain ⟨z, hz⟩ := h4
    rw [hz, List.length_append]; omega
  rw [h2] at h3; omega
theorem refEntries_c {w : World} {F : Nat → Prop} {v : Value} {es : List EnV} (HS1 : SlV tEn w F v es) (hL : (wList spE es).length ≤ 100000000) (hs : ∀ e ∈ es, e.2.length ≤ 2000000 ∧ 0 ≤ e.1) : CallsR Try.prog 55 #[v] w (fun r w' => OwV tU8 nU8 w' w.heap.size NoK r (wList spE es) ∧ (∃ q c, r = .slice q (wList spE es).length c) ∧ Ext w w') := by
  obtain ⟨a0, c0, rfl⟩ := HS1.shape
  have hmx := HS1.len_max
  have hal := fun i => accE_le (i := i) hL
  refine enter 30 Try.func55 rfl rfl (by simp) ?_
  refine c_seq ?_
  have E := Keep.refl (K := NoK) w
  replace HS1 := HS1.all
  refine wp_reg (by decide +kernel) ?_
  refine l_v (v_assign rfl) ?_
  refine l_nil ?_
  refine n_then ?_
  refine c_seq ?_
  refine wp_reg (by decide +kernel) ?_
  refine l_v (v_move (t := .slice _ _ _) rfl) ?_
  refine l_v (v_len (et := 73) (by kernel_rfl) rfl) ?_
  refine l_to (to_f1 (by kernel_rfl) (show _ = (Value.int _ _) from rfl) (CallsR.mono (refput_c (by omega) (by omega)) ?_))
  rintro _ w2 ⟨HO2, ⟨q2, c2, rfl⟩, e2⟩
  have zs_e2 := e2.size
  have hz : accE es 0 = wNum ((es.length : Int)).toNat := by rw [accE_zero]; simp
  rw [← hz] at HO2 ⊢
  replace E := E.trans (Ext.keep e2)
  replace HS1 := HS1.ext e2
  have zo_HO2 := fun (b : Nat) h => HO2.own_lt (b := b) h
  refine l_v (v_assign (t := .slice _ _ _) rfl) ?_
  refine l_nil ?_
  refine n_then ?_
  refine c_seq ?_
  refine c_seq ?_
  refine wp_reg (by decide +kernel) ?_
  refine l_v (v_assign rfl) ?_
  refine l_nil ?_
  refine n_then ?_
  refine c_block ?_
  refine c_loop (τ := Option Addr × Nat × Nat) [3, 4, 8, 9, 10, 11, 12, 13, 14, 15, 16, 17, 18, 19, 20, 21, 22, 23, 24, 25, 26, 27, 28] (fun (a1, c1, i) => [(3, .slice a1 (accE es i).length c1), (4, .int .i64 i)]) (fun (a1, c1, i) W => Ext w W ∧ Keep (fun b => w.heap.size ≤ b) w2 W ∧ i ≤ es.length ∧ OwV tU8 nU8 W w.heap.size NoK (.slice a1 (accE es i).length c1) (accE es i)) (fun (a1, c1, i) => es.length - i) (some q2, c2, 0) (by exact ⟨rfl, rfl, trivial⟩) (by exact ⟨E, Keep.refl _, Nat.zero_le _, HO2⟩) ?_
  rintro ⟨a1, c1, i⟩ w101 j ⟨E, EL1, h1, HOx⟩
  have zs_EL1 := EL1.size
  replace HS1 := HS1.keep EL1 (by intro i _ hi he; (try dsimp only [NoK, AllB] at hi he); first | exact hi.elim | exact he.elim | omega | (rcases hi with hi | hi <;> omega) | (rcases he with he | he <;> omega))
  have zo_HOx := fun (b : Nat) h => HOx.own_lt (b := b) h
  refine c_seq ?_
  refine c_seq ?_
  refine wp_reg (by decide +kernel) ?_
  refine l_v (v_move (t := .int _ _) rfl) ?_
  refine l_v (v_move (t := .slice _ _ _) rfl) ?_
  refine l_v (v_len (et := 73) (by kernel_rfl) rfl) ?_
  refine l_v (v_lss rfl rfl) ?_
  refine l_nil ?_
  refine n_then ?_
  refine c_cond rfl rfl (fun hlt => ?_) (fun hlt => ?_)
  · skip
    have hlt := dtrue hlt
    obtain ⟨r, hx, hdr⟩ := getE (l := es) (i := i) (by omega)
    obtain ⟨hr1, hr2⟩ := hs r (List.mem_of_getElem? hx)
    have hl0 := hal i
    have hl9 := hal (i + 1)
    have hsc := congrArg List.length (accE_succ hx)
    simp only [List.length_append] at hsc
    obtain ⟨q, cs, hq, hF, _, HPq, hr⟩ := HS1.el hx
    cases hq
    obtain ⟨b3, d3, rfl, HSf, hg⟩ := tEn_cells hr
    have hg2 := hg.2
    have zo_HOx := fun (b : Nat) h => HOx.own_lt (b := b) h
    refine c_skip ?_
    refine n_then ?_
    refine c_seq ?_
    refine c_block ?_
    refine wp_any (by kernel_rfl) ?_
    have e102 : Ext w101 { w101 with drawn := w101.drawn + 1 } := Keep.drawn _ _
    generalize hw102 : ({ w101 with drawn := w101.drawn + 1 } : World) = w102 at e102 ⊢
    clear hw102
    have zs_e102 := e102.size
    replace E := E.trans (Ext.keep e102)
    replace HS1 := HS1.ext e102
    replace HOx := HOx.ext e102
    replace EL1 := EL1.trans (Ext.keep e102)
    replace HPq := HPq.ext e102
    replace HSf := HSf.ext e102
    refine r_cut 13 rfl (by decide +kernel) (by decide +kernel) (by decide +kernel) ?_
    refine wp_regJW (fun k => (.slice a1 (accE es i).length c1 : Value).ownBlock = some k ∨ w102.heap.size ≤ k) (EqJ [] (ChainJ (tU8) (nU8) w102.heap.size (w.heap.size) (NoK) (AllB) (.slice a1 (accE es i).length c1 : Value) (accE es i) [7] [some 6] [wNum r.1.toNat])) (by decide +kernel) (by decide +kernel) (fun vals done hd => EqJ.start (ChainJ.start (HOx) ((by have := E.size; omega)) (Nat.le_refl _) (fun i hi => hd i (dOf_lt (by decide) hi))) (fun k j hq => hd k (dQ_lt (by decide) k j hq))) ?_
    refine rj_v (EqJ.on ChainJ.on) (by decide) (fun done vals w hR hJ hdn hd => v_move (t := .slice _ _ _) rfl) ?_
    refine rj_v (EqJ.on ChainJ.on) (by decide) (fun done vals w hR hJ hdn hd => v_move (t := .slice _ _ _) rfl) ?_
    refine rj_v (EqJ.on ChainJ.on) (by decide) (fun done vals w hR hJ hdn hd => v_move (t := .int _ _) rfl) ?_
    refine rj_v (EqJ.on ChainJ.on) (by decide) (fun done vals w hR hJ hdn hd => v_indexAddr (et := 73) (sz := 2) (k := i) (by kernel_rfl) (by kernel_rfl) (hd 1 rfl) (hd 2 rfl) (by first | rfl | omega) (by omega)) ?_
    refine rj_v (EqJ.on ChainJ.on) (by decide) (fun done vals w hR hJ hdn hd => v_fieldAddr (off := 0) (ft := 2) (by kernel_rfl) (hd 3 rfl)) ?_
    refine rj_v (EqJ.on ChainJ.on) (by decide) (fun done vals w hR hJ hdn hd => v_load (by kernel_rfl) (hd 4 rfl) (by first | exact (HPq.keep hR (by intro h; have he0 := h; (try dsimp only at h); (try simp only [Value.ownBlock, Option.some.injEq] at h); (try simp only [add_block] at h); (try simp only [add_block] at he0); first | omega | (have := (HOx).own_lt he0; omega) | (have := zo_HOx _ he0; omega) | (rcases he0 with he0 | he0; (have := (HOx).own_lt he0; omega); omega))) 0 _ rfl | assumption)) ?_
    refine rj_d (fun done vals w hR hcl hdk hJ hdn hd => by
        have zs_R := hR.size
        exact to_f1 (by kernel_rfl) (hd 5 rfl) (CallsR.mono (refput_c hr2 hg2) fun v w1 h => ⟨Keep.mono (h.2.2) (fun b _ h => h.elim), hJ.step hdk (by decide) (hJ.1.prod (n := 0) (h.2.2) rfl rfl (once_ps (by decide)) (by decide) (h.1.view.mono (fun b _ h => ⟨trivial, h.resolve_right (fun x => x)⟩)))⟩)) ?_
    refine rj_d (fun done vals w hR hcl hdk hJ hdn hd => by
        have zs_R := hR.size
        obtain ⟨hacc, hown, hsrc⟩ := hJ.1.at (n := 0) rfl hdk (fun m h => by cases h)
        exact to_append (et := 5) (bytes := 1) (by kernel_rfl) (hd 0 rfl) hacc rfl (hsrc _ _ rfl rfl (hdn 6 rfl)) flat_u8.to (by simp; omega) (by simp only [maxLen]; simp; omega) (by omega) (fun a n cc w1 o hn kk ho _ => ⟨kk.mono (fun b _ h => hown b h), hJ.step hdk (by decide) (hJ.1.app (n := 0) rfl hdk (fun m h => by cases h) rfl (once_as (by decide)) (ps_ne (by decide)) o kk ho)⟩)) ?_
    refine rj_v (EqJ.on ChainJ.on) (by decide) (fun done vals w hR hJ hdn hd => v_move (t := .slice _ _ _) rfl) ?_
    refine rj_v (EqJ.on ChainJ.on) (by decide) (fun done vals w hR hJ hdn hd => v_move (t := .int _ _) rfl) ?_
    refine rj_v (EqJ.on ChainJ.on) (by decide) (fun done vals w hR hJ hdn hd => v_indexAddr (et := 73) (sz := 2) (k := i) (by kernel_rfl) (by kernel_rfl) (hd 8 rfl) (hd 9 rfl) (by first | rfl | omega) (by omega)) ?_
    refine rj_v (EqJ.on ChainJ.on) (by decide) (fun done vals w hR hJ hdn hd => v_fieldAddr (off := 1) (ft := 24) (by kernel_rfl) (hd 10 rfl)) ?_
    refine rj_v (EqJ.on ChainJ.on) (by decide) (fun done vals w hR hJ hdn hd => v_load (by kernel_rfl) (hd 11 rfl) (by first | exact (HPq.keep hR (by intro h; have he0 := h; (try dsimp only at h); (try simp only [Value.ownBlock, Option.some.injEq] at h); (try simp only [add_block] at h); (try simp only [add_block] at he0); first | omega | (have := (HOx).own_lt he0; omega) | (have := zo_HOx _ he0; omega) | (rcases he0 with he0 | he0; (have := (HOx).own_lt he0; omega); omega))) 1 _ rfl | assumption)) ?_
    refine rj_nil (fun vals w103 k103 J103 => ?_)
    rintro _ _ rfl _ _ rfl _ _ rfl _ _ rfl _ _ rfl _ _ rfl _ rfl - v21 hv21 - _ _ rfl _ _ rfl _ _ rfl _ _ rfl _ _ rfl
    have zs_k103 := k103.size
    have HO21 : OwV (tU8) (nU8) w103 (w.heap.size) (NoK) v21 (accE es i ++ wNum r.1.toNat) := by
      have h := J103.1.fin (by exact Nat.le_refl _)
      have h2 : accE es i ++ ([wNum r.1.toNat]).flatten = accE es i ++ wNum r.1.toNat := by simp
      rw [h2] at h; rw [hv21]; exact h
    clear hv21
    obtain ⟨a21, c21, rfl⟩ := HO21.shape
    have zo_HO21 := fun (b : Nat) h => HO21.own_lt (b := b) h
    replace E := E.step k103 (by intro i hi he; have he0 := he; (try dsimp only [NoK] at hi he ⊢); (try simp only [Value.ownBlock, Option.some.injEq] at he); first | exact he.elim | omega | exact he | (have := (HOx).own_lt he0; omega) | (have := zo_HOx _ he0; omega) | (have := (HOx).own_lt he0; rcases hi with hi | hi <;> omega) | (rcases he0 with he0 | he0; (have := (HOx).own_lt he0; omega); omega))
    replace HS1 := HS1.keep k103 (by intro i _ hi he; have he0 := he; (try dsimp only [NoK, AllB] at hi he); (try simp only [Value.ownBlock, Option.some.injEq] at he); first | exact hi.elim | exact he.elim | omega | (rcases hi with hi | hi <;> omega) | (rcases he with he | he <;> omega) | (have := (HOx).own_lt he0; omega) | (have := zo_HOx _ he0; omega) | (have := (HOx).own_lt he0; rcases hi with hi | hi <;> omega) | (rcases he0 with he0 | he0; (have := (HOx).own_lt he0; omega); omega))
    replace EL1 := EL1.step k103 (by intro i hi he; have he0 := he; (try dsimp only [NoK] at hi he ⊢); (try simp only [Value.ownBlock, Option.some.injEq] at he); first | exact he.elim | omega | exact he | (have := (HOx).own_lt he0; omega) | (have := zo_HOx _ he0; omega) | (have := (HOx).own_lt he0; rcases hi with hi | hi <;> omega) | (rcases he0 with he0 | he0; (have := (HOx).own_lt he0; omega); omega))
    replace HPq := HPq.keep k103 (by intro h; have he0 := h; (try dsimp only at h); (try simp only [Value.ownBlock, Option.some.injEq] at h); (try simp only [add_block] at h); (try simp only [add_block] at he0); first | omega | (have := (HOx).own_lt he0; omega) | (have := zo_HOx _ he0; omega) | (rcases he0 with he0 | he0; (have := (HOx).own_lt he0; omega); omega))
    replace HSf := HSf.keep k103 (by intro i _ hi he; have he0 := he; (try dsimp only [NoK, AllB] at hi he); (try simp only [Value.ownBlock, Option.some.injEq] at he); first | exact hi.elim | exact he.elim | omega | (rcases hi with hi | hi <;> omega) | (rcases he with he | he <;> omega) | (have := (HOx).own_lt he0; omega) | (have := zo_HOx _ he0; omega) | (have := (HOx).own_lt he0; rcases hi with hi | hi <;> omega) | (rcases he0 with he0 | he0; (have := (HOx).own_lt he0; omega); omega))
    refine fin_nilJ ?_
    refine n_then ?_
    refine r_cut 1 rfl (by decide +kernel) (by decide +kernel) (by decide +kernel) ?_
    refine r_one (by decide +kernel) rfl ?_
    refine l_to (to_f1 (by kernel_rfl) (show _ = (Value.slice _ _ _) from rfl) (CallsR.mono (refBytes_c HSf (by omega)) ?_))
    rintro _ w29 ⟨HO29, ⟨q29, c29, rfl⟩, e29⟩
    have zs_e29 := e29.size
    replace E := E.trans (Ext.keep e29)
    replace HS1 := HS1.ext e29
    replace EL1 := EL1.trans (Ext.keep e29)
    replace HPq := HPq.ext e29
    replace HSf := HSf.ext e29
    replace HO21 := HO21.ext e29
    have zo_HO29 := fun (b : Nat) h => HO29.own_lt (b := b) h
    refine l_nil ?_
    refine n_then ?_
    refine r_cut 1 rfl (by decide +kernel) (by decide +kernel) (by decide +kernel) ?_
    refine r_one (by decide +kernel) rfl ?_
    refine l_to (to_append (et := 5) (bytes := 1) (by kernel_rfl) (show _ = (Value.slice _ _ _) from rfl) HO21 (show _ = (Value.slice _ _ _) from rfl) HO29.view (flat_u8.to) (by first | omega | (simp; done) | (simp; omega)) (by simp only [maxLen]; first | omega | (simp; done) | (simp; omega)) (by omega) ?_)
    rintro a40 n40 c40 w40 HO40 hn40 k40 h40 i40
    have zs_k40 := k40.size
    subst hn40
    rw [← accE_succ hx] at HO40 ⊢
    replace E := E.step k40 (by intro i hi he; have he0 := he; (try dsimp only [NoK] at hi he ⊢); (try simp only [Value.ownBlock, Option.some.injEq] at he); first | exact he.elim | omega | exact he | (have := (HO21).own_lt he0; omega) | (have := zo_HO21 _ he0; omega) | (have := (HO21).own_lt he0; rcases hi with hi | hi <;> omega))
    replace HS1 := HS1.keep k40 (by intro i _ hi he; have he0 := he; (try dsimp only [NoK, AllB] at hi he); (try simp only [Value.ownBlock, Option.some.injEq] at he); first | exact hi.elim | exact he.elim | omega | (rcases hi with hi | hi <;> omega) | (rcases he with he | he <;> omega) | (have := (HO21).own_lt he0; omega) | (have := zo_HO21 _ he0; omega) | (have := (HO21).own_lt he0; rcases hi with hi | hi <;> omega))
    replace EL1 := EL1.step k40 (by intro i hi he; have he0 := he; (try dsimp only [NoK] at hi he ⊢); (try simp only [Value.ownBlock, Option.some.injEq] at he); first | exact he.elim | omega | exact he | (have := (HO21).own_lt he0; omega) | (have := zo_HO21 _ he0; omega) | (have := (HO21).own_lt he0; rcases hi with hi | hi <;> omega))
    have zo_HO40 := fun (b : Nat) h => HO40.own_lt (b := b) h
    refine l_nil ?_
    refine n_then ?_
    refine r_one (by decide +kernel) rfl ?_
    refine l_v (v_assign (t := .slice _ _ _) rfl) ?_
    refine l_nil ?_
    refine n_blk ?_
    refine n_then ?_
    refine wp_reg (by decide +kernel) ?_
    refine l_v (v_move (t := .int _ _) rfl) ?_
    refine l_v (v_add rfl rfl (by first | exact wr_i64 (by omega) (by omega) | rfl)) ?_
    refine l_v (v_assign (t := .int _ _) rfl) ?_
    refine l_nil ?_
    refine n_then ?_
    refine ⟨(a40, c40, i + 1), _, rfl, by (repeat (first | exact Off.of_over _ _ _ | refine Off.upd ?_ (by decide) _)), ⟨by first | rfl | exact congrArg (Value.int _) (by omega) | (simp; done), by first | rfl | exact congrArg (Value.int _) (by omega) | (simp; done), trivial⟩, ⟨E, EL1, ?_⟩, ?_⟩
    · skip
      exact ⟨by omega, HO40⟩
    · (dsimp only; omega)
  · skip
    have h2 := dfalse hlt
    have hend : accE es i = wList spE es := accE_end (by omega)
    refine c_exit ?_
    refine x_then ?_
    refine x_then ?_
    refine x_hit ?_
    refine n_then ?_
    refine c_seq ?_
    refine wp_reg (by decide +kernel) ?_
    refine l_v (v_move (t := .slice _ _ _) rfl) ?_
    refine l_v (v_assign (t := .slice _ _ _) rfl) ?_
    refine l_nil ?_
    refine n_then ?_
    refine c_ret ?_
    refine ret1v rfl (by decide) (show _ = (Value.slice _ _ _) from rfl) ?_
    rw [hend] at HOx ⊢
    exact ⟨HOx, ⟨_, _, rfl⟩, E⟩
end Go.Proofs.Ytaidpdjlchnonaa
