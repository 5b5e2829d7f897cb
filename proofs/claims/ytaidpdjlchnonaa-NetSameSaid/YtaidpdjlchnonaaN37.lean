/- A part of the proof: steps and lemmas for the walks through the given program. -/
import Derived.Test.YtaidpdjlchnonaaN35
namespace Go.Proofs.Ytaidpdjlchnonaa
open Go.Vc
set_option linter.unusedVariables false
set_option linter.unusedSimpArgs false
set_option maxRecDepth 100000

theorem refTake_no {w : World} {b c : Nat} {a : Option Addr} {k : Nat} {y : Value} {n : Int} (HB1 : Blk w b [.slice a k c, y] 52) (hn : n < 0 ∨ (k : Int) ≤ n) : CallsR Try.prog 72 #[.pointer (some ⟨b, 0, none⟩), .int .i64 n] w (fun o w' => o = .tuple #[.agg #[.int .i64 0, .int .i64 0, .int .i64 0, .int .i64 0, .int .i64 0, .int .i64 0, .int .i64 0, .int .i64 0, .slice none 0 0, .bool false, .slice none 0 0], .bool false] ∧ Ext w w') := by
  have zl1 := HB1.lt
  refine enter 45 Try.func72 rfl rfl (by simp) ?_
  refine c_seq ?_
  have E := Keep.refl (K := NoK) w
  refine wp_reg (by decide +kernel) ?_
  refine l_to (to_alloc (z := (.agg #[.int .i64 0, .int .i64 0, .int .i64 0, .int .i64 0, .int .i64 0, .int .i64 0, .int .i64 0, .int .i64 0, .slice none 0 0, .bool false, .slice none 0 0])) (by unfold kZero; kernel_rfl) ?_)
  rintro b2 w2 zb2 HB2 e2 z2
  have zs_e2 := e2.size
  replace E := E.trans (Ext.keep e2)
  replace HB1 := HB1.ext e2
  try simp only [Value.cells] at HB2
  refine l_v (v_assign rfl) ?_
  refine l_nil ?_
  refine n_then ?_
  refine c_seq ?_
  refine c_seq ?_
  refine wp_reg (by decide +kernel) ?_
  refine l_v (v_move (t := .int _ _) rfl) ?_
  refine l_v (v_lss rfl rfl) ?_
  refine l_v (v_move (t := .bool _) rfl) ?_
  refine l_g1 rfl rfl (fun hG => v_move (t := .int _ _) rfl) ?_
  refine l_g1 rfl rfl (fun hG => v_move (t := .pointer _) rfl) ?_
  refine l_g1 rfl rfl (fun hG => v_nilCheck (gd hG rfl)) ?_
  refine l_g1 rfl rfl (fun hG => v_fieldAddr (off := 0) (ft := 41) (by kernel_rfl) (gd hG rfl)) ?_
  refine l_g1 rfl rfl (fun hG => v_load (by kernel_rfl) (gd hG rfl) (by first | exact HB2.pv 0 _ rfl | exact HB1.pv 0 _ rfl | assumption)) ?_
  refine l_g1 rfl rfl (fun hG => v_len (et := 26) (by kernel_rfl) (gd hG rfl)) ?_
  refine l_g1 rfl rfl (fun hG => v_geq (gd hG rfl) (gd hG rfl)) ?_
  refine l_v (v_or rfl rfl) ?_
  refine l_nil ?_
  refine n_then ?_
  refine c_cond rfl rfl (fun hc => ?_) (fun hc => ?_)
  · skip
    refine c_seq ?_
    refine wp_reg (by decide +kernel) ?_
    refine l_v (v_build (pl := [(0, 1), (1, 1), (2, 1), (3, 1), (4, 1), (5, 1), (6, 1), (7, 1), (8, 1), (9, 1), (10, 1)]) (z := .agg #[.int .i64 0, .int .i64 0, .int .i64 0, .int .i64 0, .int .i64 0, .int .i64 0, .int .i64 0, .int .i64 0, .slice none 0 0, .bool false, .slice none 0 0]) (zl := [.int .i64 0, .int .i64 0, .int .i64 0, .int .i64 0, .int .i64 0, .int .i64 0, .int .i64 0, .int .i64 0, .slice none 0 0, .bool false, .slice none 0 0]) (by kernel_rfl) (by unfold kZero; kernel_rfl) rfl rfl (cells := [_, _, _, _, _, _, _, _, _, _, _]) rfl) ?_
    refine l_to (to_storeA (n := 11) rfl rfl (show _ = (Value.agg _) from rfl) (by kernel_rfl) rfl (by first | (simp [slice_one]; done) | (simp only [List.forall_mem_cons, List.cons_append, List.nil_append]; repeat' (first | exact rfl | apply And.intro | (intro u hu; cases hu; done)))) HB2 (by first | exact of_decide_eq_true rfl | (simp; done) | decide) ?_)
    rintro w101 HX101 k101 z101
    have zs_k101 := k101.size
    replace E := E.step k101 (by intro i hi he; (try dsimp only [NoK] at hi he ⊢); first | exact he.elim | omega | exact he)
    replace HB1 := HB1.keep k101 (by intro h; (try dsimp only at h); first | omega)
    replace HB2 := HX101
    clear HX101
    try simp only [List.set_cons_zero, List.set_cons_succ, setAt, List.take_zero, List.take_succ_cons, List.drop_zero, List.drop_succ_cons, List.nil_append, List.cons_append, List.append_nil, List.length_cons, List.length_nil, Nat.zero_add, Nat.reduceAdd, List.drop_nil] at HB2
    refine l_v (v_assign rfl) ?_
    refine l_nil ?_
    refine n_then ?_
    refine c_ret ?_
    refine r_then ?_
    refine ret2cv (n := 11) rfl (by decide) (by decide) rfl (by kernel_rfl) HB2.pv rfl (show _ = (Value.bool _) from rfl) ?_
    exact ⟨rfl, E⟩
  · skip
    simp only [Bool.or_eq_false_iff, decide_eq_false_iff_not] at hc; omega
set_option maxHeartbeats 4000000 in
theorem refTake_c {w : World} {G : Nat → Prop} {b c : Nat} {a : Option Addr} {ms : List Ms} {y : Value} {n : Int} {m : Ms} (HB1 : Blk w b [.slice a ms.length c, y] 52) (HS1 : SlV tMs w G (.slice a ms.length c) ms) (hG : ∀ i, G i → i ≠ b) (hml : ms.length ≤ 256) (h0 : 0 ≤ n) (hx : ms[n.toNat]? = some m) : CallsR Try.prog 72 #[.pointer (some ⟨b, 0, none⟩), .int .i64 n] w (fun o w' => (∃ v, o = .tuple #[v, .bool true] ∧ AgV tMs w' G v m) ∧
      (∃ a2 c2, Blk w' b [.slice a2 (ms.eraseIdx n.toNat).length c2, y] 52 ∧ SlV tMs w' (fun i => G i ∨ w.heap.size ≤ i) (.slice a2 (ms.eraseIdx n.toNat).length c2) (ms.eraseIdx n.toNat)) ∧ Keep (fun i => i = b) w w') := by
  have hlt := (List.getElem?_eq_some_iff.1 hx).1
  have hcap := HS1.cap
  have zl1 := HB1.lt
  obtain ⟨n0, hn0⟩ : ∃ n, n = w.heap.size := ⟨_, rfl⟩
  replace HS1 := HS1.mono (F' := fun i => G i ∧ i < n0) fun b hb h => ⟨h, by omega⟩
  obtain ⟨n, rfl⟩ := Int.eq_ofNat_of_zero_le h0
  simp only [Int.toNat_natCast] at hlt hx
  simp only [Int.toNat_natCast]
  refine enter 45 Try.func72 rfl rfl (by simp) ?_
  refine c_seq ?_
  have E := Keep.refl (K := fun i => i = b) w
  refine wp_reg (by decide +kernel) ?_
  refine l_to (to_alloc (z := (.agg #[.int .i64 0, .int .i64 0, .int .i64 0, .int .i64 0, .int .i64 0, .int .i64 0, .int .i64 0, .int .i64 0, .slice none 0 0, .bool false, .slice none 0 0])) (by unfold kZero; kernel_rfl) ?_)
  rintro b2 w2 zb2 HB2 e2 z2
  have zs_e2 := e2.size
  replace E := E.trans (Ext.keep e2)
  replace HB1 := HB1.ext e2
  replace HS1 := HS1.ext e2
  try simp only [Value.cells] at HB2
  refine l_v (v_assign rfl) ?_
  refine l_nil ?_
  refine n_then ?_
  refine c_seq ?_
  refine c_seq ?_
  refine wp_reg (by decide +kernel) ?_
  refine l_v (v_move (t := .int _ _) rfl) ?_
  refine l_v (v_lss rfl rfl) ?_
  refine l_v (v_move (t := .bool _) rfl) ?_
  refine l_g1 rfl rfl (fun hG => v_move (t := .int _ _) rfl) ?_
  refine l_g1 rfl rfl (fun hG => v_move (t := .pointer _) rfl) ?_
  refine l_g1 rfl rfl (fun hG => v_nilCheck (gd hG rfl)) ?_
  refine l_g1 rfl rfl (fun hG => v_fieldAddr (off := 0) (ft := 41) (by kernel_rfl) (gd hG rfl)) ?_
  refine l_g1 rfl rfl (fun hG => v_load (by kernel_rfl) (gd hG rfl) (by first | exact HB2.pv 0 _ rfl | exact HB1.pv 0 _ rfl | assumption)) ?_
  refine l_g1 rfl rfl (fun hG => v_len (et := 26) (by kernel_rfl) (gd hG rfl)) ?_
  refine l_g1 rfl rfl (fun hG => v_geq (gd hG rfl) (gd hG rfl)) ?_
  refine l_v (v_or rfl rfl) ?_
  refine l_nil ?_
  refine n_then ?_
  refine c_cond rfl rfl (fun hc => ?_) (fun hc => ?_)
  · skip
    simp only [Bool.or_eq_true, decide_eq_true_eq] at hc; omega
  · skip
    obtain ⟨q, cs, hq, hF, _, HPq, hr⟩ := HS1.el hx
    subst hq
    have HGq : AgV tMs _ _ _ m := ⟨cs, rfl, hr⟩
    obtain ⟨a7, c7, a8, c8, rfl, _⟩ := tMs_cells hr
    refine c_skip ?_
    refine n_then ?_
    refine c_seq ?_
    refine wp_reg (by decide +kernel) ?_
    refine l_v (v_move (t := .pointer _) rfl) ?_
    refine l_v (v_nilCheck rfl) ?_
    refine l_v (v_fieldAddr (off := 0) (ft := 41) (by kernel_rfl) rfl) ?_
    refine l_v (v_load (by kernel_rfl) rfl (by first | exact HPq 0 _ rfl | exact HB2.pv 0 _ rfl | exact HB1.pv 0 _ rfl | assumption)) ?_
    refine l_v (v_move (t := .int _ _) rfl) ?_
    refine l_v (v_indexAddr (et := 26) (sz := 11) (k := n) (by kernel_rfl) (by kernel_rfl) rfl rfl (by first | rfl | omega) (by omega)) ?_
    refine l_v (v_loadA (by kernel_rfl) rfl (by first | exact HPq | exact HB2.pv | exact HB1.pv | assumption) rfl) ?_
    refine l_to (to_alloc (z := (.agg #[.int .i64 0, .int .i64 0, .int .i64 0, .int .i64 0, .int .i64 0, .int .i64 0, .int .i64 0, .int .i64 0, .slice none 0 0, .bool false, .slice none 0 0])) (by unfold kZero; kernel_rfl) ?_)
    rintro b4 w4 zb4 HB4 e4 z4
    have zs_e4 := e4.size
    replace E := E.trans (Ext.keep e4)
    replace HB1 := HB1.ext e4
    replace HS1 := HS1.ext e4
    replace HB2 := HB2.ext e4
    replace HPq := HPq.ext e4
    replace HGq := HGq.ext e4
    try simp only [Value.cells] at HB4
    refine l_to (to_storeA (n := 11) rfl rfl (show _ = (Value.agg _) from rfl) (by kernel_rfl) rfl (by first | (simp [slice_one]; done) | (simp only [List.forall_mem_cons, List.cons_append, List.nil_append]; repeat' (first | exact rfl | apply And.intro | (intro u hu; cases hu; done)))) HB4 (by first | exact of_decide_eq_true rfl | (simp; done) | decide) ?_)
    rintro w101 HX101 k101 z101
    have zs_k101 := k101.size
    replace E := E.step k101 (by intro i hi he; have he0 := he; (try dsimp only [NoK] at hi he ⊢); (try simp only [Value.ownBlock, Option.some.injEq] at he); first | exact he.elim | omega | exact he | (first | (have := hi.2; omega) | (have := hG _ hi.1; omega) | (rcases hi with hi | hi; omega; (have := hG _ hi.1; omega))))
    replace HB1 := HB1.keep k101 (by intro h; have he0 := h; (try dsimp only at h); (try simp only [Value.ownBlock, Option.some.injEq] at h); first | omega | (have he := he0; first | (have := hi.2; omega) | (have := hG _ hi.1; omega) | (rcases hi with hi | hi; omega; (have := hG _ hi.1; omega))))
    replace HS1 := HS1.keep k101 (by intro i _ hi he; have he0 := he; (try dsimp only [NoK, AllB] at hi he); (try simp only [Value.ownBlock, Option.some.injEq] at he); first | exact hi.elim | exact he.elim | omega | (rcases hi with hi | hi <;> omega) | (rcases he with he | he <;> omega) | (first | (have := hi.2; omega) | (have := hG _ hi.1; omega) | (rcases hi with hi | hi; omega; (have := hG _ hi.1; omega))))
    replace HB2 := HB2.keep k101 (by intro h; have he0 := h; (try dsimp only at h); (try simp only [Value.ownBlock, Option.some.injEq] at h); first | omega | (have he := he0; first | (have := hi.2; omega) | (have := hG _ hi.1; omega) | (rcases hi with hi | hi; omega; (have := hG _ hi.1; omega))))
    replace HGq := HGq.keep k101 (by intro i _ hi he; have he0 := he; (try dsimp only [NoK, AllB] at hi he); (try simp only [Value.ownBlock, Option.some.injEq] at he); first | exact hi.elim | exact he.elim | omega | (rcases hi with hi | hi <;> omega) | (rcases he with he | he <;> omega) | (first | (have := hi.2; omega) | (have := hG _ hi.1; omega) | (rcases hi with hi | hi; omega; (have := hG _ hi.1; omega))))
    replace HB4 := HX101
    clear HX101
    try simp only [List.set_cons_zero, List.set_cons_succ, setAt, List.take_zero, List.take_succ_cons, List.drop_zero, List.drop_succ_cons, List.nil_append, List.cons_append, List.append_nil, List.length_cons, List.length_nil, Nat.zero_add, Nat.reduceAdd, List.drop_nil] at HB4
    refine l_nil ?_
    refine n_then ?_
    refine c_seq ?_
    refine wp_any (by kernel_rfl) ?_
    have e102 : Ext w101 { w101 with drawn := w101.drawn + 1 } := Keep.drawn _ _
    generalize hw102 : ({ w101 with drawn := w101.drawn + 1 } : World) = w102 at e102 ⊢
    clear hw102
    have zs_e102 := e102.size
    replace E := E.trans (Ext.keep e102)
    replace HB1 := HB1.ext e102
    replace HS1 := HS1.ext e102
    replace HB2 := HB2.ext e102
    replace HGq := HGq.ext e102
    replace HB4 := HB4.ext e102
    refine r_cut 16 rfl (by decide +kernel) (by decide +kernel) (by decide +kernel) ?_
    refine wp_regJW (fun k => w102.heap.size ≤ k) (EqJ [] (ChainJ (tMs) (26) w102.heap.size (w102.heap.size) (fun b => G b ∧ b < n0) (fun b => G b ∧ b < n0) (.slice none 0 0 : Value) ([]) [7, 15] [none, none] [ms.take n, (ms.take ms.length).drop (n + 1)])) (by decide +kernel) (by decide +kernel) (fun vals done hd => EqJ.start (ChainJ.start (OwV.nil _ _ _ _ _) (Nat.le_refl _) (Nat.le_refl _) (fun i hi => hd i (dOf_lt (by decide) hi))) (fun k j hq => hd k (dQ_lt (by decide) k j hq))) ?_
    refine rj_v (EqJ.on ChainJ.on) (by decide) (fun done vals w hR hJ hdn hd => v_move (t := .pointer _) rfl) ?_
    refine rj_v (EqJ.on ChainJ.on) (by decide) (fun done vals w hR hJ hdn hd => v_move (t := .pointer _) rfl) ?_
    refine rj_v (EqJ.on ChainJ.on) (by decide) (fun done vals w hR hJ hdn hd => v_nilCheck (hd 1 rfl)) ?_
    refine rj_v (EqJ.on ChainJ.on) (by decide) (fun done vals w hR hJ hdn hd => v_fieldAddr (off := 0) (ft := 41) (by kernel_rfl) (hd 2 rfl)) ?_
    refine rj_v (EqJ.on ChainJ.on) (by decide) (fun done vals w hR hJ hdn hd => v_load (by kernel_rfl) (hd 3 rfl) (by first | exact (HB4.keep hR (by intro h; have he0 := h; (try dsimp only at h); (try simp only [Value.ownBlock, Option.some.injEq] at h); first | omega | (have he := he0; first | (have := hi.2; omega) | (have := hG _ hi.1; omega) | (rcases hi with hi | hi; omega; (have := hG _ hi.1; omega))))).pv 0 _ rfl | exact (HB2.keep hR (by intro h; have he0 := h; (try dsimp only at h); (try simp only [Value.ownBlock, Option.some.injEq] at h); first | omega | (have he := he0; first | (have := hi.2; omega) | (have := hG _ hi.1; omega) | (rcases hi with hi | hi; omega; (have := hG _ hi.1; omega))))).pv 0 _ rfl | exact (HB1.keep hR (by intro h; have he0 := h; (try dsimp only at h); (try simp only [Value.ownBlock, Option.some.injEq] at h); first | omega | (have he := he0; first | (have := hi.2; omega) | (have := hG _ hi.1; omega) | (rcases hi with hi | hi; omega; (have := hG _ hi.1; omega))))).pv 0 _ rfl | assumption)) ?_
    refine rj_v (EqJ.on ChainJ.on) (by decide) (fun done vals w hR hJ hdn hd => v_move (t := .int _ _) rfl) ?_
    refine rj_v (EqJ.on ChainJ.on) (by decide) (fun done vals w hR hJ hdn hd => v_slice (et := 26) (sz := 11) (l := 0) (h := n) (by kernel_rfl) (by kernel_rfl) (hd 4 rfl) rfl ⟨.i64, ((hd 5 rfl)).trans (congrArg (Value.int _) (by omega))⟩ (by omega) (by omega)) ?_
    refine rj_d (fun done vals w hR hcl hdk hJ hdn hd => by
        have zs_R := hR.size
        obtain ⟨hacc, hown, hsrc⟩ := hJ.1.at (n := 0) rfl hdk (fun m h => by cases h)
        exact to_append (et := 26) (bytes := 120) (by kernel_rfl) rfl hacc (hd 6 rfl) ((HS1.keep hR (by first | exact fun h => h | (intro h; have he0 := h; have h := h; (try dsimp only at h); (try simp only [Value.ownBlock, Option.some.injEq] at h); (try simp only [add_block] at h); (try simp only [add_block] at he0); first | omega) | (intro i _ hi he; have he0 := he; have hi := hi; have he := he; (try dsimp only [NoK, AllB] at hi he); (try simp only [Value.ownBlock, Option.some.injEq] at he); first | exact hi.elim | exact he.elim | omega | (rcases hi with hi | hi <;> omega) | (rcases he with he | he <;> omega)))).sub (l := 0) (h := n) (by omega) (by omega)) (fun cs x h => Ty.mono _ h (fun b _ h => ⟨h, fun ho => (hown b ho).elim (fun h' => by cases h') (fun h' => by have := h.2; omega)⟩)) (by (simp; omega)) (by simp only [maxLen]; (simp; omega)) (by omega) (fun a n cc w1 o hn kk ho _ => ⟨kk.mono (fun b _ h => (hown b h).resolve_left (fun h => by cases h)), hJ.step hdk (by decide) (hJ.1.app (n := 0) rfl hdk (fun m h => by cases h) rfl (once_as (by decide)) (ps_ne (by decide)) o kk ho)⟩)) ?_
    refine rj_v (EqJ.on ChainJ.on) (by decide) (fun done vals w hR hJ hdn hd => v_move (t := .pointer _) rfl) ?_
    refine rj_v (EqJ.on ChainJ.on) (by decide) (fun done vals w hR hJ hdn hd => v_nilCheck (hd 8 rfl)) ?_
    refine rj_v (EqJ.on ChainJ.on) (by decide) (fun done vals w hR hJ hdn hd => v_fieldAddr (off := 0) (ft := 41) (by kernel_rfl) (hd 9 rfl)) ?_
    refine rj_v (EqJ.on ChainJ.on) (by decide) (fun done vals w hR hJ hdn hd => v_load (by kernel_rfl) (hd 10 rfl) (by first | exact (HB4.keep hR (by intro h; have he0 := h; (try dsimp only at h); (try simp only [Value.ownBlock, Option.some.injEq] at h); first | omega | (have he := he0; first | (have := hi.2; omega) | (have := hG _ hi.1; omega) | (rcases hi with hi | hi; omega; (have := hG _ hi.1; omega))))).pv 0 _ rfl | exact (HB2.keep hR (by intro h; have he0 := h; (try dsimp only at h); (try simp only [Value.ownBlock, Option.some.injEq] at h); first | omega | (have he := he0; first | (have := hi.2; omega) | (have := hG _ hi.1; omega) | (rcases hi with hi | hi; omega; (have := hG _ hi.1; omega))))).pv 0 _ rfl | exact (HB1.keep hR (by intro h; have he0 := h; (try dsimp only at h); (try simp only [Value.ownBlock, Option.some.injEq] at h); first | omega | (have he := he0; first | (have := hi.2; omega) | (have := hG _ hi.1; omega) | (rcases hi with hi | hi; omega; (have := hG _ hi.1; omega))))).pv 0 _ rfl | assumption)) ?_
    refine rj_v (EqJ.on ChainJ.on) (by decide) (fun done vals w hR hJ hdn hd => v_move (t := .int _ _) rfl) ?_
    refine rj_v (EqJ.on ChainJ.on) (by decide) (fun done vals w hR hJ hdn hd => v_add (hd 12 rfl) rfl (by first | exact wr_i64 (by omega) (by omega) | rfl)) ?_
    refine rj_v (EqJ.on ChainJ.on) (by decide) (fun done vals w hR hJ hdn hd => v_slice (et := 26) (sz := 11) (l := n + 1) (h := ms.length) (by kernel_rfl) (by kernel_rfl) (hd 11 rfl) ⟨.i64, ((hd 13 rfl)).trans (congrArg (Value.int _) (by omega))⟩ rfl (by omega) (by omega)) ?_
    refine rj_d (fun done vals w hR hcl hdk hJ hdn hd => by
        have zs_R := hR.size
        obtain ⟨hacc, hown, hsrc⟩ := hJ.1.at (n := 1) rfl hdk (fun m h => ⟨7, by cases h; rfl, hdn 7 rfl⟩)
        exact to_append (et := 26) (bytes := 120) (by kernel_rfl) rfl hacc (hd 14 rfl) ((HS1.keep hR (by first | exact fun h => h | (intro h; have he0 := h; have h := h; (try dsimp only at h); (try simp only [Value.ownBlock, Option.some.injEq] at h); (try simp only [add_block] at h); (try simp only [add_block] at he0); first | omega) | (intro i _ hi he; have he0 := he; have hi := hi; have he := he; (try dsimp only [NoK, AllB] at hi he); (try simp only [Value.ownBlock, Option.some.injEq] at he); first | exact hi.elim | exact he.elim | omega | (rcases hi with hi | hi <;> omega) | (rcases he with he | he <;> omega)))).sub (l := n + 1) (h := ms.length) (by omega) (by omega)) (fun cs x h => Ty.mono _ h (fun b _ h => ⟨h, fun ho => (hown b ho).elim (fun h' => by cases h') (fun h' => by have := h.2; omega)⟩)) (by (simp; omega)) (by simp only [maxLen]; (simp; omega)) (by omega) (fun a n cc w1 o hn kk ho _ => ⟨kk.mono (fun b _ h => (hown b h).resolve_left (fun h => by cases h)), hJ.step hdk (by decide) (hJ.1.app (n := 1) rfl hdk (fun m h => ⟨7, by cases h; rfl, hdn 7 rfl⟩) rfl (once_as (by decide)) (ps_ne (by decide)) o kk ho)⟩)) ?_
    refine rj_nil (fun vals w103 k103 J103 => ?_)
    rintro _ _ rfl _ _ rfl _ _ rfl _ _ rfl _ _ rfl _ _ rfl _ _ rfl _ rfl - _ _ rfl _ _ rfl _ _ rfl _ _ rfl _ _ rfl _ _ rfl _ _ rfl v41 hv41 -
    have zs_k103 := k103.size
    have HO41 : OwV (tMs) (26) w103 (w102.heap.size) (fun b => G b ∧ b < n0) v41 (ms.take n ++ (ms.take ms.length).drop (n + 1)) := by
      have h := J103.1.fin (by exact Nat.le_refl _)
      have h2 : [] ++ ([ms.take n, (ms.take ms.length).drop (n + 1)]).flatten = ms.take n ++ (ms.take ms.length).drop (n + 1) := by simp
      rw [h2] at h; rw [hv41]; exact h
    clear hv41
    obtain ⟨a41, c41, rfl⟩ := HO41.shape
    have zo_HO41 := fun (b : Nat) h => HO41.own_lt (b := b) h
    replace E := E.step k103 (by intro i hi he; have he0 := he; (try dsimp only [NoK] at hi he ⊢); (try simp only [Value.ownBlock, Option.some.injEq] at he); first | exact he.elim | omega | exact he | (first | (have := hi.2; omega) | (have := hG _ hi.1; omega) | (rcases hi with hi | hi; omega; (have := hG _ hi.1; omega))))
    replace HB1 := HB1.keep k103 (by intro h; have he0 := h; (try dsimp only at h); (try simp only [Value.ownBlock, Option.some.injEq] at h); first | omega | (have he := he0; first | (have := hi.2; omega) | (have := hG _ hi.1; omega) | (rcases hi with hi | hi; omega; (have := hG _ hi.1; omega))))
    replace HB2 := HB2.keep k103 (by intro h; have he0 := h; (try dsimp only at h); (try simp only [Value.ownBlock, Option.some.injEq] at h); first | omega | (have he := he0; first | (have := hi.2; omega) | (have := hG _ hi.1; omega) | (rcases hi with hi | hi; omega; (have := hG _ hi.1; omega))))
    replace HGq := HGq.keep k103 (by intro i _ hi he; have he0 := he; (try dsimp only [NoK, AllB] at hi he); (try simp only [Value.ownBlock, Option.some.injEq] at he); first | exact hi.elim | exact he.elim | omega | (rcases hi with hi | hi <;> omega) | (rcases he with he | he <;> omega) | (first | (have := hi.2; omega) | (have := hG _ hi.1; omega) | (rcases hi with hi | hi; omega; (have := hG _ hi.1; omega))))
    replace HB4 := HB4.keep k103 (by intro h; have he0 := h; (try dsimp only at h); (try simp only [Value.ownBlock, Option.some.injEq] at h); first | omega | (have he := he0; first | (have := hi.2; omega) | (have := hG _ hi.1; omega) | (rcases hi with hi | hi; omega; (have := hG _ hi.1; omega))))
    refine fin_nilJ ?_
    refine n_then ?_
    refine r_cut 2 rfl (by decide +kernel) (by decide +kernel) (by decide +kernel) ?_
    refine wp_regdW (NoK) (by decide +kernel) (by decide +kernel) ?_
    refine rt_v (fun vals w hR hd => v_nilCheck rfl) ?_
    refine rt_v (fun vals w hR hd => v_fieldAddr (off := 0) (ft := 41) (by kernel_rfl) (hd 0 rfl)) ?_
    refine rt_nil (fun w104 e104 => ?_)
    rintro _ rfl _ rfl
    have zs_e104 := e104.size
    replace E := E.trans (Ext.keep e104)
    replace HB1 := HB1.ext e104
    replace HB2 := HB2.ext e104
    replace HGq := HGq.ext e104
    replace HB4 := HB4.ext e104
    replace HO41 := HO41.ext e104
    refine fin_nil ?_
    refine n_then ?_
    refine r_one (by decide +kernel) rfl ?_
    refine l_to (to_store rfl rfl (show _ = (Value.slice _ _ _) from rfl) rfl (by kernel_rfl) HB1 (by simp) ?_)
    rintro w31 HB1 k31 z31
    have zs_k31 := k31.size
    try simp only [List.set_cons_zero, List.set_cons_succ] at HB1
    replace E := E.step k31 (by intro i hi he; have he0 := he; (try dsimp only [NoK] at hi he ⊢); (try simp only [Value.ownBlock, Option.some.injEq] at he); first | exact he.elim | omega | exact he | (first | (have := hi.2; omega) | (have := hG _ hi.1; omega) | (rcases hi with hi | hi; omega; (have := hG _ hi.1; omega))))
    replace HB2 := HB2.keep k31 (by intro h; have he0 := h; (try dsimp only at h); (try simp only [Value.ownBlock, Option.some.injEq] at h); first | omega | (have he := he0; first | (have := hi.2; omega) | (have := hG _ hi.1; omega) | (rcases hi with hi | hi; omega; (have := hG _ hi.1; omega))))
    replace HGq := HGq.keep k31 (by intro i _ hi he; have he0 := he; (try dsimp only [NoK, AllB] at hi he); (try simp only [Value.ownBlock, Option.some.injEq] at he); first | exact hi.elim | exact he.elim | omega | (rcases hi with hi | hi <;> omega) | (rcases he with he | he <;> omega) | (first | (have := hi.2; omega) | (have := hG _ hi.1; omega) | (rcases hi with hi | hi; omega; (have := hG _ hi.1; omega))))
    replace HB4 := HB4.keep k31 (by intro h; have he0 := h; (try dsimp only at h); (try simp only [Value.ownBlock, Option.some.injEq] at h); first | omega | (have he := he0; first | (have := hi.2; omega) | (have := hG _ hi.1; omega) | (rcases hi with hi | hi; omega; (have := hG _ hi.1; omega))))
    replace HO41 := HO41.keep k31 (by intro i ho he; have he0 := he; have ho0 := ho; (try dsimp only [NoK] at he); (try simp only [Value.ownBlock, Option.some.injEq, reduceCtorEq] at ho); (try simp only [Value.ownBlock, Option.some.injEq, reduceCtorEq] at he); first | exact he.elim | exact ho.elim | omega | (have := zo_HO41 _ ho0; omega)) (by intro i _ hi _ he; have he0 := he; have hi := hi; have he := he; (try dsimp only [NoK, AllB] at hi he); (try simp only [Value.ownBlock, Option.some.injEq, reduceCtorEq] at he); all_goals first | exact hi.elim | exact hi.1.elim | exact he.elim | omega | (rcases hi with hi | hi <;> omega) | (rcases he with he | he <;> omega) | (first | (have := hi.2; omega) | (have := hG _ hi.1; omega) | (rcases hi with hi | hi; omega; (have := hG _ hi.1; omega))))
    refine l_nil ?_
    refine n_then ?_
    refine c_seq ?_
    refine wp_reg (by decide +kernel) ?_
    refine l_v (v_loadA (by kernel_rfl) rfl (by first | exact HB1.pv | exact HB4.pv | exact HB2.pv | assumption) rfl) ?_
    refine l_to (to_storeA (n := 11) rfl rfl (show _ = (Value.agg _) from rfl) (by kernel_rfl) rfl (by first | (simp [slice_one]; done) | (simp only [List.forall_mem_cons, List.cons_append, List.nil_append]; repeat' (first | exact rfl | apply And.intro | (intro u hu; cases hu; done)))) HB2 (by first | exact of_decide_eq_true rfl | (simp; done) | decide) ?_)
    rintro w105 HX105 k105 z105
    have zs_k105 := k105.size
    replace E := E.step k105 (by intro i hi he; have he0 := he; (try dsimp only [NoK] at hi he ⊢); (try simp only [Value.ownBlock, Option.some.injEq] at he); first | exact he.elim | omega | exact he | (first | (have := hi.2; omega) | (have := hG _ hi.1; omega) | (rcases hi with hi | hi; omega; (have := hG _ hi.1; omega))))
    replace HGq := HGq.keep k105 (by intro i _ hi he; have he0 := he; (try dsimp only [NoK, AllB] at hi he); (try simp only [Value.ownBlock, Option.some.injEq] at he); first | exact hi.elim | exact he.elim | omega | (rcases hi with hi | hi <;> omega) | (rcases he with he | he <;> omega) | (first | (have := hi.2; omega) | (have := hG _ hi.1; omega) | (rcases hi with hi | hi; omega; (have := hG _ hi.1; omega))))
    replace HB4 := HB4.keep k105 (by intro h; have he0 := h; (try dsimp only at h); (try simp only [Value.ownBlock, Option.some.injEq] at h); first | omega | (have he := he0; first | (have := hi.2; omega) | (have := hG _ hi.1; omega) | (rcases hi with hi | hi; omega; (have := hG _ hi.1; omega))))
    replace HO41 := HO41.keep k105 (by intro i ho he; have he0 := he; have ho0 := ho; (try dsimp only [NoK] at he); (try simp only [Value.ownBlock, Option.some.injEq, reduceCtorEq] at ho); (try simp only [Value.ownBlock, Option.some.injEq, reduceCtorEq] at he); first | exact he.elim | exact ho.elim | omega | (have := zo_HO41 _ ho0; omega)) (by intro i _ hi _ he; have he0 := he; have hi := hi; have he := he; (try dsimp only [NoK, AllB] at hi he); (try simp only [Value.ownBlock, Option.some.injEq, reduceCtorEq] at he); all_goals first | exact hi.elim | exact hi.1.elim | exact he.elim | omega | (rcases hi with hi | hi <;> omega) | (rcases he with he | he <;> omega) | (first | (have := hi.2; omega) | (have := hG _ hi.1; omega) | (rcases hi with hi | hi; omega; (have := hG _ hi.1; omega))))
    replace HB1 := HB1.keep k105 (by intro h; have he0 := h; (try dsimp only at h); (try simp only [Value.ownBlock, Option.some.injEq] at h); first | omega | (have he := he0; first | (have := hi.2; omega) | (have := hG _ hi.1; omega) | (rcases hi with hi | hi; omega; (have := hG _ hi.1; omega))))
    replace HB2 := HX105
    clear HX105
    try simp only [List.set_cons_zero, List.set_cons_succ, setAt, List.take_zero, List.take_succ_cons, List.drop_zero, List.drop_succ_cons, List.nil_append, List.cons_append, List.append_nil, List.length_cons, List.length_nil, Nat.zero_add, Nat.reduceAdd, List.drop_nil] at HB2
    refine l_v (v_assign rfl) ?_
    refine l_nil ?_
    refine n_then ?_
    refine c_ret ?_
    refine ret2cv (n := 11) rfl (by decide) (by decide) rfl (by kernel_rfl) HB2.pv rfl (show _ = (Value.bool _) from rfl) ?_
    have hers : ms.take n ++ (ms.take ms.length).drop (n + 1) = ms.eraseIdx n := by rw [List.eraseIdx_eq_take_drop_succ, List.take_length]
    rw [hers] at HO41 HB1
    exact ⟨⟨_, rfl, HGq.mono fun i _ h => h.1⟩, ⟨_, _, HB1, HO41.view.mono fun i _ h => Or.elim h (fun h => .inr (by omega)) (fun h => .inl h.1)⟩, E⟩
theorem refSameWay_c {w : World} {F G : Nat → Prop} {b b2 c c2 : Nat} {a a2 : Option Addr} {ms ns : List Ms} {l l2 : Int} (HB1 : Blk w b [.slice a ms.length c, .int .i64 l] 52) (HS1 : SlV tMs w F (.slice a ms.length c) ms) (HB2 : Blk w b2 [.slice a2 ns.length c2, .int .i64 l2] 52) (HS2 : SlV tMs w G (.slice a2 ns.length c2) ns) : CallsR Try.prog 35 #[.pointer (some ⟨b, 0, none⟩), .pointer (some ⟨b2, 0, none⟩)] w (fun o w' => o = .bool (decide (ms = ns ∧ l = l2)) ∧ Ext w w') := by
  have hmx := HS1.len_max
  have hmx2 := HS2.len_max
  refine enter 53 Try.func35 rfl rfl (by simp) ?_
  refine c_seq ?_
  have E := Keep.refl (K := NoK) w
  replace HS1 := HS1.all
  replace HS2 := HS2.all
  refine wp_reg (by decide +kernel) ?_
  refine l_v (v_assign rfl) ?_
  refine l_nil ?_
  refine n_then ?_
  refine c_seq ?_
  refine c_seq ?_
  refine wp_regd (NoK) (by kernel_rfl) (by decide +kernel) (by decide +kernel) ?_
  refine rt_v (fun vals w hR hd => v_move (t := .pointer _) rfl) ?_
  refine rt_v (fun vals w hR hd => v_nilCheck (hd 0 rfl)) ?_
  refine rt_v (fun vals w hR hd => v_fieldAddr (off := 0) (ft := 41) (by kernel_rfl) (hd 1 rfl)) ?_
  refine rt_v (fun vals w hR hd => v_load (by kernel_rfl) (hd 2 rfl) (by first | exact (HB2.ext hR).pv 0 _ rfl | exact (HB1.ext hR).pv 0 _ rfl | assumption)) ?_
  refine rt_v (fun vals w hR hd => v_len (et := 26) (by kernel_rfl) (hd 3 rfl)) ?_
  refine rt_v (fun vals w hR hd => v_move (t := .pointer _) rfl) ?_
  refine rt_v (fun vals w hR hd => v_nilCheck (hd 5 rfl)) ?_
  refine rt_v (fun vals w hR hd => v_fieldAddr (off := 0) (ft := 41) (by kernel_rfl) (hd 6 rfl)) ?_
  refine rt_v (fun vals w hR hd => v_load (by kernel_rfl) (hd 7 rfl) (by first | exact (HB2.ext hR).pv 0 _ rfl | exact (HB1.ext hR).pv 0 _ rfl | assumption)) ?_
  refine rt_v (fun vals w hR hd => v_len (et := 26) (by kernel_rfl) (hd 8 rfl)) ?_
  refine rt_v (fun vals w hR hd => v_neq (hd 4 rfl) (hd 9 rfl)) ?_
  refine rt_v (fun vals w hR hd => v_move (t := .bool _) (hd 10 rfl)) ?_
  refine rt_g1 rfl (fun vals w hd => hd 11 rfl) (fun vals w hR hd hG => v_move (t := .pointer _) rfl) ?_
  refine rt_g1 rfl (fun vals w hd => hd 11 rfl) (fun vals w hR hd hG => v_nilCheck (gd hG (hd 12 rfl))) ?_
  refine rt_g1 rfl (fun vals w hd => hd 11 rfl) (fun vals w hR hd hG => v_fieldAddr (off := 1) (ft := 3) (by kernel_rfl) (gd hG (hd 13 rfl))) ?_
  refine rt_g1 rfl (fun vals w hd => hd 11 rfl) (fun vals w hR hd hG => v_load (by kernel_rfl) (gd hG (hd 14 rfl)) (by first | exact (HB2.ext hR).pv 1 _ rfl | exact (HB1.ext hR).pv 1 _ rfl | assumption)) ?_
  refine rt_g1 rfl (fun vals w hd => hd 11 rfl) (fun vals w hR hd hG => v_move (t := .pointer _) rfl) ?_
  refine rt_g1 rfl (fun vals w hd => hd 11 rfl) (fun vals w hR hd hG => v_nilCheck (gd hG (hd 16 rfl))) ?_
  refine rt_g1 rfl (fun vals w hd => hd 11 rfl) (fun vals w hR hd hG => v_fieldAddr (off := 1) (ft := 3) (by kernel_rfl) (gd hG (hd 17 rfl))) ?_
  refine rt_g1 rfl (fun vals w hd => hd 11 rfl) (fun vals w hR hd hG => v_load (by kernel_rfl) (gd hG (hd 18 rfl)) (by first | exact (HB2.ext hR).pv 1 _ rfl | exact (HB1.ext hR).pv 1 _ rfl | assumption)) ?_
  refine rt_g1 rfl (fun vals w hd => hd 11 rfl) (fun vals w hR hd hG => v_neq (gd hG (hd 15 rfl)) (gd hG (hd 19 rfl))) ?_
  refine rt_v (fun vals w hR hd => v_or (hd 11 rfl) (hd 20 rfl)) ?_
  refine rt_nil (fun w101 e101 => ?_)
  rintro _ rfl _ rfl _ rfl _ rfl _ rfl _ rfl _ rfl _ rfl _ rfl _ rfl _ rfl _ rfl _ rfl _ rfl _ rfl _ rfl _ rfl _ rfl _ rfl _ rfl _ rfl _ rfl
  have zs_e101 := e101.size
  replace E := E.trans (Ext.keep e101)
  replace HB1 := HB1.ext e101
  replace HS1 := HS1.ext e101
  replace HB2 := HB2.ext e101
  replace HS2 := HS2.ext e101
  refine fin_nil ?_
  refine n_then ?_
  refine c_cond rfl rfl (fun hc => ?_) (fun hc => ?_)
  · skip
    refine c_seq ?_
    refine wp_reg (by decide +kernel) ?_
    refine l_v (v_assign rfl) ?_
    refine l_nil ?_
    refine n_then ?_
    refine c_ret ?_
    refine r_then ?_
    refine ret1v rfl (by decide) (show _ = (Value.bool _) from rfl) ?_
    refine ⟨?_, E⟩
    rw [decide_eq_false]
    rintro ⟨rfl, rfl⟩; simp at hc
  · skip
    obtain ⟨hlen, hll⟩ : ms.length = ns.length ∧ l = l2 := by simp at hc; omega
    refine c_skip ?_
    refine n_then ?_
    refine c_seq ?_
    refine c_seq ?_
    refine wp_reg (by decide +kernel) ?_
    refine l_v (v_assign rfl) ?_
    refine l_nil ?_
    refine n_then ?_
    refine c_block ?_
    refine c_loop (τ := Nat) [4, 5, 28, 29, 30, 31, 32, 33, 34, 35, 36, 37, 38, 39, 40, 41, 42, 43, 44, 45, 46, 47, 48, 49, 50, 51, 52] (fun i => [(5, .int .i64 i)]) (fun i W => Ext w W ∧ Keep (NoK) w101 W ∧ i ≤ ms.length ∧ ms.take i = ns.take i) (fun i => ms.length - i) 0 (by exact ⟨rfl, trivial⟩) (by exact ⟨E, Keep.refl _, Nat.zero_le _, rfl⟩) ?_
    rintro i w102 j ⟨E, EL1, h1, h2⟩
    have zs_EL1 := EL1.size
    replace HB1 := HB1.ext EL1
    replace HS1 := HS1.ext EL1
    replace HB2 := HB2.ext EL1
    replace HS2 := HS2.ext EL1
    refine c_seq ?_
    refine c_seq ?_
    refine wp_reg (by decide +kernel) ?_
    refine l_v (v_move (t := .int _ _) rfl) ?_
    refine l_v (v_move (t := .pointer _) rfl) ?_
    refine l_v (v_nilCheck rfl) ?_
    refine l_v (v_fieldAddr (off := 0) (ft := 41) (by kernel_rfl) rfl) ?_
    refine l_v (v_load (by kernel_rfl) rfl (by first | exact HB2.pv 0 _ rfl | exact HB1.pv 0 _ rfl | assumption)) ?_
    refine l_v (v_len (et := 26) (by kernel_rfl) rfl) ?_
    refine l_v (v_lss rfl rfl) ?_
    refine l_nil ?_
    refine n_then ?_
    refine c_cond rfl rfl (fun hlt => ?_) (fun hlt => ?_)
    · skip
      have hlt := dtrue hlt
      obtain ⟨r, hx, hdr⟩ := getE (l := ms) (i := i) (by omega)
      obtain ⟨s, hy, hds⟩ := getE (l := ns) (i := i) (by omega)
      obtain ⟨q1, cs1, hq1, _, _, HP1, hr1⟩ := HS1.el hx
      obtain ⟨q2, cs2, hq2, _, _, HP2, hr2⟩ := HS2.el hy
      subst hq1 hq2
      have HG5 : AgV tMs _ _ _ r := ⟨cs1, rfl, hr1⟩
      have HG6 : AgV tMs _ _ _ s := ⟨cs2, rfl, hr2⟩
      obtain ⟨b1, d1, b3, d3, rfl, _⟩ := tMs_cells hr1
      obtain ⟨b4, d4, b5, d5, rfl, _⟩ := tMs_cells hr2
      refine c_skip ?_
      refine n_then ?_
      refine c_seq ?_
      refine c_block ?_
      refine c_seq ?_
      refine wp_regd (NoK) (by kernel_rfl) (by decide +kernel) (by decide +kernel) ?_
      refine rt_v (fun vals w hR hd => v_move (t := .pointer _) rfl) ?_
      refine rt_v (fun vals w hR hd => v_nilCheck (hd 0 rfl)) ?_
      refine rt_v (fun vals w hR hd => v_fieldAddr (off := 0) (ft := 41) (by kernel_rfl) (hd 1 rfl)) ?_
      refine rt_v (fun vals w hR hd => v_load (by kernel_rfl) (hd 2 rfl) (by first | exact (HP2.ext hR) 0 _ rfl | exact (HP1.ext hR) 0 _ rfl | exact (HB2.ext hR).pv 0 _ rfl | exact (HB1.ext hR).pv 0 _ rfl | assumption)) ?_
      refine rt_v (fun vals w hR hd => v_move (t := .int _ _) rfl) ?_
      refine rt_v (fun vals w hR hd => v_indexAddr (et := 26) (sz := 11) (k := i) (by kernel_rfl) (by kernel_rfl) (hd 3 rfl) (hd 4 rfl) (by first | rfl | omega) (by omega)) ?_
      refine rt_v (fun vals w hR hd => v_loadA (by kernel_rfl) (hd 5 rfl) (by first | exact (HP2.ext hR) | exact (HP1.ext hR) | exact (HB2.ext hR).pv | exact (HB1.ext hR).pv | assumption) rfl) ?_
      refine rt_v (fun vals w hR hd => v_move (t := .pointer _) rfl) ?_
      refine rt_v (fun vals w hR hd => v_nilCheck (hd 7 rfl)) ?_
      refine rt_v (fun vals w hR hd => v_fieldAddr (off := 0) (ft := 41) (by kernel_rfl) (hd 8 rfl)) ?_
      refine rt_v (fun vals w hR hd => v_load (by kernel_rfl) (hd 9 rfl) (by first | exact (HP2.ext hR) 0 _ rfl | exact (HP1.ext hR) 0 _ rfl | exact (HB2.ext hR).pv 0 _ rfl | exact (HB1.ext hR).pv 0 _ rfl | assumption)) ?_
      refine rt_v (fun vals w hR hd => v_move (t := .int _ _) rfl) ?_
      refine rt_v (fun vals w hR hd => v_indexAddr (et := 26) (sz := 11) (k := i) (by kernel_rfl) (by kernel_rfl) (hd 10 rfl) (hd 11 rfl) (by first | rfl | omega) (by omega)) ?_
      refine rt_v (fun vals w hR hd => v_loadA (by kernel_rfl) (hd 12 rfl) (by first | exact (HP2.ext hR) | exact (HP1.ext hR) | exact (HB2.ext hR).pv | exact (HB1.ext hR).pv | assumption) rfl) ?_
      refine rt_vf (fun vals w hR hd => to_f2 (by kernel_rfl) (hd 6 rfl) (hd 13 rfl) (refSame_c (HG5.ext hR) (HG6.ext hR))) ?_
      refine rt_v (fun vals w hR hd => v_not (hd 14 rfl)) ?_
      refine rt_nil (fun w103 e103 => ?_)
      rintro _ rfl _ rfl _ rfl _ rfl _ rfl _ rfl _ rfl _ rfl _ rfl _ rfl _ rfl _ rfl _ rfl _ rfl _ rfl _ rfl
      have zs_e103 := e103.size
      replace E := E.trans (Ext.keep e103)
      replace HB1 := HB1.ext e103
      replace HS1 := HS1.ext e103
      replace HB2 := HB2.ext e103
      replace HS2 := HS2.ext e103
      replace EL1 := EL1.trans (Ext.keep e103)
      replace HP1 := HP1.ext e103
      replace HP2 := HP2.ext e103
      replace HG5 := HG5.ext e103
      replace HG6 := HG6.ext e103
      refine fin_nil ?_
      refine n_then ?_
      refine c_cond rfl rfl (fun h38 => ?_) (fun h38 => ?_)
      · skip
        refine c_seq ?_
        refine wp_reg (by decide +kernel) ?_
        refine l_v (v_assign rfl) ?_
        refine l_nil ?_
        refine n_then ?_
        refine c_ret ?_
        refine r_blk ?_
        refine r_then ?_
        refine r_then ?_
        refine r_blk ?_
        refine r_then ?_
        refine ret1v rfl (by decide) (show _ = (Value.bool _) from rfl) ?_
        refine ⟨?_, E⟩
        rw [decide_eq_false]
        rintro ⟨h, _⟩; subst h
        rw [hx] at hy; cases hy
        simp at h38
      · skip
        refine c_skip ?_
        refine n_blk ?_
        refine n_then ?_
        refine wp_reg (by decide +kernel) ?_
        refine l_v (v_move (t := .int _ _) rfl) ?_
        refine l_v (v_add rfl rfl (by first | exact wr_i64 (by omega) (by omega) | rfl)) ?_
        refine l_v (v_assign (t := .int _ _) rfl) ?_
        refine l_nil ?_
        refine n_then ?_
        refine ⟨i + 1, _, rfl, by (repeat (first | exact Off.of_over _ _ _ | refine Off.upd ?_ (by decide) _ | refine Off.overs ?_ (by decide) _)), ⟨by first | rfl | exact congrArg (Value.int _) (by omega) | (simp; done), trivial⟩, ⟨E, EL1, ?_⟩, ?_⟩
        · skip
          refine ⟨by omega, ?_⟩
          have hs : r = s := by simpa using h38
          rw [List.take_add_one, List.take_add_one, hx, hy, h2, hs]
        · (dsimp only; omega)
    · skip
      have hlt := dfalse hlt
      refine c_exit ?_
      refine x_then ?_
      refine x_then ?_
      refine x_hit ?_
      refine n_then ?_
      refine c_seq ?_
      refine wp_reg (by decide +kernel) ?_
      refine l_v (v_assign rfl) ?_
      refine l_nil ?_
      refine n_then ?_
      refine c_ret ?_
      refine ret1v rfl (by decide) (show _ = (Value.bool _) from rfl) ?_
      refine ⟨?_, E⟩
      rw [List.take_of_length_le (by omega), List.take_of_length_le (by omega)] at h2
      rw [decide_eq_true ⟨h2, hll⟩]
end Go.Proofs.Ytaidpdjlchnonaa
