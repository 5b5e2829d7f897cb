/- A part of the proof: steps and lemmas for the walks through the given program. -/
import Derived.Test.YtaidpdjlchnonaaNh
namespace Go.Proofs.Ytaidpdjlchnonaa
open Go.Vc
set_option linter.unusedVariables false
set_option linter.unusedSimpArgs false
set_option maxRecDepth 100000

/-- what goes over a way tells its messages -/
def WaySeq (o : Option Addr) (ms : List Ms) (w : World) : Prop := ∀ (W : World) (b4 : Nat) (K : Nat → Prop), Ext w W → Blk W b4 [.pointer o] 39 → ¬ K b4 → (∀ i, K i → w.heap.size ≤ i) →
  SeqY Try.prog 98 #[.pointer (some ⟨b4, 0, none⟩)] (fun x => [.int .i64 (x.1 : Int), .agg x.2.toArray]) (yAll W.heap.size ms) K (fun xs => xs.length = ms.length) (fun _ => True) W
theorem WaySeq.made {w : World} {F : Nat → Prop} {a : Option Addr} {c bw : Nat} {y : Value} {ms : List Ms} (HB1 : Blk w bw [.bool true, .slice a ms.length c, y] 68) (HS1 : SlV tMs w F (.slice a ms.length c) ms) (hmay : ∀ m ∈ ms, mayN m = true) : WaySeq (some ⟨bw, 0, none⟩) ms w := by
  intro W b4 K hx hb hk hK
  have h1 := HB1.lt
  exact All1_seq (HB1.ext hx) (HS1.all.ext hx) hb (fun i h h2 => by have := hK i h2; omega) (fun h => by have := hK _ h; omega) hk hmay
/-- a way that is not there -/
def NoWay (o : Option Addr) (w : World) : Prop := ∀ W, Ext w W → CallsR Try.prog 57 #[.pointer o] W (fun r W' => r = .bool false ∧ Ext W W')
theorem NoWay.ext {o : Option Addr} {w w' : World} (h : NoWay o w) (e : Ext w w') : NoWay o w' := fun W x => h W (e.trans x)
theorem WaySeq.no {w : World} {o : Option Addr} (ht : NoWay o w) : WaySeq o [] w := by
  intro W0 b4 K hx0 hb hk hK
  refine fun l J Jx W hx hz hJ hJx hY h0 => ?_
  refine CallsR.mono (R := fun _ W' => (∃ xs, xs.length = ([] : List Ms).length ∧ J xs W') ∨ ∃ pre, True ∧ Jx pre W') ?_ fun _ _ h => h
  show CallsR _ _ (#[.func (.yield l) #[] #[], .pointer (some ⟨b4, 0, none⟩)]) W _
  refine enter 25 Try.func98 rfl rfl (by simp) ?_
  refine c_seq ?_
  refine c_seq ?_
  refine wp_reg (by decide +kernel) ?_
  refine l_v (v_load (by kernel_rfl) rfl ((hb.ext hx).cell rfl)) ?_
  refine l_to (to_f1 (by kernel_rfl) (show _ = (Value.pointer _) from rfl) (CallsR.mono (ht _ (hx0.trans hx)) ?_))
  rintro _ w1 ⟨rfl, e1⟩
  have zs_e1 := e1.size
  refine l_v (v_not rfl) ?_
  refine l_nil ?_
  refine n_then ?_
  refine c_cond rfl rfl (fun hc => ?_) (fun hc => ?_)
  · skip
    refine c_ret ?_
    refine r_then ?_
    refine ret0 rfl ?_
    exact .inl ⟨[], rfl, hJ _ _ _ e1 h0⟩
  · skip
    cases hc
end Go.Proofs.Ytaidpdjlchnonaa

namespace Go.Proofs.Ytaidpdjlchnonaa
open Go.Vc
set_option linter.unusedVariables false
set_option linter.unusedSimpArgs false
set_option maxRecDepth 100000

set_option maxHeartbeats 4000000 in
theorem once_g {w : World} {o : Option Addr} {ms : List Ms} {F : Nat → Prop} {br c2 : Nat} {a2 : Option Addr} {y : Value} {mo : Int} (hs : WaySeq o ms w) (hlen : ms.length ≤ 1000000) (HBr : Blk w br [.slice a2 ms.length c2, y] 52) (HSr : SlV tMs w F (.slice a2 ms.length c2) ms) : CallsR Try.prog 32 #[.pointer o, .pointer (some ⟨br, 0, none⟩), .int .i64 mo] w (fun r w' => r = .bool true ∧ Ext w w') := by
  have zlr := HBr.lt
  refine enterM 54 Try.func32 rfl rfl (by simp) ?_
  refine c_seq ?_
  have E := Keep.refl (K := NoK) w
  replace HSr := HSr.all
  refine wp_reg (by decide +kernel) ?_
  refine l_to (to_box (show _ = (Value.pointer _) from rfl) ?_)
  rintro b4 w4 zb4 HB4 e4 z4
  have zs_e4 := e4.size
  replace E := E.trans (Ext.keep e4)
  replace HBr := HBr.ext e4
  replace HSr := HSr.ext e4
  try simp only [Value.cells] at HB4
  refine l_to (to_box (show _ = (Value.int _ _) from rfl) ?_)
  rintro b5 w5 zb5 HB5 e5 z5
  have zs_e5 := e5.size
  replace E := E.trans (Ext.keep e5)
  replace HBr := HBr.ext e5
  replace HSr := HSr.ext e5
  replace HB4 := HB4.ext e5
  try simp only [Value.cells] at HB5
  refine l_to (to_alloc (z := (.bool false)) (by unfold kZero; kernel_rfl) ?_)
  rintro b6 w6 zb6 HB6 e6 z6
  have zs_e6 := e6.size
  replace E := E.trans (Ext.keep e6)
  replace HBr := HBr.ext e6
  replace HSr := HSr.ext e6
  replace HB4 := HB4.ext e6
  replace HB5 := HB5.ext e6
  try simp only [Value.cells] at HB6
  refine l_nil ?_
  refine n_then ?_
  refine c_seq ?_
  refine wp_reg (by decide +kernel) ?_
  refine l_to (to_alloc (z := (.int .i64 0)) (by unfold kZero; kernel_rfl) ?_)
  rintro b7 w7 zb7 HB7 e7 z7
  have zs_e7 := e7.size
  replace E := E.trans (Ext.keep e7)
  replace HBr := HBr.ext e7
  replace HSr := HSr.ext e7
  replace HB4 := HB4.ext e7
  replace HB5 := HB5.ext e7
  replace HB6 := HB6.ext e7
  try simp only [Value.cells] at HB7
  refine l_to (to_store rfl rfl (show _ = (Value.int _ _) from rfl) rfl (by kernel_rfl) HB7 (by first | exact of_decide_eq_true rfl | (simp; done) | decide) ?_)
  rintro w101 HX101 k101 z101
  have zs_k101 := k101.size
  replace E := E.step k101 (by intro i hi he; (try dsimp only [NoK] at hi he ⊢); first | exact he.elim | omega | exact he)
  replace HBr := HBr.keep k101 (by intro h; (try dsimp only at h); first | omega)
  replace HSr := HSr.keep k101 (by intro i _ hi he; (try dsimp only [NoK, AllB] at hi he); first | exact hi.elim | exact he.elim | omega | (rcases hi with hi | hi <;> omega) | (rcases he with he | he <;> omega))
  replace HB4 := HB4.keep k101 (by intro h; (try dsimp only at h); first | omega)
  replace HB5 := HB5.keep k101 (by intro h; (try dsimp only at h); first | omega)
  replace HB6 := HB6.keep k101 (by intro h; (try dsimp only at h); first | omega)
  replace HB7 := HX101
  clear HX101
  try simp only [List.set_cons_zero, List.set_cons_succ, setAt, List.take_zero, List.take_succ_cons, List.drop_zero, List.drop_succ_cons, List.nil_append, List.cons_append, List.append_nil, List.length_cons, List.length_nil, Nat.zero_add, Nat.reduceAdd, List.drop_nil] at HB7
  refine l_nil ?_
  refine n_then ?_
  refine c_seq ?_
  refine wp_reg (by decide +kernel) ?_
  refine l_v (v_move (t := .pointer _) rfl) ?_
  refine l_to (to_f1 (by kernel_rfl) (show _ = (Value.pointer _) from rfl) (CallsR.mono (All_c) ?_))
  rintro _ w8 ⟨b8, hb8, rfl, HB8, z8, e8⟩
  have zs_e8 := e8.size
  simp only [Value.cells] at HB8
  replace E := E.trans (Ext.keep e8)
  replace HBr := HBr.ext e8
  replace HSr := HSr.ext e8
  replace HB4 := HB4.ext e8
  replace HB5 := HB5.ext e8
  replace HB6 := HB6.ext e8
  replace HB7 := HB7.ext e8
  refine l_v (v_assign (t := .func _ _ _) rfl) ?_
  refine l_nil ?_
  refine n_then ?_
  refine c_seq ?_
  refine c_seq ?_
  refine wp_reg (by decide +kernel) ?_
  refine l_v (v_move (t := .func _ _ _) rfl) ?_
  refine l_v (v_feqlnil (ps := #[140]) (rs := #[]) (v := false) (by kernel_rfl) rfl rfl) ?_
  refine l_nil ?_
  refine n_then ?_
  refine c_cond rfl rfl (fun hn => ?_) (fun hn => ?_)
  · skip
    cases hn
  · skip
    refine c_skip ?_
    refine n_then ?_
    refine c_seq ?_
    refine c_seq ?_
    refine wp_reg (by decide +kernel) ?_
    refine l_v (v_move (t := .func _ _ _) rfl) ?_
    refine l_nil ?_
    refine n_then ?_
    refine c_block ?_
    refine c_rangeY (N := 54) rfl (show _ = (Value.func _ _ _) from rfl) (by kernel_rfl) (by decide) E (fun x => [.int .i64 (x.1 : Int), .agg x.2.toArray]) (fun _ => rfl) (yAll w8.heap.size ms) (fun xs => xs.length = ms.length) (fun _ => True) (fun i => i = b6 ∨ i = b7) (fun i h => by have h := h; (try dsimp only at h); omega) ((hs _ b8 (fun i => i = b6 ∨ i = b7 ∨ b8 + 1 ≤ i) E HB8 (by omega) (fun i h => by omega)).mono (fun i h => by omega)) (fun pre W => Blk W b7 [.int .i64 (pre.length : Int)] 3 ∧ Blk W b6 [.bool false] 4 ∧ pre.length ≤ ms.length) (fun c pre W => c = .ret ∧ Blk W b6 [.bool true] 4) (fun s W W' t h => ⟨h.1.turn t, h.2.1.turn t, h.2.2⟩) (fun c s W W' t h => ⟨h.1, h.2.turn t⟩) (⟨HB7, HB6, Nat.zero_le _⟩) (fun pre x e1 W => ∃ b10 r, Holds [(4, .pointer (some ⟨b4, 0, none⟩)), (5, .pointer (some ⟨b5, 0, none⟩)), (6, .pointer (some ⟨b6, 0, none⟩)), (7, .pointer (some ⟨b7, 0, none⟩)), (9, .int .i64 (x.1 : Int)), (10, .pointer (some ⟨b10, 0, none⟩))] e1 ∧ Blk W b10 x.2 26 ∧ w8.heap.size + 2 ≤ b10 ∧ x.1 = pre.length ∧ ms[x.1]? = some r ∧ tMs.rep W (fun b => w8.heap.size + 2 ≤ b) x.2 r) (fun pre x e1 W W' t h => by obtain ⟨b10, r, h1, h2, h3, h4, h5, h6⟩ := h; exact ⟨b10, r, h1, h2.turn t.turn, h3, h4, h5, tMs.keep h6 t.keep (fun b _ hb hh => by omega)⟩) ?_ ?_ ?_ ?_
    · skip
      rintro l pre x w102 E EK hY ⟨HB7, HB6, hp1⟩
      have zs_EK102 := EK.size
      have zs_E102 := E.size
      replace HBr := HBr.keep EK (by intro h; (try dsimp only at h); first | omega)
      replace HSr := HSr.keep EK (by intro i _ hi he; (try dsimp only [NoK, AllB] at hi he); first | exact hi.elim | exact he.elim | omega | (rcases hi with hi | hi <;> omega) | (rcases he with he | he <;> omega))
      replace HB4 := HB4.keep EK (by intro h; (try dsimp only at h); first | omega)
      replace HB5 := HB5.keep EK (by intro h; (try dsimp only at h); first | omega)
      obtain ⟨hxn, hzz, r, hxr, hr⟩ := hY
      obtain ⟨a7, c7, a8, c8, hcs, _⟩ := tMs_cells hr
      have EL1 := Keep.refl (K := NoK) w102
      refine c_seq ?_
      refine wp_reg (by decide +kernel) ?_
      refine l_v (v_assign (t := .int _ _) rfl) ?_
      refine l_nil ?_
      refine n_then ?_
      refine wp_reg (by decide +kernel) ?_
      refine l_to (to_alloc (z := (.agg #[.int .i64 0, .int .i64 0, .int .i64 0, .int .i64 0, .int .i64 0, .int .i64 0, .int .i64 0, .int .i64 0, .slice none 0 0, .bool false, .slice none 0 0])) (by unfold kZero; kernel_rfl) ?_)
      rintro b10 w21 zb11 HB10 e21 z21
      have zs_e21 := e21.size
      replace HBr := HBr.ext e21
      replace HSr := HSr.ext e21
      replace HB4 := HB4.ext e21
      replace HB5 := HB5.ext e21
      replace E := E.trans (Ext.keep e21)
      replace HB7 := HB7.ext e21
      replace HB6 := HB6.ext e21
      replace EL1 := EL1.trans (Ext.keep e21)
      try simp only [Value.cells] at HB10
      refine l_to (to_storeA (n := 11) rfl rfl (show _ = (Value.agg _) from rfl) (by kernel_rfl) (tMs.len hr) (tMs.one hr) HB10 (by first | exact of_decide_eq_true rfl | (simp; done) | decide) ?_)
      rintro w22 HB24 k22 z22
      have zs_k22 := k22.size
      rw [show x.2.toArray.toList = x.2 from rfl, setAt_all (by rw [hcs]; rfl)] at HB24
      replace HBr := HBr.keep k22 (by intro h; (try dsimp only at h); first | omega)
      replace HSr := HSr.keep k22 (by intro i _ hi he; (try dsimp only [NoK, AllB] at hi he); first | exact hi.elim | exact he.elim | omega | (rcases hi with hi | hi <;> omega) | (rcases he with he | he <;> omega))
      replace HB4 := HB4.keep k22 (by intro h; (try dsimp only at h); first | omega)
      replace HB5 := HB5.keep k22 (by intro h; (try dsimp only at h); first | omega)
      replace E := E.step k22 (by intro i hi he; (try dsimp only [NoK] at hi he ⊢); first | exact he.elim | omega | exact he)
      replace HB7 := HB7.keep k22 (by intro h; (try dsimp only at h); first | omega)
      replace HB6 := HB6.keep k22 (by intro h; (try dsimp only at h); first | omega)
      replace EL1 := EL1.step k22 (by intro i hi he; (try dsimp only [NoK] at hi he ⊢); first | exact he.elim | omega | exact he)
      refine l_nil ?_
      refine n_then ?_
      exact ⟨_, rfl, EL1, ⟨HB7, HB6, hp1⟩, b10, r, ⟨rfl, rfl, rfl, rfl, rfl, rfl, trivial⟩, HB24, by omega, hxn, hxr, tMs.keep hr EL1 (fun _ _ _ h => h)⟩
    · skip
      rintro l pre x e1 w103 E EK ⟨HB7, HB6, hp1⟩ ⟨b10, r, hh, HB10, hb10, hxn, hxr, hr⟩
      have zs_EK103 := EK.size
      have zs_E103 := E.size
      replace HBr := HBr.keep EK (by intro h; (try dsimp only at h); first | omega)
      replace HSr := HSr.keep EK (by intro i _ hi he; (try dsimp only [NoK, AllB] at hi he); first | exact hi.elim | exact he.elim | omega | (rcases hi with hi | hi <;> omega) | (rcases he with he | he <;> omega))
      replace HB4 := HB4.keep EK (by intro h; (try dsimp only at h); first | omega)
      replace HB5 := HB5.keep EK (by intro h; (try dsimp only at h); first | omega)
      obtain ⟨jj, rfl⟩ : ∃ j, e1 = updL _ j := ⟨_, hh.upd⟩
      have hlt := (List.getElem?_eq_some_iff.1 hxr).1
      obtain ⟨a7, c7, a8, c8, hcs, _⟩ := tMs_cells hr
      obtain ⟨xi, xcs⟩ := x
      simp only at hcs hxr hxn HB10 hr hlt
      subst hcs hxn
      have EL1 := Keep.refl (K := fun i => i = b6 ∨ i = b7) w103
      refine c_block ?_
      refine c_seq ?_
      refine c_seq ?_
      obtain ⟨q, cs, hq, hF, _, HPq, hr2⟩ := HSr.el hxr
      subst hq
      have HG23 : AgV tMs _ _ _ r := ⟨_, rfl, hr⟩
      have HG24 : AgV tMs _ _ _ r := ⟨cs, rfl, hr2⟩
      obtain ⟨d1, d2, d3, d4, rfl, _⟩ := tMs_cells hr2
      refine wp_regd (NoK) (by kernel_rfl) (by decide +kernel) (by decide +kernel) ?_
      refine rt_v (fun vals w hR hd => v_load (by kernel_rfl) rfl (by first | exact pv_1 (HPq.ext hR) | exact (HB10.ext hR).cell rfl | exact (HB10.ext hR).cell rfl | exact (HB6.ext hR).cell rfl | exact (HB7.ext hR).cell rfl | exact (HB5.ext hR).cell rfl | exact (HB4.ext hR).cell rfl | exact (HBr.ext hR).cell rfl | assumption)) ?_
      refine rt_v (fun vals w hR hd => v_load (by kernel_rfl) rfl (by first | exact pv_1 (HPq.ext hR) | exact (HB10.ext hR).cell rfl | exact (HB10.ext hR).cell rfl | exact (HB6.ext hR).cell rfl | exact (HB7.ext hR).cell rfl | exact (HB5.ext hR).cell rfl | exact (HB4.ext hR).cell rfl | exact (HBr.ext hR).cell rfl | assumption)) ?_
      refine rt_v (fun vals w hR hd => v_nilCheck (hd 1 rfl)) ?_
      refine rt_v (fun vals w hR hd => v_fieldAddr (off := 0) (ft := 41) (by kernel_rfl) (hd 2 rfl)) ?_
      refine rt_v (fun vals w hR hd => v_load (by kernel_rfl) (hd 3 rfl) (by first | exact (HPq.ext hR) 0 _ rfl | exact (HB10.ext hR).pv 0 _ rfl | exact (HB10.ext hR).pv 0 _ rfl | exact (HB6.ext hR).pv 0 _ rfl | exact (HB7.ext hR).pv 0 _ rfl | exact (HB5.ext hR).pv 0 _ rfl | exact (HB4.ext hR).pv 0 _ rfl | exact (HBr.ext hR).pv 0 _ rfl | assumption)) ?_
      refine rt_v (fun vals w hR hd => v_len (et := 26) (by kernel_rfl) (hd 4 rfl)) ?_
      refine rt_v (fun vals w hR hd => OpVat.as (b := false) (v_geq (hd 0 rfl) (hd 5 rfl)) (decide_eq_false (by omega))) ?_
      refine rt_v (fun vals w hR hd => v_move (t := .bool _) (hd 6 rfl)) ?_
      refine rt_hv rfl (fun vals w hd => hd 7 rfl) (fun vals w hR hd => v_move (t := .int _ _) rfl) ?_
      refine rt_hv rfl (fun vals w hd => hd 7 rfl) (fun vals w hR hd => v_load (by kernel_rfl) rfl (by first | exact pv_1 (HPq.ext hR) | exact (HB10.ext hR).cell rfl | exact (HB10.ext hR).cell rfl | exact (HB6.ext hR).cell rfl | exact (HB7.ext hR).cell rfl | exact (HB5.ext hR).cell rfl | exact (HB4.ext hR).cell rfl | exact (HBr.ext hR).cell rfl | assumption)) ?_
      refine rt_hv rfl (fun vals w hd => hd 7 rfl) (fun vals w hR hd => OpVat.as (b := false) (v_neq (hd 8 rfl) (hd 9 rfl)) (by simp)) ?_
      refine rt_v (fun vals w hR hd => v_orT (hd 7 rfl) (hd 10 rfl)) ?_
      refine rt_v (fun vals w hR hd => v_move (t := .bool _) (hd 11 rfl)) ?_
      refine rt_hv rfl (fun vals w hd => hd 12 rfl) (fun vals w hR hd => v_loadA (by kernel_rfl) rfl (by first | exact (HPq.ext hR) | exact (HB10.ext hR).pv | exact (HB10.ext hR).pv | exact (HB6.ext hR).pv | exact (HB7.ext hR).pv | exact (HB5.ext hR).pv | exact (HB4.ext hR).pv | exact (HBr.ext hR).pv | assumption) rfl) ?_
      refine rt_hv rfl (fun vals w hd => hd 12 rfl) (fun vals w hR hd => v_load (by kernel_rfl) rfl (by first | exact pv_1 (HPq.ext hR) | exact (HB10.ext hR).cell rfl | exact (HB10.ext hR).cell rfl | exact (HB6.ext hR).cell rfl | exact (HB7.ext hR).cell rfl | exact (HB5.ext hR).cell rfl | exact (HB4.ext hR).cell rfl | exact (HBr.ext hR).cell rfl | assumption)) ?_
      refine rt_hv rfl (fun vals w hd => hd 12 rfl) (fun vals w hR hd => v_nilCheck (hd 14 rfl)) ?_
      refine rt_hv rfl (fun vals w hd => hd 12 rfl) (fun vals w hR hd => v_fieldAddr (off := 0) (ft := 41) (by kernel_rfl) (hd 15 rfl)) ?_
      refine rt_hv rfl (fun vals w hd => hd 12 rfl) (fun vals w hR hd => v_load (by kernel_rfl) (hd 16 rfl) (by first | exact (HPq.ext hR) 0 _ rfl | exact (HB10.ext hR).pv 0 _ rfl | exact (HB10.ext hR).pv 0 _ rfl | exact (HB6.ext hR).pv 0 _ rfl | exact (HB7.ext hR).pv 0 _ rfl | exact (HB5.ext hR).pv 0 _ rfl | exact (HB4.ext hR).pv 0 _ rfl | exact (HBr.ext hR).pv 0 _ rfl | assumption)) ?_
      refine rt_hv rfl (fun vals w hd => hd 12 rfl) (fun vals w hR hd => v_load (by kernel_rfl) rfl (by first | exact pv_1 (HPq.ext hR) | exact (HB10.ext hR).cell rfl | exact (HB10.ext hR).cell rfl | exact (HB6.ext hR).cell rfl | exact (HB7.ext hR).cell rfl | exact (HB5.ext hR).cell rfl | exact (HB4.ext hR).cell rfl | exact (HBr.ext hR).cell rfl | assumption)) ?_
      refine rt_hv rfl (fun vals w hd => hd 12 rfl) (fun vals w hR hd => v_indexAddr (et := 26) (sz := 11) (k := pre.length) (by kernel_rfl) (by kernel_rfl) (hd 17 rfl) (hd 18 rfl) (by first | rfl | omega) (by omega)) ?_
      refine rt_hv rfl (fun vals w hd => hd 12 rfl) (fun vals w hR hd => v_loadA (by kernel_rfl) (hd 19 rfl) (by first | exact (HPq.ext hR) | exact (HB10.ext hR).pv | exact (HB10.ext hR).pv | exact (HB6.ext hR).pv | exact (HB7.ext hR).pv | exact (HB5.ext hR).pv | exact (HB4.ext hR).pv | exact (HBr.ext hR).pv | assumption) rfl) ?_
      refine rt_hvf rfl (fun vals w hd => hd 12 rfl) (fun vals w hR hd => to_f2 (by kernel_rfl) (hd 13 rfl) (hd 20 rfl) (refSame_c (HG23.ext hR) (HG24.ext hR))) ?_
      refine rt_hv rfl (fun vals w hd => hd 12 rfl) (fun vals w hR hd => v_not (hd 21 rfl)) ?_
      refine rt_v (fun vals w hR hd => v_orT (hd 12 rfl) (hd 22 rfl)) ?_
      refine rt_nil (fun w104 e104 => ?_)
      rintro _ rfl _ rfl _ rfl _ rfl _ rfl _ rfl _ rfl _ rfl _ rfl _ rfl _ rfl _ rfl _ rfl _ rfl _ rfl _ rfl _ rfl _ rfl _ rfl _ rfl _ rfl _ rfl _ rfl _ rfl
      have zs_e104 := e104.size
      replace HBr := HBr.ext e104
      replace HSr := HSr.ext e104
      replace HB4 := HB4.ext e104
      replace HB5 := HB5.ext e104
      replace E := E.trans (Ext.keep e104)
      replace HB7 := HB7.ext e104
      replace HB6 := HB6.ext e104
      replace HB10 := HB10.ext e104
      replace EL1 := EL1.trans (Ext.keep e104)
      replace HPq := HPq.ext e104
      replace HG23 := HG23.ext e104
      replace HG24 := HG24.ext e104
      refine fin_nil ?_
      refine n_then ?_
      refine c_cond rfl rfl (fun hq => ?_) (fun hq => ?_)
      · skip
        simp at hq
      · skip
        refine c_skip ?_
        refine n_then ?_
        refine c_seq ?_
        refine wp_reg (by decide +kernel) ?_
        refine l_v (v_load (by kernel_rfl) rfl (by first | exact pv_1 HPq | exact HB10.cell rfl | exact HB10.cell rfl | exact HB6.cell rfl | exact HB7.cell rfl | exact HB5.cell rfl | exact HB4.cell rfl | exact HBr.cell rfl | assumption)) ?_
        refine l_v (v_add rfl rfl (by first | exact wr_i64 (by omega) (by omega) | rfl)) ?_
        refine l_to (to_store rfl rfl (show _ = (Value.int _ _) from rfl) rfl (by kernel_rfl) HB7 (by first | exact of_decide_eq_true rfl | (simp; done) | decide) ?_)
        rintro w105 HX105 k105 z105
        have zs_k105 := k105.size
        replace HBr := HBr.keep k105 (by intro h; (try dsimp only at h); first | omega)
        replace HSr := HSr.keep k105 (by intro i _ hi he; (try dsimp only [NoK, AllB] at hi he); first | exact hi.elim | exact he.elim | omega | (rcases hi with hi | hi <;> omega) | (rcases he with he | he <;> omega))
        replace HB4 := HB4.keep k105 (by intro h; (try dsimp only at h); first | omega)
        replace HB5 := HB5.keep k105 (by intro h; (try dsimp only at h); first | omega)
        replace E := E.step k105 (by intro i hi he; (try dsimp only [NoK] at hi he ⊢); first | exact he.elim | omega | exact he)
        replace HB6 := HB6.keep k105 (by intro h; (try dsimp only at h); first | omega)
        replace HB10 := HB10.keep k105 (by intro h; (try dsimp only at h); first | omega)
        replace EL1 := EL1.step k105 (by intro i hi he; (try dsimp only [NoK] at hi he ⊢); first | exact he.elim | omega | exact he)
        replace HPq := HPq.keep k105 (by intro h; (try dsimp only at h); (try simp only [add_block] at h); first | omega)
        replace HG23 := HG23.keep k105 (by intro i _ hi he; (try dsimp only [NoK, AllB] at hi he); first | exact hi.elim | exact he.elim | omega | (rcases hi with hi | hi <;> omega) | (rcases he with he | he <;> omega))
        replace HG24 := HG24.keep k105 (by intro i _ hi he; (try dsimp only [NoK, AllB] at hi he); first | exact hi.elim | exact he.elim | omega | (rcases hi with hi | hi <;> omega) | (rcases he with he | he <;> omega))
        replace HB7 := HX105
        clear HX105
        try simp only [List.set_cons_zero, List.set_cons_succ, setAt, List.take_zero, List.take_succ_cons, List.drop_zero, List.drop_succ_cons, List.nil_append, List.cons_append, List.append_nil, List.length_cons, List.length_nil, Nat.zero_add, Nat.reduceAdd, List.drop_nil] at HB7
        refine l_nil ?_
        refine n_then ?_
        refine c_seq ?_
        refine wp_reg (by decide +kernel) ?_
        refine l_v (v_load (by kernel_rfl) rfl (by first | exact pv_1 HPq | exact HB10.cell rfl | exact HB10.cell rfl | exact HB6.cell rfl | exact HB7.cell rfl | exact HB5.cell rfl | exact HB4.cell rfl | exact HBr.cell rfl | assumption)) ?_
        refine l_v (v_load (by kernel_rfl) rfl (by first | exact pv_1 HPq | exact HB10.cell rfl | exact HB10.cell rfl | exact HB6.cell rfl | exact HB7.cell rfl | exact HB5.cell rfl | exact HB4.cell rfl | exact HBr.cell rfl | assumption)) ?_
        refine l_v (v_eql rfl rfl) ?_
        refine l_nil ?_
        refine n_then ?_
        refine c_cond rfl rfl (fun hx => ?_) (fun hx => ?_)
        · skip
          refine c_seq ?_
          refine wp_reg (by decide +kernel) ?_
          refine l_to (to_store rfl rfl (show _ = (Value.bool _) from rfl) rfl (by kernel_rfl) HB6 (by first | exact of_decide_eq_true rfl | (simp; done) | decide) ?_)
          rintro w106 HX106 k106 z106
          have zs_k106 := k106.size
          replace HBr := HBr.keep k106 (by intro h; (try dsimp only at h); first | omega)
          replace HSr := HSr.keep k106 (by intro i _ hi he; (try dsimp only [NoK, AllB] at hi he); first | exact hi.elim | exact he.elim | omega | (rcases hi with hi | hi <;> omega) | (rcases he with he | he <;> omega))
          replace HB4 := HB4.keep k106 (by intro h; (try dsimp only at h); first | omega)
          replace HB5 := HB5.keep k106 (by intro h; (try dsimp only at h); first | omega)
          replace E := E.step k106 (by intro i hi he; (try dsimp only [NoK] at hi he ⊢); first | exact he.elim | omega | exact he)
          replace HB7 := HB7.keep k106 (by intro h; (try dsimp only at h); first | omega)
          replace HB10 := HB10.keep k106 (by intro h; (try dsimp only at h); first | omega)
          replace EL1 := EL1.step k106 (by intro i hi he; (try dsimp only [NoK] at hi he ⊢); first | exact he.elim | omega | exact he)
          replace HPq := HPq.keep k106 (by intro h; (try dsimp only at h); (try simp only [add_block] at h); first | omega)
          replace HG23 := HG23.keep k106 (by intro i _ hi he; (try dsimp only [NoK, AllB] at hi he); first | exact hi.elim | exact he.elim | omega | (rcases hi with hi | hi <;> omega) | (rcases he with he | he <;> omega))
          replace HG24 := HG24.keep k106 (by intro i _ hi he; (try dsimp only [NoK, AllB] at hi he); first | exact hi.elim | exact he.elim | omega | (rcases hi with hi | hi <;> omega) | (rcases he with he | he <;> omega))
          replace HB6 := HX106
          clear HX106
          try simp only [List.set_cons_zero, List.set_cons_succ, setAt, List.take_zero, List.take_succ_cons, List.drop_zero, List.drop_succ_cons, List.nil_append, List.cons_append, List.append_nil, List.length_cons, List.length_nil, Nat.zero_add, Nat.reduceAdd, List.drop_nil] at HB6
          refine l_nil ?_
          refine n_then ?_
          refine c_ret ?_
          refine r_blk ?_
          refine ⟨EL1, ?_⟩
          exact ⟨rfl, HB6⟩
        · skip
          refine c_skip ?_
          refine n_blk ?_
          refine ⟨EL1, ?_⟩
          exact ⟨by simpa using HB7, HB6, by simp; omega⟩
    · skip
      rintro D xs w107 hD E EK hS ⟨HB7, HB6, hp1⟩ HD
      have zs_EK107 := EK.size
      have zs_E107 := E.size
      replace HBr := HBr.keep EK (by intro h; (try dsimp only at h); first | omega)
      replace HSr := HSr.keep EK (by intro i _ hi he; (try dsimp only [NoK, AllB] at hi he); first | exact hi.elim | exact he.elim | omega | (rcases hi with hi | hi <;> omega) | (rcases he with he | he <;> omega))
      replace HB4 := HB4.keep EK (by intro h; (try dsimp only at h); first | omega)
      replace HB5 := HB5.keep EK (by intro h; (try dsimp only at h); first | omega)
      refine n_blk ?_
      refine n_then ?_
      refine c_seq ?_
      refine wp_any (by kernel_rfl) ?_
      have e108 : Ext w107 { w107 with drawn := w107.drawn + 1 } := Keep.drawn _ _
      generalize hw108 : ({ w107 with drawn := w107.drawn + 1 } : World) = w108 at e108 ⊢
      clear hw108
      have zs_e108 := e108.size
      replace HBr := HBr.ext e108
      replace HSr := HSr.ext e108
      replace HB4 := HB4.ext e108
      replace HB5 := HB5.ext e108
      replace E := E.trans (Ext.keep e108)
      replace HB7 := HB7.ext e108
      replace HB6 := HB6.ext e108
      replace HD := defB_keep HD e108 (fun h => h)
      refine r_cut 7 rfl (by decide +kernel) (by decide +kernel) (by decide +kernel) ?_
      refine wp_regdW (NoK) (by decide +kernel) (by decide +kernel) ?_
      refine rt_v (fun vals w hR hd => v_load (by kernel_rfl) rfl (by first | exact (HB6.ext hR).cell rfl | exact (HB7.ext hR).cell rfl | exact (HB5.ext hR).cell rfl | exact (HB4.ext hR).cell rfl | exact (HBr.ext hR).cell rfl | assumption)) ?_
      refine rt_v (fun vals w hR hd => v_load (by kernel_rfl) rfl (by first | exact (HB6.ext hR).cell rfl | exact (HB7.ext hR).cell rfl | exact (HB5.ext hR).cell rfl | exact (HB4.ext hR).cell rfl | exact (HBr.ext hR).cell rfl | assumption)) ?_
      refine rt_v (fun vals w hR hd => v_nilCheck (hd 1 rfl)) ?_
      refine rt_v (fun vals w hR hd => v_fieldAddr (off := 0) (ft := 41) (by kernel_rfl) (hd 2 rfl)) ?_
      refine rt_v (fun vals w hR hd => v_load (by kernel_rfl) (hd 3 rfl) (by first | exact (HB6.ext hR).pv 0 _ rfl | exact (HB7.ext hR).pv 0 _ rfl | exact (HB5.ext hR).pv 0 _ rfl | exact (HB4.ext hR).pv 0 _ rfl | exact (HBr.ext hR).pv 0 _ rfl | assumption)) ?_
      refine rt_v (fun vals w hR hd => v_len (et := 26) (by kernel_rfl) (hd 4 rfl)) ?_
      refine rt_v (fun vals w hR hd => v_eql (hd 0 rfl) (hd 5 rfl)) ?_
      refine rt_nil (fun w109 e109 => ?_)
      rintro _ rfl _ rfl _ rfl _ rfl _ rfl _ rfl _ rfl
      have zs_e109 := e109.size
      replace HBr := HBr.ext e109
      replace HSr := HSr.ext e109
      replace HB4 := HB4.ext e109
      replace HB5 := HB5.ext e109
      replace E := E.trans (Ext.keep e109)
      replace HB7 := HB7.ext e109
      replace HB6 := HB6.ext e109
      replace HD := defB_keep HD e109 (fun h => h)
      refine fin_nil ?_
      refine n_then ?_
      refine r_one (by decide +kernel) rfl ?_
      refine l_to (to_store rfl rfl (show _ = (Value.bool _) from rfl) rfl (by kernel_rfl) HB6 (by first | exact of_decide_eq_true rfl | (simp; done) | decide) ?_)
      rintro w110 HX110 k110 z110
      have zs_k110 := k110.size
      replace HBr := HBr.keep k110 (by intro h; (try dsimp only at h); first | omega)
      replace HSr := HSr.keep k110 (by intro i _ hi he; (try dsimp only [NoK, AllB] at hi he); first | exact hi.elim | exact he.elim | omega | (rcases hi with hi | hi <;> omega) | (rcases he with he | he <;> omega))
      replace HB4 := HB4.keep k110 (by intro h; (try dsimp only at h); first | omega)
      replace HB5 := HB5.keep k110 (by intro h; (try dsimp only at h); first | omega)
      replace E := E.step k110 (by intro i hi he; (try dsimp only [NoK] at hi he ⊢); first | exact he.elim | omega | exact he)
      replace HB7 := HB7.keep k110 (by intro h; (try dsimp only at h); first | omega)
      replace HD := defB_keep HD k110 (by intro h; have h := h; (try dsimp only at h); omega)
      replace HB6 := HX110
      clear HX110
      try simp only [List.set_cons_zero, List.set_cons_succ, setAt, List.take_zero, List.take_succ_cons, List.drop_zero, List.drop_succ_cons, List.nil_append, List.cons_append, List.append_nil, List.length_cons, List.length_nil, Nat.zero_add, Nat.reduceAdd, List.drop_nil] at HB6
      refine l_nil ?_
      refine n_then ?_
      refine c_ret ?_
      refine retM1s HD rfl (by decide) rfl (by kernel_rfl) (HB6.cell rfl) ?_
      have E := keep_put E (by omega : w.heap.size ≤ D) (.deferred none)
      refine ⟨?_, E⟩
      rw [hS]; simp
    · skip
      rintro D _ pre w111 hD E EK hpre ⟨rfl, HB6⟩ HD
      have zs_EK111 := EK.size
      have zs_E111 := E.size
      replace HBr := HBr.keep EK (by intro h; (try dsimp only at h); first | omega)
      replace HSr := HSr.keep EK (by intro i _ hi he; (try dsimp only [NoK, AllB] at hi he); first | exact hi.elim | exact he.elim | omega | (rcases hi with hi | hi <;> omega) | (rcases he with he | he <;> omega))
      replace HB4 := HB4.keep EK (by intro h; (try dsimp only at h); first | omega)
      replace HB5 := HB5.keep EK (by intro h; (try dsimp only at h); first | omega)
      refine c_ret ?_
      refine r_blk ?_
      refine r_then ?_
      refine retM1s HD rfl (by decide) rfl (by kernel_rfl) (HB6.cell rfl) ?_
      have E := keep_put E (by omega : w.heap.size ≤ D) (.deferred none)
      exact ⟨rfl, E⟩
end Go.Proofs.Ytaidpdjlchnonaa
