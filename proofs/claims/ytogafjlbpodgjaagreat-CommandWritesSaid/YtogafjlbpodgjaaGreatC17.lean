/- A part of the proof: steps and lemmas for the walks through the given program. -/
import Derived.Test.YtogafjlbpodgjaaGreatC16
namespace Go.Proofs.YtogafjlbpodgjaaGreat
open Go.Vc
set_option linter.unusedVariables false
set_option linter.unusedSimpArgs false
set_option maxRecDepth 100000

theorem rdAll_rest {l r : List UInt8} {c : CmV} (h : rdCm l.length l = some (c, r)) (hz : ¬ r = []) : rdAll l = none := by
  rw [rdAll, h]
  cases r with
  | nil => exact absurd rfl hz
  | cons => rfl
def ReadR (l : List UInt8) (w : World) : Value → World → Prop := fun o w' => (∃ u c e, o = .tuple #[u, .int .i64 e] ∧ AgV tCmF w' (fun i => w.heap.size ≤ i) u c ∧ ((e = 0 ∧ rdAll l = some c) ∨ (e = 4 ∧ c = cmZ ∧ rdAll l = none))) ∧ Ext w w'
theorem read_no {w W : World} {l : List UInt8} {b2 b3 : Nat} {cs2 : List Value} {e0 : Value} {e : Nat → Value} (he2 : e 2 = .pointer (some ⟨b2, 0, none⟩)) (he3 : e 3 = .pointer (some ⟨b3, 0, none⟩)) (HB2 : Blk W b2 cs2 33) (hl2 : cs2.length = 20) (HB3 : Blk W b3 [e0] 36)
    (hne : b2 ≠ b3) (h2 : w.heap.size ≤ b2) (h3 : w.heap.size ≤ b3) (E : Ext w W) (hn : rdAll l = none) :
    bodyPostDIn (Fw none) 0 Tryz.prog Tryz.f11 (Ret (ReadR l w)) (.panic nonE) (FrD 81 e [{ target := .fn (.func 33) #[.pointer (some ⟨b2, 0, none⟩), .pointer (some ⟨b3, 0, none⟩)], args := #[] }]) W := by
  refine leave_p (ds := []) zk (rec_p HB2 hl2 HB3 hne) (fun w' hS => ?_)
  obtain ⟨hB2, hB3, hk⟩ := hS
  refine ⟨_, res_2 rfl (by decide) (by decide) he2 he3 zk zk hB2.pv rfl (hB3.cell rfl), ?_⟩
  refine ⟨⟨_, cmZ, 4, rfl, cmZ_agF, .inr ⟨rfl, rfl, hn⟩⟩, E.step hk fun i hi h => by rcases h with h | h <;> omega⟩
theorem read_yes {w W : World} {l : List UInt8} {b2 b3 : Nat} {cs2 : List Value} {c : CmV} {e : Nat → Value} (he2 : e 2 = .pointer (some ⟨b2, 0, none⟩)) (he3 : e 3 = .pointer (some ⟨b3, 0, none⟩)) (HB2 : Blk W b2 cs2 33) (hl2 : cs2.length = 20) (HB3 : Blk W b3 [.int .i64 0] 36)
    (HG : AgV tCmF W (fun i => w.heap.size ≤ i) (.agg cs2.toArray) c) (E : Ext w W) (hy : rdAll l = some c) :
    bodyPostDIn (Fw none) 0 Tryz.prog Tryz.f11 (Ret (ReadR l w)) .ret (FrD 81 e [{ target := .fn (.func 33) #[.pointer (some ⟨b2, 0, none⟩), .pointer (some ⟨b3, 0, none⟩)], args := #[] }]) W := by
  refine leave_r (ds := []) zk rec_r (fun w' hS => ?_)
  refine ⟨_, res_2 rfl (by decide) (by decide) he2 he3 zk zk (HB2.ext hS).pv hl2 ((HB3.ext hS).cell rfl), ?_⟩
  exact ⟨⟨_, c, 0, rfl, HG.ext hS, .inl ⟨rfl, hy⟩⟩, E.trans hS⟩
theorem must_b {w : World} {b : Bool} (hb : b = true) : CallsR Tryz.prog 40 #[.bool b] w (fun o w' => o = .tuple #[] ∧ Ext w w') := by subst hb; exact must_c
theorem must_e {w : World} {b : Bool} (hb : b = false) : CallsP Tryz.prog 40 #[.bool b] w (fun ch w' => ch = nonE ∧ Ext w w') := by subst hb; exact must_d
theorem End_n {w : World} {b : Nat} {F : Nat → Prop} {l : List UInt8} {n : Int} (hr : Rd nRd w b F l) (hn : (if l = [] then 0 else 4) = n) : CallsR Tryz.prog 41 #[.pointer (some ⟨b, 0, none⟩)] w (fun r w' => r = .int .i64 n ∧ Ext w w') := by subst hn; exact End_c hr
set_option maxHeartbeats 16000000 in
theorem CRead_c {w : World} {F : Nat → Prop} {v : Value} {l : List UInt8} (HS1 : Bv w F v l) (hl : l.length ≤ 1000000) : CallsR Tryz.prog 11 #[v] w (ReadR l w) := by
 obtain ⟨a0, c0, rfl⟩ := HS1.shape
 refine enterD 81 Tryz.func11 rfl rfl (by simp) ?_
 refine c_seq ?_
 have E := Keep.refl (K := NoK) w
 replace HS1 := HS1.all
 refine wp_reg zd ?_
 refine l_to (to_alloc (z := (.agg #[.int .i64 0, .int .i64 0, .int .i64 0, .int .i64 0, .slice none 0 0, .slice none 0 0, .slice none 0 0, .slice none 0 0, .bool false, .int .i64 0, .int .i64 0, .slice none 0 0, .slice none 0 0, .bool false, .int .i64 0, .int .i64 0, .slice none 0 0, .slice none 0 0, .slice none 0 0, .int .i64 0])) (by unfold kZero; kernel_rfl) ?_)
 rintro b2 w2 zb2 HB2 e2 z2
 have zs_e2 := e2.size
 replace E := E.trans (Ext.keep e2)
 replace HS1 := HS1.ext e2
 try simp only [Value.cells] at HB2
 refine l_to (to_alloc (z := (.int .i64 0)) (by unfold kZero; kernel_rfl) ?_)
 rintro b3 w3 zb3 HB3 e3 z3
 have zs_e3 := e3.size
 replace E := E.trans (Ext.keep e3)
 replace HS1 := HS1.ext e3
 replace HB2 := HB2.ext e3
 try simp only [Value.cells] at HB3
 refine l_nil ?_
 refine n_then ?_
 refine c_seq ?_
 refine wp_defer2 (by decide) (by decide) (show _ = Value.pointer _ from rfl) (show _ = Value.pointer _ from rfl) ?_
 refine n_then ?_
 refine c_seq ?_
 refine wp_reg zd ?_
 refine l_v (v_move (t := .slice _ _ _) rfl) ?_
 refine l_to (to_f1 zk (zvS rfl) (CallsR.mono (Open_c HS1 (by omega)) ?_))
 rintro _ w4 ⟨b4, rfl, HR, hb4, e4, zb4⟩
 have zs_e4 := e4.size
 replace E := E.trans (Ext.keep e4)
 replace HS1 := HS1.ext e4
 replace HB2 := HB2.ext e4
 replace HB3 := HB3.ext e4
 have hF : ∀ k, (w3.heap.size ≤ k ∧ k < b4) → k < b4 := fun k hk => hk.2
 have hnF : ¬ (w3.heap.size ≤ b4 ∧ b4 < b4) := by omega
 obtain ⟨n4, hn4⟩ : ∃ n, n = w4.heap.size := ⟨_, rfl⟩
 refine l_v (v_assign (t := .pointer _) rfl) ?_
 refine l_nil ?_
 refine n_then ?_
 by_cases h0 : rdSm 10 l = none
 ·
  refine c_seq ?_
  refine wp_reg zd ?_
  refine l_v (v_move (t := .pointer _) rfl) ?_
  refine l_die (die_f2 zk (zvP rfl) (zvI rfl) (CallsP.mono (small_d (most := 10) HR hnF (by decide) (by decide) h0) ?_))
  rintro ch w201 ⟨hch, k201⟩
  have zs_k201 := k201.size
  replace E := E.step k201 dj3
  replace HS1 := HS1.keep k201 dj1
  replace HB2 := HB2.keep k201 dj4
  replace HB3 := HB3.keep k201 dj4
  refine p_then ?_
  subst hch
  exact read_no (by rfl) (by rfl) HB2 (by rfl) HB3 (by omega) (by omega) (by omega) E (by simp [rdAll, rdCm, h0])
 ·
  refine c_seq ?_
  obtain ⟨⟨k, l1⟩, h0⟩ := Option.ne_none_iff_exists'.1 h0
  have bh0 := rdSm_ok h0
  refine wp_reg zd ?_
  refine l_v (v_move (t := .pointer _) rfl) ?_
  refine l_to (to_f2 zk (zvP rfl) (zvI rfl) (CallsR.mono (small_c (most := 10) HR hnF (by decide) (by decide) h0) ?_))
  rintro _ w202 ⟨rfl, HR1, k202⟩
  have zs_k202 := k202.size
  replace E := E.step k202 dj3
  replace HS1 := HS1.keep k202 dj1
  replace HB2 := HB2.keep k202 dj4
  replace HB3 := HB3.keep k202 dj4
  refine l_v (v_fieldAddr (off := 0) (ft := 22) zk rfl) ?_
  refine l_to (to_store rfl rfl (zvI rfl) rfl zk HB2 dj5 ?_)
  rintro w101 HX101 k101 z101
  have zs_k101 := k101.size
  replace E := E.step k101 dj3
  replace HS1 := HS1.keep k101 dj1
  replace HB3 := HB3.keep k101 dj4
  replace HR1 := HR1.keep k101 dj7 (by intro i hi he; have hi0 := hi; have hi := hi; have he := he; (try dsimp only [NoK] at hi he); first | exact he.elim | omega | (have := hF i hi0; omega))
  replace HB2 := HX101
  clear HX101
  try simp only [zS, Nat.zero_add, Nat.reduceAdd, List.drop_nil] at HB2
  refine l_nil ?_
  refine n_then ?_
  refine c_seq ?_
  refine c_seq ?_
  refine wp_reg zd ?_
  refine l_v (v_fieldAddr (off := 0) (ft := 22) zk rfl) ?_
  refine l_v (v_load zk rfl (by first | exact HB3.pv 0 _ rfl | exact HB2.pv 0 _ rfl | assumption)) ?_
  refine l_nil ?_
  refine n_then ?_
  refine c_block ?_
  refine c_seq ?_
  refine wp_reg zd ?_
  refine l_v (v_eql rfl rfl) ?_
  refine l_v (v_assign (t := .bool _) rfl) ?_
  refine l_nil ?_
  refine n_then ?_
  refine c_cond rfl rfl (fun h2 => ?_) (fun h2 => ?_)
  ·
   obtain rfl : k = 2 := by have := dtrue h2; omega
   by_cases h1 : rdSm 4 l1 = none
   ·
    refine c_seq ?_
    refine wp_reg zd ?_
    refine l_v (v_move (t := .pointer _) rfl) ?_
    refine l_die (die_f2 zk (zvP rfl) (zvI rfl) (CallsP.mono (small_d (most := 4) HR1 hnF (by decide) (by decide) h1) ?_))
    rintro ch w203 ⟨hch, k203⟩
    have zs_k203 := k203.size
    replace E := E.step k203 dj3
    replace HS1 := HS1.keep k203 dj1
    replace HB2 := HB2.keep k203 dj4
    replace HB3 := HB3.keep k203 dj4
    refine p_then ?_
    refine p_blk ?_
    refine p_then ?_
    subst hch
    exact read_no (by rfl) (by rfl) HB2 (by rfl) HB3 (by omega) (by omega) (by omega) E (by simp [rdAll, rdCm, h0, h1])
   ·
    refine c_seq ?_
    obtain ⟨⟨rc, l2⟩, h1⟩ := Option.ne_none_iff_exists'.1 h1
    have bh1 := rdSm_ok h1
    refine wp_reg zd ?_
    refine l_v (v_move (t := .pointer _) rfl) ?_
    refine l_to (to_f2 zk (zvP rfl) (zvI rfl) (CallsR.mono (small_c (most := 4) HR1 hnF (by decide) (by decide) h1) ?_))
    rintro _ w204 ⟨rfl, HR2, k204⟩
    have zs_k204 := k204.size
    replace E := E.step k204 dj3
    replace HS1 := HS1.keep k204 dj1
    replace HB2 := HB2.keep k204 dj4
    replace HB3 := HB3.keep k204 dj4
    refine l_v (v_fieldAddr (off := 1) (ft := 28) zk rfl) ?_
    refine l_v (v_fieldAddr (off := 0) (ft := 3) zk rfl) ?_
    refine l_to (to_store (i := 1) rfl rfl (zvI rfl) rfl zk HB2 dj5 ?_)
    rintro w102 HX102 k102 z102
    have zs_k102 := k102.size
    try simp only [add_block] at k102
    try simp only [add_block] at HX102
    replace E := E.step k102 dj3
    replace HS1 := HS1.keep k102 dj1
    replace HB3 := HB3.keep k102 dj4
    replace HR2 := HR2.keep k102 dj7 (by intro i hi he; have hi0 := hi; have hi := hi; have he := he; (try dsimp only [NoK] at hi he); first | exact he.elim | omega | (have := hF i hi0; omega))
    replace HB2 := HX102
    clear HX102
    try simp only [zS, Nat.zero_add, Nat.reduceAdd, List.drop_nil] at HB2
    refine l_nil ?_
    refine n_then ?_
    by_cases h3 : rdSm 2147483647 l2 = none
    ·
     refine c_seq ?_
     refine wp_reg zd ?_
     refine l_v (v_move (t := .pointer _) rfl) ?_
     refine l_die (die_f2 zk (zvP rfl) (zvI rfl) (CallsP.mono (small_d (most := 2147483647) HR2 hnF (by decide) (by decide) h3) ?_))
     rintro ch w205 ⟨hch, k205⟩
     have zs_k205 := k205.size
     replace E := E.step k205 dj3
     replace HS1 := HS1.keep k205 dj1
     replace HB2 := HB2.keep k205 dj4
     replace HB3 := HB3.keep k205 dj4
     refine p_then ?_
     refine p_blk ?_
     refine p_then ?_
     subst hch
     exact read_no (by rfl) (by rfl) HB2 (by rfl) HB3 (by omega) (by omega) (by omega) E (by simp [rdAll, rdCm, h0, h1, h3])
    ·
     refine c_seq ?_
     obtain ⟨⟨rn, l3⟩, h3⟩ := Option.ne_none_iff_exists'.1 h3
     have bh3 := rdSm_ok h3
     refine wp_reg zd ?_
     refine l_v (v_move (t := .pointer _) rfl) ?_
     refine l_to (to_f2 zk (zvP rfl) (zvI rfl) (CallsR.mono (small_c (most := 2147483647) HR2 hnF (by decide) (by decide) h3) ?_))
     rintro _ w206 ⟨rfl, HR3, k206⟩
     have zs_k206 := k206.size
     replace E := E.step k206 dj3
     replace HS1 := HS1.keep k206 dj1
     replace HB2 := HB2.keep k206 dj4
     replace HB3 := HB3.keep k206 dj4
     refine l_v (v_fieldAddr (off := 1) (ft := 28) zk rfl) ?_
     refine l_v (v_fieldAddr (off := 1) (ft := 2) zk rfl) ?_
     refine l_to (to_store (i := 2) rfl rfl (zvI rfl) rfl zk HB2 dj5 ?_)
     rintro w103 HX103 k103 z103
     have zs_k103 := k103.size
     try simp only [add_block] at k103
     try simp only [add_block] at HX103
     replace E := E.step k103 dj3
     replace HS1 := HS1.keep k103 dj1
     replace HB3 := HB3.keep k103 dj4
     replace HR3 := HR3.keep k103 dj7 (by intro i hi he; have hi0 := hi; have hi := hi; have he := he; (try dsimp only [NoK] at hi he); first | exact he.elim | omega | (have := hF i hi0; omega))
     replace HB2 := HX103
     clear HX103
     try simp only [zS, Nat.zero_add, Nat.reduceAdd, List.drop_nil] at HB2
     refine l_nil ?_
     refine n_then ?_
     by_cases h4 : rdAk l3 = none
     ·
      refine wp_reg zd ?_
      refine l_v (v_move (t := .pointer _) rfl) ?_
      refine l_die (die_f1 zk (zvP rfl) (CallsP.mono (anAsk_d HR3 hF (by omega) h4) ?_))
      rintro ch w207 ⟨hch, k207⟩
      have zs_k207 := k207.size
      replace E := E.step k207 dj3
      replace HS1 := HS1.keep k207 dj1
      replace HB2 := HB2.keep k207 dj4
      replace HB3 := HB3.keep k207 dj4
      refine p_blk ?_
      refine p_then ?_
      subst hch
      exact read_no (by rfl) (by rfl) HB2 (by rfl) HB3 (by omega) (by omega) (by omega) E (by simp [rdAll, rdCm, h0, h1, h3, h4])
     ·
      obtain ⟨⟨ra, l4⟩, h4⟩ := Option.ne_none_iff_exists'.1 h4
      have bh4 := rdAk_ok h4
      refine wp_reg zd ?_
      refine l_v (v_move (t := .pointer _) rfl) ?_
      refine l_to (to_f1 zk (zvP rfl) (CallsR.mono (anAsk_c HR3 hF (by omega) h4) ?_))
      rintro _ w208 ⟨HG208, HR4, k208⟩
      have zs_k208 := k208.size
      obtain ⟨a208a, c208a, a208b, c208b, a208c, c208c, a208d, c208d, rfl⟩ := HG208.akF
      replace E := E.step k208 dj3
      replace HS1 := HS1.keep k208 dj1
      replace HB2 := HB2.keep k208 dj4
      replace HB3 := HB3.keep k208 dj4
      have HGF : AgV tCmF w208 (fun i => n4 ≤ i) (.agg #[.int .i64 2, .int .i64 rc, .int .i64 rn, .int .i64 ra.1, .slice a208a ra.2.1.length c208a, .slice a208b ra.2.2.1.length c208b, .slice a208c ra.2.2.2.1.length c208c, .slice a208d ra.2.2.2.2.1.length c208d, .bool ra.2.2.2.2.2.1, .int .i64 ra.2.2.2.2.2.2, .int .i64 0, .slice none 0 0, .slice none 0 0, .bool false, .int .i64 0, .int .i64 0, .slice none 0 0, .slice none 0 0, .slice none 0 0, .int .i64 0]) _ := AgV.mkCmF ⟨by decide, by decide⟩ (AgV.mkRqF (HG208.mono fun i _ h => by omega) ⟨by omega, by omega⟩ ⟨by omega, by omega⟩) mv0_ag (SlV.nil _ _ _) (BvF.nil _ _) (BvF.nil _ _) ⟨by decide, by decide⟩
      obtain ⟨cm, hcmq⟩ : ∃ c : CmV, rdCm l.length l = some (c, l4) ∧ AgV tCmF w208 (fun i => n4 ≤ i) (.agg #[.int .i64 2, .int .i64 rc, .int .i64 rn, .int .i64 ra.1, .slice a208a ra.2.1.length c208a, .slice a208b ra.2.2.1.length c208b, .slice a208c ra.2.2.2.1.length c208c, .slice a208d ra.2.2.2.2.1.length c208d, .bool ra.2.2.2.2.2.1, .int .i64 ra.2.2.2.2.2.2, .int .i64 0, .slice none 0 0, .slice none 0 0, .bool false, .int .i64 0, .int .i64 0, .slice none 0 0, .slice none 0 0, .slice none 0 0, .int .i64 0]) c := ⟨_, by simp [rdCm, h0, h1, h3, h4], HGF⟩
      obtain ⟨hcm, HGF⟩ := hcmq
      have HGc := HGF.imp imp_cm
      refine l_v (v_fieldAddr (off := 1) (ft := 28) zk rfl) ?_
      refine l_v (v_fieldAddr (off := 2) (ft := 26) zk rfl) ?_
      refine l_to (to_storeA (n := 7) (i := 3) rfl rfl (zvA rfl) zk rfl dj6 HB2 dj5 ?_)
      rintro w104 HX104 k104 z104
      have zs_k104 := k104.size
      try simp only [add_block] at k104
      try simp only [add_block] at HX104
      replace E := E.step k104 dj3
      replace HS1 := HS1.keep k104 dj1
      replace HB3 := HB3.keep k104 dj4
      replace HG208 := HG208.keep k104 dj1
      replace HR4 := HR4.keep k104 dj7 (by intro i hi he; have hi0 := hi; have hi := hi; have he := he; (try dsimp only [NoK] at hi he); first | exact he.elim | omega | (have := hF i hi0; omega))
      replace HGF := HGF.keep k104 dj1
      replace HGc := HGc.keep k104 dj1
      replace HB2 := HX104
      clear HX104
      try simp only [zS, Nat.zero_add, Nat.reduceAdd, List.drop_nil] at HB2
      refine l_nil ?_
      refine n_blk ?_
      refine n_then ?_
      by_cases hz : l4 = []
      ·
       by_cases hm : mayCm cm = true
       ·
        refine c_seq ?_
        refine wp_reg zd ?_
        refine l_v (v_move (t := .pointer _) rfl) ?_
        refine l_to (to_f1 zk (zvP rfl) (CallsR.mono (End_n (n := 0) HR4 (if_pos hz)) ?_))
        rintro _ w105 ⟨rfl, e105⟩
        have zs_e105 := e105.size
        replace E := E.trans (Ext.keep e105)
        replace HS1 := HS1.ext e105
        replace HB2 := HB2.ext e105
        replace HB3 := HB3.ext e105
        replace HG208 := HG208.ext e105
        replace HR4 := HR4.ext e105
        replace HGF := HGF.ext e105
        replace HGc := HGc.ext e105
        refine l_v (OpVat.as (b := true) (v_eql rfl rfl) (by decide)) ?_
        refine l_v (v_move (t := .bool _) rfl) ?_
        refine l_gt rfl rfl (OpTo.of_v (v_loadA zk rfl (by first | exact HB3.pv | exact HB2.pv | assumption) rfl) ?_)
        refine l_gt rfl rfl (to_f1 zk (zvA rfl) (CallsR.mono (CMay_b (b := true) HGc hm) ?_))
        rintro _ w106 ⟨rfl, e106⟩
        have zs_e106 := e106.size
        replace E := E.trans (Ext.keep e106)
        replace HS1 := HS1.ext e106
        replace HB2 := HB2.ext e106
        replace HB3 := HB3.ext e106
        replace HG208 := HG208.ext e106
        replace HR4 := HR4.ext e106
        replace HGF := HGF.ext e106
        replace HGc := HGc.ext e106
        refine l_v (v_andT rfl rfl) ?_
        refine l_to (to_f1 zk (zvB rfl) (CallsR.mono (must_b (by rfl)) ?_))
        rintro _ w107 ⟨rfl, e107⟩
        have zs_e107 := e107.size
        replace E := E.trans (Ext.keep e107)
        replace HS1 := HS1.ext e107
        replace HB2 := HB2.ext e107
        replace HB3 := HB3.ext e107
        replace HG208 := HG208.ext e107
        replace HR4 := HR4.ext e107
        replace HGF := HGF.ext e107
        replace HGc := HGc.ext e107
        refine l_nil ?_
        refine n_then ?_
        refine c_seq ?_
        refine wp_reg zd ?_
        refine l_v (v_loadA zk rfl (by first | exact HB3.pv | exact HB2.pv | assumption) rfl) ?_
        refine l_to (to_storeA (n := 20) rfl rfl (zvA rfl) zk rfl dj6 HB2 dj5 ?_)
        rintro w108 HX108 k108 z108
        have zs_k108 := k108.size
        replace E := E.step k108 dj3
        replace HS1 := HS1.keep k108 dj1
        replace HB3 := HB3.keep k108 dj4
        replace HG208 := HG208.keep k108 dj1
        replace HR4 := HR4.keep k108 dj7 (by intro i hi he; have hi0 := hi; have hi := hi; have he := he; (try dsimp only [NoK] at hi he); first | exact he.elim | omega | (have := hF i hi0; omega))
        replace HGF := HGF.keep k108 dj1
        replace HGc := HGc.keep k108 dj1
        replace HB2 := HX108
        clear HX108
        try simp only [zS, Nat.zero_add, Nat.reduceAdd, List.drop_nil] at HB2
        refine l_to (to_store rfl rfl (zvI rfl) rfl zk HB3 dj5 ?_)
        rintro w109 HX109 k109 z109
        have zs_k109 := k109.size
        replace E := E.step k109 dj3
        replace HS1 := HS1.keep k109 dj1
        replace HB2 := HB2.keep k109 dj4
        replace HG208 := HG208.keep k109 dj1
        replace HR4 := HR4.keep k109 dj7 (by intro i hi he; have hi0 := hi; have hi := hi; have he := he; (try dsimp only [NoK] at hi he); first | exact he.elim | omega | (have := hF i hi0; omega))
        replace HGF := HGF.keep k109 dj1
        replace HGc := HGc.keep k109 dj1
        replace HB3 := HX109
        clear HX109
        try simp only [zS, Nat.zero_add, Nat.reduceAdd, List.drop_nil] at HB3
        refine l_nil ?_
        refine n_then ?_
        refine c_ret ?_
        exact read_yes (by rfl) (by rfl) HB2 (by rfl) HB3 (HGF.mono fun i _ h => by omega) E (by rw [rdAll, hcm, hz]; exact if_pos hm)
       ·
        refine c_seq ?_
        refine wp_reg zd ?_
        refine l_v (v_move (t := .pointer _) rfl) ?_
        refine l_to (to_f1 zk (zvP rfl) (CallsR.mono (End_n (n := 0) HR4 (if_pos hz)) ?_))
        rintro _ w110 ⟨rfl, e110⟩
        have zs_e110 := e110.size
        replace E := E.trans (Ext.keep e110)
        replace HS1 := HS1.ext e110
        replace HB2 := HB2.ext e110
        replace HB3 := HB3.ext e110
        replace HG208 := HG208.ext e110
        replace HR4 := HR4.ext e110
        replace HGF := HGF.ext e110
        replace HGc := HGc.ext e110
        refine l_v (OpVat.as (b := true) (v_eql rfl rfl) (by decide)) ?_
        refine l_v (v_move (t := .bool _) rfl) ?_
        refine l_gt rfl rfl (OpTo.of_v (v_loadA zk rfl (by first | exact HB3.pv | exact HB2.pv | assumption) rfl) ?_)
        refine l_gt rfl rfl (to_f1 zk (zvA rfl) (CallsR.mono (CMay_b (b := false) HGc (by simpa using hm)) ?_))
        rintro _ w111 ⟨rfl, e111⟩
        have zs_e111 := e111.size
        replace E := E.trans (Ext.keep e111)
        replace HS1 := HS1.ext e111
        replace HB2 := HB2.ext e111
        replace HB3 := HB3.ext e111
        replace HG208 := HG208.ext e111
        replace HR4 := HR4.ext e111
        replace HGF := HGF.ext e111
        replace HGc := HGc.ext e111
        refine l_v (v_andT rfl rfl) ?_
        refine l_die (die_f1 zk (zvB rfl) (CallsP.mono (must_e (by rfl)) ?_))
        rintro ch w209 ⟨hch, e209⟩
        have zs_e209 := e209.size
        replace E := E.trans (Ext.keep e209)
        replace HS1 := HS1.ext e209
        replace HB2 := HB2.ext e209
        replace HB3 := HB3.ext e209
        replace HG208 := HG208.ext e209
        replace HR4 := HR4.ext e209
        replace HGF := HGF.ext e209
        replace HGc := HGc.ext e209
        refine p_then ?_
        subst hch
        exact read_no (by rfl) (by rfl) HB2 (by rfl) HB3 (by omega) (by omega) (by omega) E (by rw [rdAll, hcm, hz]; exact if_neg hm)
      ·
       refine c_seq ?_
       refine wp_reg zd ?_
       refine l_v (v_move (t := .pointer _) rfl) ?_
       refine l_to (to_f1 zk (zvP rfl) (CallsR.mono (End_n (n := 4) HR4 (if_neg hz)) ?_))
       rintro _ w112 ⟨rfl, e112⟩
       have zs_e112 := e112.size
       replace E := E.trans (Ext.keep e112)
       replace HS1 := HS1.ext e112
       replace HB2 := HB2.ext e112
       replace HB3 := HB3.ext e112
       replace HG208 := HG208.ext e112
       replace HR4 := HR4.ext e112
       replace HGF := HGF.ext e112
       replace HGc := HGc.ext e112
       refine l_v (OpVat.as (b := false) (v_eql rfl rfl) (by decide)) ?_
       refine l_v (v_move (t := .bool _) rfl) ?_
       refine l_skip (u := .bool false) rfl rfl rfl ?_
       refine l_skip (u := .bool false) rfl rfl rfl ?_
       refine l_v (v_andC rfl) ?_
       refine l_die (die_f1 zk (zvB rfl) (CallsP.mono (must_e (by rfl)) ?_))
       rintro ch w210 ⟨hch, e210⟩
       have zs_e210 := e210.size
       replace E := E.trans (Ext.keep e210)
       replace HS1 := HS1.ext e210
       replace HB2 := HB2.ext e210
       replace HB3 := HB3.ext e210
       replace HG208 := HG208.ext e210
       replace HR4 := HR4.ext e210
       replace HGF := HGF.ext e210
       replace HGc := HGc.ext e210
       refine p_then ?_
       subst hch
       have hnn : rdAll l = none := rdAll_rest hcm hz
       exact read_no (by rfl) (by rfl) HB2 (by rfl) HB3 (by omega) (by omega) (by omega) E hnn
  ·
   refine c_seq ?_
   refine c_seq ?_
   refine wp_reg zd ?_
   refine l_v (v_eql rfl rfl) ?_
   refine l_v (v_assign (t := .bool _) rfl) ?_
   refine l_nil ?_
   refine n_then ?_
   refine c_cond rfl rfl (fun h3 => ?_) (fun h3 => ?_)
   ·
    refine c_skip ?_
    refine n_then ?_
    refine c_cond rfl rfl (fun hx => ?_) (fun hx => ?_)
    ·
     obtain rfl : k = 3 := by have := dtrue h3; omega
     by_cases g1 : rdMv l1 = none
     ·
      refine wp_reg zd ?_
      refine l_v (v_move (t := .pointer _) rfl) ?_
      refine l_die (die_f1 zk (zvP rfl) (CallsP.mono (aMove_d HR1 hF (by omega) g1) ?_))
      rintro ch w211 ⟨hch, k211⟩
      have zs_k211 := k211.size
      replace E := E.step k211 dj3
      replace HS1 := HS1.keep k211 dj1
      replace HB2 := HB2.keep k211 dj4
      replace HB3 := HB3.keep k211 dj4
      refine p_blk ?_
      refine p_then ?_
      subst hch
      exact read_no (by rfl) (by rfl) HB2 (by rfl) HB3 (by omega) (by omega) (by omega) E (by simp [rdAll, rdCm, h0, g1])
     ·
      obtain ⟨⟨m, l2⟩, g1⟩ := Option.ne_none_iff_exists'.1 g1
      have bg1 := rdMv_ok g1
      refine wp_reg zd ?_
      refine l_v (v_move (t := .pointer _) rfl) ?_
      refine l_to (to_f1 zk (zvP rfl) (CallsR.mono (aMove_c HR1 hF (by omega) g1) ?_))
      rintro _ w212 ⟨HG212, HR2, k212⟩
      have zs_k212 := k212.size
      obtain ⟨a212a, c212a, a212b, c212b, rfl, _⟩ := HG212.mv
      replace E := E.step k212 dj3
      replace HS1 := HS1.keep k212 dj1
      replace HB2 := HB2.keep k212 dj4
      replace HB3 := HB3.keep k212 dj4
      have HGF : AgV tCmF w212 (fun i => n4 ≤ i) (.agg #[.int .i64 3, .int .i64 0, .int .i64 0, .int .i64 0, .slice none 0 0, .slice none 0 0, .slice none 0 0, .slice none 0 0, .bool false, .int .i64 0, .int .i64 m.1, .slice a212a m.2.1.length c212a, .slice a212b m.2.2.1.length c212b, .bool m.2.2.2.1, .int .i64 m.2.2.2.2.1, .int .i64 m.2.2.2.2.2, .slice none 0 0, .slice none 0 0, .slice none 0 0, .int .i64 0]) _ := AgV.mkCmF ⟨by decide, by decide⟩ rq0_agF (HG212.mono fun i _ h => by omega) (SlV.nil _ _ _) (BvF.nil _ _) (BvF.nil _ _) ⟨by decide, by decide⟩
      obtain ⟨cm, hcmq⟩ : ∃ c : CmV, rdCm l.length l = some (c, l2) ∧ AgV tCmF w212 (fun i => n4 ≤ i) (.agg #[.int .i64 3, .int .i64 0, .int .i64 0, .int .i64 0, .slice none 0 0, .slice none 0 0, .slice none 0 0, .slice none 0 0, .bool false, .int .i64 0, .int .i64 m.1, .slice a212a m.2.1.length c212a, .slice a212b m.2.2.1.length c212b, .bool m.2.2.2.1, .int .i64 m.2.2.2.2.1, .int .i64 m.2.2.2.2.2, .slice none 0 0, .slice none 0 0, .slice none 0 0, .int .i64 0]) c := ⟨_, by simp [rdCm, h0, g1], HGF⟩
      obtain ⟨hcm, HGF⟩ := hcmq
      have HGc := HGF.imp imp_cm
      refine l_v (v_fieldAddr (off := 10) (ft := 30) zk rfl) ?_
      refine l_to (to_storeA (n := 6) rfl rfl (zvA rfl) zk rfl dj6 HB2 dj5 ?_)
      rintro w113 HX113 k113 z113
      have zs_k113 := k113.size
      replace E := E.step k113 dj3
      replace HS1 := HS1.keep k113 dj1
      replace HB3 := HB3.keep k113 dj4
      replace HG212 := HG212.keep k113 dj1
      replace HR2 := HR2.keep k113 dj7 (by intro i hi he; have hi0 := hi; have hi := hi; have he := he; (try dsimp only [NoK] at hi he); first | exact he.elim | omega | (have := hF i hi0; omega))
      replace HGF := HGF.keep k113 dj1
      replace HGc := HGc.keep k113 dj1
      replace HB2 := HX113
      clear HX113
      try simp only [zS, Nat.zero_add, Nat.reduceAdd, List.drop_nil] at HB2
      refine l_nil ?_
      refine n_blk ?_
      refine n_then ?_
      by_cases hz : l2 = []
      ·
       by_cases hm : mayCm cm = true
       ·
        refine c_seq ?_
        refine wp_reg zd ?_
        refine l_v (v_move (t := .pointer _) rfl) ?_
        refine l_to (to_f1 zk (zvP rfl) (CallsR.mono (End_n (n := 0) HR2 (if_pos hz)) ?_))
        rintro _ w114 ⟨rfl, e114⟩
        have zs_e114 := e114.size
        replace E := E.trans (Ext.keep e114)
        replace HS1 := HS1.ext e114
        replace HB2 := HB2.ext e114
        replace HB3 := HB3.ext e114
        replace HG212 := HG212.ext e114
        replace HR2 := HR2.ext e114
        replace HGF := HGF.ext e114
        replace HGc := HGc.ext e114
        refine l_v (OpVat.as (b := true) (v_eql rfl rfl) (by decide)) ?_
        refine l_v (v_move (t := .bool _) rfl) ?_
        refine l_gt rfl rfl (OpTo.of_v (v_loadA zk rfl (by first | exact HB3.pv | exact HB2.pv | assumption) rfl) ?_)
        refine l_gt rfl rfl (to_f1 zk (zvA rfl) (CallsR.mono (CMay_b (b := true) HGc hm) ?_))
        rintro _ w115 ⟨rfl, e115⟩
        have zs_e115 := e115.size
        replace E := E.trans (Ext.keep e115)
        replace HS1 := HS1.ext e115
        replace HB2 := HB2.ext e115
        replace HB3 := HB3.ext e115
        replace HG212 := HG212.ext e115
        replace HR2 := HR2.ext e115
        replace HGF := HGF.ext e115
        replace HGc := HGc.ext e115
        refine l_v (v_andT rfl rfl) ?_
        refine l_to (to_f1 zk (zvB rfl) (CallsR.mono (must_b (by rfl)) ?_))
        rintro _ w116 ⟨rfl, e116⟩
        have zs_e116 := e116.size
        replace E := E.trans (Ext.keep e116)
        replace HS1 := HS1.ext e116
        replace HB2 := HB2.ext e116
        replace HB3 := HB3.ext e116
        replace HG212 := HG212.ext e116
        replace HR2 := HR2.ext e116
        replace HGF := HGF.ext e116
        replace HGc := HGc.ext e116
        refine l_nil ?_
        refine n_then ?_
        refine c_seq ?_
        refine wp_reg zd ?_
        refine l_v (v_loadA zk rfl (by first | exact HB3.pv | exact HB2.pv | assumption) rfl) ?_
        refine l_to (to_storeA (n := 20) rfl rfl (zvA rfl) zk rfl dj6 HB2 dj5 ?_)
        rintro w117 HX117 k117 z117
        have zs_k117 := k117.size
        replace E := E.step k117 dj3
        replace HS1 := HS1.keep k117 dj1
        replace HB3 := HB3.keep k117 dj4
        replace HG212 := HG212.keep k117 dj1
        replace HR2 := HR2.keep k117 dj7 (by intro i hi he; have hi0 := hi; have hi := hi; have he := he; (try dsimp only [NoK] at hi he); first | exact he.elim | omega | (have := hF i hi0; omega))
        replace HGF := HGF.keep k117 dj1
        replace HGc := HGc.keep k117 dj1
        replace HB2 := HX117
        clear HX117
        try simp only [zS, Nat.zero_add, Nat.reduceAdd, List.drop_nil] at HB2
        refine l_to (to_store rfl rfl (zvI rfl) rfl zk HB3 dj5 ?_)
        rintro w118 HX118 k118 z118
        have zs_k118 := k118.size
        replace E := E.step k118 dj3
        replace HS1 := HS1.keep k118 dj1
        replace HB2 := HB2.keep k118 dj4
        replace HG212 := HG212.keep k118 dj1
        replace HR2 := HR2.keep k118 dj7 (by intro i hi he; have hi0 := hi; have hi := hi; have he := he; (try dsimp only [NoK] at hi he); first | exact he.elim | omega | (have := hF i hi0; omega))
        replace HGF := HGF.keep k118 dj1
        replace HGc := HGc.keep k118 dj1
        replace HB3 := HX118
        clear HX118
        try simp only [zS, Nat.zero_add, Nat.reduceAdd, List.drop_nil] at HB3
        refine l_nil ?_
        refine n_then ?_
        refine c_ret ?_
        exact read_yes (by rfl) (by rfl) HB2 (by rfl) HB3 (HGF.mono fun i _ h => by omega) E (by rw [rdAll, hcm, hz]; exact if_pos hm)
       ·
        refine c_seq ?_
        refine wp_reg zd ?_
        refine l_v (v_move (t := .pointer _) rfl) ?_
        refine l_to (to_f1 zk (zvP rfl) (CallsR.mono (End_n (n := 0) HR2 (if_pos hz)) ?_))
        rintro _ w119 ⟨rfl, e119⟩
        have zs_e119 := e119.size
        replace E := E.trans (Ext.keep e119)
        replace HS1 := HS1.ext e119
        replace HB2 := HB2.ext e119
        replace HB3 := HB3.ext e119
        replace HG212 := HG212.ext e119
        replace HR2 := HR2.ext e119
        replace HGF := HGF.ext e119
        replace HGc := HGc.ext e119
        refine l_v (OpVat.as (b := true) (v_eql rfl rfl) (by decide)) ?_
        refine l_v (v_move (t := .bool _) rfl) ?_
        refine l_gt rfl rfl (OpTo.of_v (v_loadA zk rfl (by first | exact HB3.pv | exact HB2.pv | assumption) rfl) ?_)
        refine l_gt rfl rfl (to_f1 zk (zvA rfl) (CallsR.mono (CMay_b (b := false) HGc (by simpa using hm)) ?_))
        rintro _ w120 ⟨rfl, e120⟩
        have zs_e120 := e120.size
        replace E := E.trans (Ext.keep e120)
        replace HS1 := HS1.ext e120
        replace HB2 := HB2.ext e120
        replace HB3 := HB3.ext e120
        replace HG212 := HG212.ext e120
        replace HR2 := HR2.ext e120
        replace HGF := HGF.ext e120
        replace HGc := HGc.ext e120
        refine l_v (v_andT rfl rfl) ?_
        refine l_die (die_f1 zk (zvB rfl) (CallsP.mono (must_e (by rfl)) ?_))
        rintro ch w213 ⟨hch, e213⟩
        have zs_e213 := e213.size
        replace E := E.trans (Ext.keep e213)
        replace HS1 := HS1.ext e213
        replace HB2 := HB2.ext e213
        replace HB3 := HB3.ext e213
        replace HG212 := HG212.ext e213
        replace HR2 := HR2.ext e213
        replace HGF := HGF.ext e213
        replace HGc := HGc.ext e213
        refine p_then ?_
        subst hch
        exact read_no (by rfl) (by rfl) HB2 (by rfl) HB3 (by omega) (by omega) (by omega) E (by rw [rdAll, hcm, hz]; exact if_neg hm)
      ·
       refine c_seq ?_
       refine wp_reg zd ?_
       refine l_v (v_move (t := .pointer _) rfl) ?_
       refine l_to (to_f1 zk (zvP rfl) (CallsR.mono (End_n (n := 4) HR2 (if_neg hz)) ?_))
       rintro _ w121 ⟨rfl, e121⟩
       have zs_e121 := e121.size
       replace E := E.trans (Ext.keep e121)
       replace HS1 := HS1.ext e121
       replace HB2 := HB2.ext e121
       replace HB3 := HB3.ext e121
       replace HG212 := HG212.ext e121
       replace HR2 := HR2.ext e121
       replace HGF := HGF.ext e121
       replace HGc := HGc.ext e121
       refine l_v (OpVat.as (b := false) (v_eql rfl rfl) (by decide)) ?_
       refine l_v (v_move (t := .bool _) rfl) ?_
       refine l_skip (u := .bool false) rfl rfl rfl ?_
       refine l_skip (u := .bool false) rfl rfl rfl ?_
       refine l_v (v_andC rfl) ?_
       refine l_die (die_f1 zk (zvB rfl) (CallsP.mono (must_e (by rfl)) ?_))
       rintro ch w214 ⟨hch, e214⟩
       have zs_e214 := e214.size
       replace E := E.trans (Ext.keep e214)
       replace HS1 := HS1.ext e214
       replace HB2 := HB2.ext e214
       replace HB3 := HB3.ext e214
       replace HG212 := HG212.ext e214
       replace HR2 := HR2.ext e214
       replace HGF := HGF.ext e214
       replace HGc := HGc.ext e214
       refine p_then ?_
       subst hch
       have hnn : rdAll l = none := rdAll_rest hcm hz
       exact read_no (by rfl) (by rfl) HB2 (by rfl) HB3 (by omega) (by omega) (by omega) E hnn
    ·
     rw [h3] at hx; cases hx
   ·
    refine c_seq ?_
    refine wp_reg zd ?_
    refine l_v (v_eql rfl rfl) ?_
    refine l_v (v_assign (t := .bool _) rfl) ?_
    refine l_nil ?_
    refine n_then ?_
    refine c_cond rfl rfl (fun h5 => ?_) (fun h5 => ?_)
    ·
     refine c_skip ?_
     refine n_then ?_
     refine c_cond rfl rfl (fun hx => ?_) (fun hx => ?_)
     ·
      obtain rfl : k = 5 := by have := dtrue h5; omega
      by_cases g1 : rdMv l1 = none
      ·
       refine wp_reg zd ?_
       refine l_v (v_move (t := .pointer _) rfl) ?_
       refine l_die (die_f1 zk (zvP rfl) (CallsP.mono (aMove_d HR1 hF (by omega) g1) ?_))
       rintro ch w215 ⟨hch, k215⟩
       have zs_k215 := k215.size
       replace E := E.step k215 dj3
       replace HS1 := HS1.keep k215 dj1
       replace HB2 := HB2.keep k215 dj4
       replace HB3 := HB3.keep k215 dj4
       refine p_blk ?_
       refine p_then ?_
       subst hch
       exact read_no (by rfl) (by rfl) HB2 (by rfl) HB3 (by omega) (by omega) (by omega) E (by simp [rdAll, rdCm, h0, g1])
      ·
       obtain ⟨⟨m, l2⟩, g1⟩ := Option.ne_none_iff_exists'.1 g1
       have bg1 := rdMv_ok g1
       refine wp_reg zd ?_
       refine l_v (v_move (t := .pointer _) rfl) ?_
       refine l_to (to_f1 zk (zvP rfl) (CallsR.mono (aMove_c HR1 hF (by omega) g1) ?_))
       rintro _ w216 ⟨HG216, HR2, k216⟩
       have zs_k216 := k216.size
       obtain ⟨a216a, c216a, a216b, c216b, rfl, _⟩ := HG216.mv
       replace E := E.step k216 dj3
       replace HS1 := HS1.keep k216 dj1
       replace HB2 := HB2.keep k216 dj4
       replace HB3 := HB3.keep k216 dj4
       have HGF : AgV tCmF w216 (fun i => n4 ≤ i) (.agg #[.int .i64 5, .int .i64 0, .int .i64 0, .int .i64 0, .slice none 0 0, .slice none 0 0, .slice none 0 0, .slice none 0 0, .bool false, .int .i64 0, .int .i64 m.1, .slice a216a m.2.1.length c216a, .slice a216b m.2.2.1.length c216b, .bool m.2.2.2.1, .int .i64 m.2.2.2.2.1, .int .i64 m.2.2.2.2.2, .slice none 0 0, .slice none 0 0, .slice none 0 0, .int .i64 0]) _ := AgV.mkCmF ⟨by decide, by decide⟩ rq0_agF (HG216.mono fun i _ h => by omega) (SlV.nil _ _ _) (BvF.nil _ _) (BvF.nil _ _) ⟨by decide, by decide⟩
       obtain ⟨cm, hcmq⟩ : ∃ c : CmV, rdCm l.length l = some (c, l2) ∧ AgV tCmF w216 (fun i => n4 ≤ i) (.agg #[.int .i64 5, .int .i64 0, .int .i64 0, .int .i64 0, .slice none 0 0, .slice none 0 0, .slice none 0 0, .slice none 0 0, .bool false, .int .i64 0, .int .i64 m.1, .slice a216a m.2.1.length c216a, .slice a216b m.2.2.1.length c216b, .bool m.2.2.2.1, .int .i64 m.2.2.2.2.1, .int .i64 m.2.2.2.2.2, .slice none 0 0, .slice none 0 0, .slice none 0 0, .int .i64 0]) c := ⟨_, by simp [rdCm, h0, g1], HGF⟩
       obtain ⟨hcm, HGF⟩ := hcmq
       have HGc := HGF.imp imp_cm
       refine l_v (v_fieldAddr (off := 10) (ft := 30) zk rfl) ?_
       refine l_to (to_storeA (n := 6) rfl rfl (zvA rfl) zk rfl dj6 HB2 dj5 ?_)
       rintro w122 HX122 k122 z122
       have zs_k122 := k122.size
       replace E := E.step k122 dj3
       replace HS1 := HS1.keep k122 dj1
       replace HB3 := HB3.keep k122 dj4
       replace HG216 := HG216.keep k122 dj1
       replace HR2 := HR2.keep k122 dj7 (by intro i hi he; have hi0 := hi; have hi := hi; have he := he; (try dsimp only [NoK] at hi he); first | exact he.elim | omega | (have := hF i hi0; omega))
       replace HGF := HGF.keep k122 dj1
       replace HGc := HGc.keep k122 dj1
       replace HB2 := HX122
       clear HX122
       try simp only [zS, Nat.zero_add, Nat.reduceAdd, List.drop_nil] at HB2
       refine l_nil ?_
       refine n_blk ?_
       refine n_then ?_
       by_cases hz : l2 = []
       ·
        by_cases hm : mayCm cm = true
        ·
         refine c_seq ?_
         refine wp_reg zd ?_
         refine l_v (v_move (t := .pointer _) rfl) ?_
         refine l_to (to_f1 zk (zvP rfl) (CallsR.mono (End_n (n := 0) HR2 (if_pos hz)) ?_))
         rintro _ w123 ⟨rfl, e123⟩
         have zs_e123 := e123.size
         replace E := E.trans (Ext.keep e123)
         replace HS1 := HS1.ext e123
         replace HB2 := HB2.ext e123
         replace HB3 := HB3.ext e123
         replace HG216 := HG216.ext e123
         replace HR2 := HR2.ext e123
         replace HGF := HGF.ext e123
         replace HGc := HGc.ext e123
         refine l_v (OpVat.as (b := true) (v_eql rfl rfl) (by decide)) ?_
         refine l_v (v_move (t := .bool _) rfl) ?_
         refine l_gt rfl rfl (OpTo.of_v (v_loadA zk rfl (by first | exact HB3.pv | exact HB2.pv | assumption) rfl) ?_)
         refine l_gt rfl rfl (to_f1 zk (zvA rfl) (CallsR.mono (CMay_b (b := true) HGc hm) ?_))
         rintro _ w124 ⟨rfl, e124⟩
         have zs_e124 := e124.size
         replace E := E.trans (Ext.keep e124)
         replace HS1 := HS1.ext e124
         replace HB2 := HB2.ext e124
         replace HB3 := HB3.ext e124
         replace HG216 := HG216.ext e124
         replace HR2 := HR2.ext e124
         replace HGF := HGF.ext e124
         replace HGc := HGc.ext e124
         refine l_v (v_andT rfl rfl) ?_
         refine l_to (to_f1 zk (zvB rfl) (CallsR.mono (must_b (by rfl)) ?_))
         rintro _ w125 ⟨rfl, e125⟩
         have zs_e125 := e125.size
         replace E := E.trans (Ext.keep e125)
         replace HS1 := HS1.ext e125
         replace HB2 := HB2.ext e125
         replace HB3 := HB3.ext e125
         replace HG216 := HG216.ext e125
         replace HR2 := HR2.ext e125
         replace HGF := HGF.ext e125
         replace HGc := HGc.ext e125
         refine l_nil ?_
         refine n_then ?_
         refine c_seq ?_
         refine wp_reg zd ?_
         refine l_v (v_loadA zk rfl (by first | exact HB3.pv | exact HB2.pv | assumption) rfl) ?_
         refine l_to (to_storeA (n := 20) rfl rfl (zvA rfl) zk rfl dj6 HB2 dj5 ?_)
         rintro w126 HX126 k126 z126
         have zs_k126 := k126.size
         replace E := E.step k126 dj3
         replace HS1 := HS1.keep k126 dj1
         replace HB3 := HB3.keep k126 dj4
         replace HG216 := HG216.keep k126 dj1
         replace HR2 := HR2.keep k126 dj7 (by intro i hi he; have hi0 := hi; have hi := hi; have he := he; (try dsimp only [NoK] at hi he); first | exact he.elim | omega | (have := hF i hi0; omega))
         replace HGF := HGF.keep k126 dj1
         replace HGc := HGc.keep k126 dj1
         replace HB2 := HX126
         clear HX126
         try simp only [zS, Nat.zero_add, Nat.reduceAdd, List.drop_nil] at HB2
         refine l_to (to_store rfl rfl (zvI rfl) rfl zk HB3 dj5 ?_)
         rintro w127 HX127 k127 z127
         have zs_k127 := k127.size
         replace E := E.step k127 dj3
         replace HS1 := HS1.keep k127 dj1
         replace HB2 := HB2.keep k127 dj4
         replace HG216 := HG216.keep k127 dj1
         replace HR2 := HR2.keep k127 dj7 (by intro i hi he; have hi0 := hi; have hi := hi; have he := he; (try dsimp only [NoK] at hi he); first | exact he.elim | omega | (have := hF i hi0; omega))
         replace HGF := HGF.keep k127 dj1
         replace HGc := HGc.keep k127 dj1
         replace HB3 := HX127
         clear HX127
         try simp only [zS, Nat.zero_add, Nat.reduceAdd, List.drop_nil] at HB3
         refine l_nil ?_
         refine n_then ?_
         refine c_ret ?_
         exact read_yes (by rfl) (by rfl) HB2 (by rfl) HB3 (HGF.mono fun i _ h => by omega) E (by rw [rdAll, hcm, hz]; exact if_pos hm)
        ·
         refine c_seq ?_
         refine wp_reg zd ?_
         refine l_v (v_move (t := .pointer _) rfl) ?_
         refine l_to (to_f1 zk (zvP rfl) (CallsR.mono (End_n (n := 0) HR2 (if_pos hz)) ?_))
         rintro _ w128 ⟨rfl, e128⟩
         have zs_e128 := e128.size
         replace E := E.trans (Ext.keep e128)
         replace HS1 := HS1.ext e128
         replace HB2 := HB2.ext e128
         replace HB3 := HB3.ext e128
         replace HG216 := HG216.ext e128
         replace HR2 := HR2.ext e128
         replace HGF := HGF.ext e128
         replace HGc := HGc.ext e128
         refine l_v (OpVat.as (b := true) (v_eql rfl rfl) (by decide)) ?_
         refine l_v (v_move (t := .bool _) rfl) ?_
         refine l_gt rfl rfl (OpTo.of_v (v_loadA zk rfl (by first | exact HB3.pv | exact HB2.pv | assumption) rfl) ?_)
         refine l_gt rfl rfl (to_f1 zk (zvA rfl) (CallsR.mono (CMay_b (b := false) HGc (by simpa using hm)) ?_))
         rintro _ w129 ⟨rfl, e129⟩
         have zs_e129 := e129.size
         replace E := E.trans (Ext.keep e129)
         replace HS1 := HS1.ext e129
         replace HB2 := HB2.ext e129
         replace HB3 := HB3.ext e129
         replace HG216 := HG216.ext e129
         replace HR2 := HR2.ext e129
         replace HGF := HGF.ext e129
         replace HGc := HGc.ext e129
         refine l_v (v_andT rfl rfl) ?_
         refine l_die (die_f1 zk (zvB rfl) (CallsP.mono (must_e (by rfl)) ?_))
         rintro ch w217 ⟨hch, e217⟩
         have zs_e217 := e217.size
         replace E := E.trans (Ext.keep e217)
         replace HS1 := HS1.ext e217
         replace HB2 := HB2.ext e217
         replace HB3 := HB3.ext e217
         replace HG216 := HG216.ext e217
         replace HR2 := HR2.ext e217
         replace HGF := HGF.ext e217
         replace HGc := HGc.ext e217
         refine p_then ?_
         subst hch
         exact read_no (by rfl) (by rfl) HB2 (by rfl) HB3 (by omega) (by omega) (by omega) E (by rw [rdAll, hcm, hz]; exact if_neg hm)
       ·
        refine c_seq ?_
        refine wp_reg zd ?_
        refine l_v (v_move (t := .pointer _) rfl) ?_
        refine l_to (to_f1 zk (zvP rfl) (CallsR.mono (End_n (n := 4) HR2 (if_neg hz)) ?_))
        rintro _ w130 ⟨rfl, e130⟩
        have zs_e130 := e130.size
        replace E := E.trans (Ext.keep e130)
        replace HS1 := HS1.ext e130
        replace HB2 := HB2.ext e130
        replace HB3 := HB3.ext e130
        replace HG216 := HG216.ext e130
        replace HR2 := HR2.ext e130
        replace HGF := HGF.ext e130
        replace HGc := HGc.ext e130
        refine l_v (OpVat.as (b := false) (v_eql rfl rfl) (by decide)) ?_
        refine l_v (v_move (t := .bool _) rfl) ?_
        refine l_skip (u := .bool false) rfl rfl rfl ?_
        refine l_skip (u := .bool false) rfl rfl rfl ?_
        refine l_v (v_andC rfl) ?_
        refine l_die (die_f1 zk (zvB rfl) (CallsP.mono (must_e (by rfl)) ?_))
        rintro ch w218 ⟨hch, e218⟩
        have zs_e218 := e218.size
        replace E := E.trans (Ext.keep e218)
        replace HS1 := HS1.ext e218
        replace HB2 := HB2.ext e218
        replace HB3 := HB3.ext e218
        replace HG216 := HG216.ext e218
        replace HR2 := HR2.ext e218
        replace HGF := HGF.ext e218
        replace HGc := HGc.ext e218
        refine p_then ?_
        subst hch
        have hnn : rdAll l = none := rdAll_rest hcm hz
        exact read_no (by rfl) (by rfl) HB2 (by rfl) HB3 (by omega) (by omega) (by omega) E hnn
     ·
      rw [h5] at hx; cases hx
    ·
     refine c_seq ?_
     refine wp_reg zd ?_
     refine l_v (v_eql rfl rfl) ?_
     refine l_v (v_assign (t := .bool _) rfl) ?_
     refine l_nil ?_
     refine n_then ?_
     refine c_cond rfl rfl (fun h9 => ?_) (fun h9 => ?_)
     ·
      refine c_skip ?_
      refine n_then ?_
      refine c_cond rfl rfl (fun hx => ?_) (fun hx => ?_)
      ·
       obtain rfl : k = 9 := by have := dtrue h9; omega
       by_cases g1 : rdMv l1 = none
       ·
        refine wp_reg zd ?_
        refine l_v (v_move (t := .pointer _) rfl) ?_
        refine l_die (die_f1 zk (zvP rfl) (CallsP.mono (aMove_d HR1 hF (by omega) g1) ?_))
        rintro ch w219 ⟨hch, k219⟩
        have zs_k219 := k219.size
        replace E := E.step k219 dj3
        replace HS1 := HS1.keep k219 dj1
        replace HB2 := HB2.keep k219 dj4
        replace HB3 := HB3.keep k219 dj4
        refine p_blk ?_
        refine p_then ?_
        subst hch
        exact read_no (by rfl) (by rfl) HB2 (by rfl) HB3 (by omega) (by omega) (by omega) E (by simp [rdAll, rdCm, h0, g1])
       ·
        obtain ⟨⟨m, l2⟩, g1⟩ := Option.ne_none_iff_exists'.1 g1
        have bg1 := rdMv_ok g1
        refine wp_reg zd ?_
        refine l_v (v_move (t := .pointer _) rfl) ?_
        refine l_to (to_f1 zk (zvP rfl) (CallsR.mono (aMove_c HR1 hF (by omega) g1) ?_))
        rintro _ w220 ⟨HG220, HR2, k220⟩
        have zs_k220 := k220.size
        obtain ⟨a220a, c220a, a220b, c220b, rfl, _⟩ := HG220.mv
        replace E := E.step k220 dj3
        replace HS1 := HS1.keep k220 dj1
        replace HB2 := HB2.keep k220 dj4
        replace HB3 := HB3.keep k220 dj4
        have HGF : AgV tCmF w220 (fun i => n4 ≤ i) (.agg #[.int .i64 9, .int .i64 0, .int .i64 0, .int .i64 0, .slice none 0 0, .slice none 0 0, .slice none 0 0, .slice none 0 0, .bool false, .int .i64 0, .int .i64 m.1, .slice a220a m.2.1.length c220a, .slice a220b m.2.2.1.length c220b, .bool m.2.2.2.1, .int .i64 m.2.2.2.2.1, .int .i64 m.2.2.2.2.2, .slice none 0 0, .slice none 0 0, .slice none 0 0, .int .i64 0]) _ := AgV.mkCmF ⟨by decide, by decide⟩ rq0_agF (HG220.mono fun i _ h => by omega) (SlV.nil _ _ _) (BvF.nil _ _) (BvF.nil _ _) ⟨by decide, by decide⟩
        obtain ⟨cm, hcmq⟩ : ∃ c : CmV, rdCm l.length l = some (c, l2) ∧ AgV tCmF w220 (fun i => n4 ≤ i) (.agg #[.int .i64 9, .int .i64 0, .int .i64 0, .int .i64 0, .slice none 0 0, .slice none 0 0, .slice none 0 0, .slice none 0 0, .bool false, .int .i64 0, .int .i64 m.1, .slice a220a m.2.1.length c220a, .slice a220b m.2.2.1.length c220b, .bool m.2.2.2.1, .int .i64 m.2.2.2.2.1, .int .i64 m.2.2.2.2.2, .slice none 0 0, .slice none 0 0, .slice none 0 0, .int .i64 0]) c := ⟨_, by simp [rdCm, h0, g1], HGF⟩
        obtain ⟨hcm, HGF⟩ := hcmq
        have HGc := HGF.imp imp_cm
        refine l_v (v_fieldAddr (off := 10) (ft := 30) zk rfl) ?_
        refine l_to (to_storeA (n := 6) rfl rfl (zvA rfl) zk rfl dj6 HB2 dj5 ?_)
        rintro w131 HX131 k131 z131
        have zs_k131 := k131.size
        replace E := E.step k131 dj3
        replace HS1 := HS1.keep k131 dj1
        replace HB3 := HB3.keep k131 dj4
        replace HG220 := HG220.keep k131 dj1
        replace HR2 := HR2.keep k131 dj7 (by intro i hi he; have hi0 := hi; have hi := hi; have he := he; (try dsimp only [NoK] at hi he); first | exact he.elim | omega | (have := hF i hi0; omega))
        replace HGF := HGF.keep k131 dj1
        replace HGc := HGc.keep k131 dj1
        replace HB2 := HX131
        clear HX131
        try simp only [zS, Nat.zero_add, Nat.reduceAdd, List.drop_nil] at HB2
        refine l_nil ?_
        refine n_blk ?_
        refine n_then ?_
        by_cases hz : l2 = []
        ·
         by_cases hm : mayCm cm = true
         ·
          refine c_seq ?_
          refine wp_reg zd ?_
          refine l_v (v_move (t := .pointer _) rfl) ?_
          refine l_to (to_f1 zk (zvP rfl) (CallsR.mono (End_n (n := 0) HR2 (if_pos hz)) ?_))
          rintro _ w132 ⟨rfl, e132⟩
          have zs_e132 := e132.size
          replace E := E.trans (Ext.keep e132)
          replace HS1 := HS1.ext e132
          replace HB2 := HB2.ext e132
          replace HB3 := HB3.ext e132
          replace HG220 := HG220.ext e132
          replace HR2 := HR2.ext e132
          replace HGF := HGF.ext e132
          replace HGc := HGc.ext e132
          refine l_v (OpVat.as (b := true) (v_eql rfl rfl) (by decide)) ?_
          refine l_v (v_move (t := .bool _) rfl) ?_
          refine l_gt rfl rfl (OpTo.of_v (v_loadA zk rfl (by first | exact HB3.pv | exact HB2.pv | assumption) rfl) ?_)
          refine l_gt rfl rfl (to_f1 zk (zvA rfl) (CallsR.mono (CMay_b (b := true) HGc hm) ?_))
          rintro _ w133 ⟨rfl, e133⟩
          have zs_e133 := e133.size
          replace E := E.trans (Ext.keep e133)
          replace HS1 := HS1.ext e133
          replace HB2 := HB2.ext e133
          replace HB3 := HB3.ext e133
          replace HG220 := HG220.ext e133
          replace HR2 := HR2.ext e133
          replace HGF := HGF.ext e133
          replace HGc := HGc.ext e133
          refine l_v (v_andT rfl rfl) ?_
          refine l_to (to_f1 zk (zvB rfl) (CallsR.mono (must_b (by rfl)) ?_))
          rintro _ w134 ⟨rfl, e134⟩
          have zs_e134 := e134.size
          replace E := E.trans (Ext.keep e134)
          replace HS1 := HS1.ext e134
          replace HB2 := HB2.ext e134
          replace HB3 := HB3.ext e134
          replace HG220 := HG220.ext e134
          replace HR2 := HR2.ext e134
          replace HGF := HGF.ext e134
          replace HGc := HGc.ext e134
          refine l_nil ?_
          refine n_then ?_
          refine c_seq ?_
          refine wp_reg zd ?_
          refine l_v (v_loadA zk rfl (by first | exact HB3.pv | exact HB2.pv | assumption) rfl) ?_
          refine l_to (to_storeA (n := 20) rfl rfl (zvA rfl) zk rfl dj6 HB2 dj5 ?_)
          rintro w135 HX135 k135 z135
          have zs_k135 := k135.size
          replace E := E.step k135 dj3
          replace HS1 := HS1.keep k135 dj1
          replace HB3 := HB3.keep k135 dj4
          replace HG220 := HG220.keep k135 dj1
          replace HR2 := HR2.keep k135 dj7 (by intro i hi he; have hi0 := hi; have hi := hi; have he := he; (try dsimp only [NoK] at hi he); first | exact he.elim | omega | (have := hF i hi0; omega))
          replace HGF := HGF.keep k135 dj1
          replace HGc := HGc.keep k135 dj1
          replace HB2 := HX135
          clear HX135
          try simp only [zS, Nat.zero_add, Nat.reduceAdd, List.drop_nil] at HB2
          refine l_to (to_store rfl rfl (zvI rfl) rfl zk HB3 dj5 ?_)
          rintro w136 HX136 k136 z136
          have zs_k136 := k136.size
          replace E := E.step k136 dj3
          replace HS1 := HS1.keep k136 dj1
          replace HB2 := HB2.keep k136 dj4
          replace HG220 := HG220.keep k136 dj1
          replace HR2 := HR2.keep k136 dj7 (by intro i hi he; have hi0 := hi; have hi := hi; have he := he; (try dsimp only [NoK] at hi he); first | exact he.elim | omega | (have := hF i hi0; omega))
          replace HGF := HGF.keep k136 dj1
          replace HGc := HGc.keep k136 dj1
          replace HB3 := HX136
          clear HX136
          try simp only [zS, Nat.zero_add, Nat.reduceAdd, List.drop_nil] at HB3
          refine l_nil ?_
          refine n_then ?_
          refine c_ret ?_
          exact read_yes (by rfl) (by rfl) HB2 (by rfl) HB3 (HGF.mono fun i _ h => by omega) E (by rw [rdAll, hcm, hz]; exact if_pos hm)
         ·
          refine c_seq ?_
          refine wp_reg zd ?_
          refine l_v (v_move (t := .pointer _) rfl) ?_
          refine l_to (to_f1 zk (zvP rfl) (CallsR.mono (End_n (n := 0) HR2 (if_pos hz)) ?_))
          rintro _ w137 ⟨rfl, e137⟩
          have zs_e137 := e137.size
          replace E := E.trans (Ext.keep e137)
          replace HS1 := HS1.ext e137
          replace HB2 := HB2.ext e137
          replace HB3 := HB3.ext e137
          replace HG220 := HG220.ext e137
          replace HR2 := HR2.ext e137
          replace HGF := HGF.ext e137
          replace HGc := HGc.ext e137
          refine l_v (OpVat.as (b := true) (v_eql rfl rfl) (by decide)) ?_
          refine l_v (v_move (t := .bool _) rfl) ?_
          refine l_gt rfl rfl (OpTo.of_v (v_loadA zk rfl (by first | exact HB3.pv | exact HB2.pv | assumption) rfl) ?_)
          refine l_gt rfl rfl (to_f1 zk (zvA rfl) (CallsR.mono (CMay_b (b := false) HGc (by simpa using hm)) ?_))
          rintro _ w138 ⟨rfl, e138⟩
          have zs_e138 := e138.size
          replace E := E.trans (Ext.keep e138)
          replace HS1 := HS1.ext e138
          replace HB2 := HB2.ext e138
          replace HB3 := HB3.ext e138
          replace HG220 := HG220.ext e138
          replace HR2 := HR2.ext e138
          replace HGF := HGF.ext e138
          replace HGc := HGc.ext e138
          refine l_v (v_andT rfl rfl) ?_
          refine l_die (die_f1 zk (zvB rfl) (CallsP.mono (must_e (by rfl)) ?_))
          rintro ch w221 ⟨hch, e221⟩
          have zs_e221 := e221.size
          replace E := E.trans (Ext.keep e221)
          replace HS1 := HS1.ext e221
          replace HB2 := HB2.ext e221
          replace HB3 := HB3.ext e221
          replace HG220 := HG220.ext e221
          replace HR2 := HR2.ext e221
          replace HGF := HGF.ext e221
          replace HGc := HGc.ext e221
          refine p_then ?_
          subst hch
          exact read_no (by rfl) (by rfl) HB2 (by rfl) HB3 (by omega) (by omega) (by omega) E (by rw [rdAll, hcm, hz]; exact if_neg hm)
        ·
         refine c_seq ?_
         refine wp_reg zd ?_
         refine l_v (v_move (t := .pointer _) rfl) ?_
         refine l_to (to_f1 zk (zvP rfl) (CallsR.mono (End_n (n := 4) HR2 (if_neg hz)) ?_))
         rintro _ w139 ⟨rfl, e139⟩
         have zs_e139 := e139.size
         replace E := E.trans (Ext.keep e139)
         replace HS1 := HS1.ext e139
         replace HB2 := HB2.ext e139
         replace HB3 := HB3.ext e139
         replace HG220 := HG220.ext e139
         replace HR2 := HR2.ext e139
         replace HGF := HGF.ext e139
         replace HGc := HGc.ext e139
         refine l_v (OpVat.as (b := false) (v_eql rfl rfl) (by decide)) ?_
         refine l_v (v_move (t := .bool _) rfl) ?_
         refine l_skip (u := .bool false) rfl rfl rfl ?_
         refine l_skip (u := .bool false) rfl rfl rfl ?_
         refine l_v (v_andC rfl) ?_
         refine l_die (die_f1 zk (zvB rfl) (CallsP.mono (must_e (by rfl)) ?_))
         rintro ch w222 ⟨hch, e222⟩
         have zs_e222 := e222.size
         replace E := E.trans (Ext.keep e222)
         replace HS1 := HS1.ext e222
         replace HB2 := HB2.ext e222
         replace HB3 := HB3.ext e222
         replace HG220 := HG220.ext e222
         replace HR2 := HR2.ext e222
         replace HGF := HGF.ext e222
         replace HGc := HGc.ext e222
         refine p_then ?_
         subst hch
         have hnn : rdAll l = none := rdAll_rest hcm hz
         exact read_no (by rfl) (by rfl) HB2 (by rfl) HB3 (by omega) (by omega) (by omega) E hnn
      ·
       rw [h9] at hx; cases hx
     ·
      refine wp_reg zd ?_
      refine l_v (v_eql rfl rfl) ?_
      refine l_v (v_assign (t := .bool _) rfl) ?_
      refine l_nil ?_
      refine n_then ?_
      refine c_cond rfl rfl (fun h10 => ?_) (fun h10 => ?_)
      ·
       obtain rfl : k = 10 := by have := dtrue h10; omega
       by_cases g1 : rdMv l1 = none
       ·
        refine wp_reg zd ?_
        refine l_v (v_move (t := .pointer _) rfl) ?_
        refine l_die (die_f1 zk (zvP rfl) (CallsP.mono (aMove_d HR1 hF (by omega) g1) ?_))
        rintro ch w223 ⟨hch, k223⟩
        have zs_k223 := k223.size
        replace E := E.step k223 dj3
        replace HS1 := HS1.keep k223 dj1
        replace HB2 := HB2.keep k223 dj4
        replace HB3 := HB3.keep k223 dj4
        refine p_blk ?_
        refine p_then ?_
        subst hch
        exact read_no (by rfl) (by rfl) HB2 (by rfl) HB3 (by omega) (by omega) (by omega) E (by simp [rdAll, rdCm, h0, g1])
       ·
        obtain ⟨⟨m, l2⟩, g1⟩ := Option.ne_none_iff_exists'.1 g1
        have bg1 := rdMv_ok g1
        refine wp_reg zd ?_
        refine l_v (v_move (t := .pointer _) rfl) ?_
        refine l_to (to_f1 zk (zvP rfl) (CallsR.mono (aMove_c HR1 hF (by omega) g1) ?_))
        rintro _ w224 ⟨HG224, HR2, k224⟩
        have zs_k224 := k224.size
        obtain ⟨a224a, c224a, a224b, c224b, rfl, _⟩ := HG224.mv
        replace E := E.step k224 dj3
        replace HS1 := HS1.keep k224 dj1
        replace HB2 := HB2.keep k224 dj4
        replace HB3 := HB3.keep k224 dj4
        have HGF : AgV tCmF w224 (fun i => n4 ≤ i) (.agg #[.int .i64 10, .int .i64 0, .int .i64 0, .int .i64 0, .slice none 0 0, .slice none 0 0, .slice none 0 0, .slice none 0 0, .bool false, .int .i64 0, .int .i64 m.1, .slice a224a m.2.1.length c224a, .slice a224b m.2.2.1.length c224b, .bool m.2.2.2.1, .int .i64 m.2.2.2.2.1, .int .i64 m.2.2.2.2.2, .slice none 0 0, .slice none 0 0, .slice none 0 0, .int .i64 0]) _ := AgV.mkCmF ⟨by decide, by decide⟩ rq0_agF (HG224.mono fun i _ h => by omega) (SlV.nil _ _ _) (BvF.nil _ _) (BvF.nil _ _) ⟨by decide, by decide⟩
        obtain ⟨cm, hcmq⟩ : ∃ c : CmV, rdCm l.length l = some (c, l2) ∧ AgV tCmF w224 (fun i => n4 ≤ i) (.agg #[.int .i64 10, .int .i64 0, .int .i64 0, .int .i64 0, .slice none 0 0, .slice none 0 0, .slice none 0 0, .slice none 0 0, .bool false, .int .i64 0, .int .i64 m.1, .slice a224a m.2.1.length c224a, .slice a224b m.2.2.1.length c224b, .bool m.2.2.2.1, .int .i64 m.2.2.2.2.1, .int .i64 m.2.2.2.2.2, .slice none 0 0, .slice none 0 0, .slice none 0 0, .int .i64 0]) c := ⟨_, by simp [rdCm, h0, g1], HGF⟩
        obtain ⟨hcm, HGF⟩ := hcmq
        have HGc := HGF.imp imp_cm
        refine l_v (v_fieldAddr (off := 10) (ft := 30) zk rfl) ?_
        refine l_to (to_storeA (n := 6) rfl rfl (zvA rfl) zk rfl dj6 HB2 dj5 ?_)
        rintro w140 HX140 k140 z140
        have zs_k140 := k140.size
        replace E := E.step k140 dj3
        replace HS1 := HS1.keep k140 dj1
        replace HB3 := HB3.keep k140 dj4
        replace HG224 := HG224.keep k140 dj1
        replace HR2 := HR2.keep k140 dj7 (by intro i hi he; have hi0 := hi; have hi := hi; have he := he; (try dsimp only [NoK] at hi he); first | exact he.elim | omega | (have := hF i hi0; omega))
        replace HGF := HGF.keep k140 dj1
        replace HGc := HGc.keep k140 dj1
        replace HB2 := HX140
        clear HX140
        try simp only [zS, Nat.zero_add, Nat.reduceAdd, List.drop_nil] at HB2
        refine l_nil ?_
        refine n_blk ?_
        refine n_then ?_
        by_cases hz : l2 = []
        ·
         by_cases hm : mayCm cm = true
         ·
          refine c_seq ?_
          refine wp_reg zd ?_
          refine l_v (v_move (t := .pointer _) rfl) ?_
          refine l_to (to_f1 zk (zvP rfl) (CallsR.mono (End_n (n := 0) HR2 (if_pos hz)) ?_))
          rintro _ w141 ⟨rfl, e141⟩
          have zs_e141 := e141.size
          replace E := E.trans (Ext.keep e141)
          replace HS1 := HS1.ext e141
          replace HB2 := HB2.ext e141
          replace HB3 := HB3.ext e141
          replace HG224 := HG224.ext e141
          replace HR2 := HR2.ext e141
          replace HGF := HGF.ext e141
          replace HGc := HGc.ext e141
          refine l_v (OpVat.as (b := true) (v_eql rfl rfl) (by decide)) ?_
          refine l_v (v_move (t := .bool _) rfl) ?_
          refine l_gt rfl rfl (OpTo.of_v (v_loadA zk rfl (by first | exact HB3.pv | exact HB2.pv | assumption) rfl) ?_)
          refine l_gt rfl rfl (to_f1 zk (zvA rfl) (CallsR.mono (CMay_b (b := true) HGc hm) ?_))
          rintro _ w142 ⟨rfl, e142⟩
          have zs_e142 := e142.size
          replace E := E.trans (Ext.keep e142)
          replace HS1 := HS1.ext e142
          replace HB2 := HB2.ext e142
          replace HB3 := HB3.ext e142
          replace HG224 := HG224.ext e142
          replace HR2 := HR2.ext e142
          replace HGF := HGF.ext e142
          replace HGc := HGc.ext e142
          refine l_v (v_andT rfl rfl) ?_
          refine l_to (to_f1 zk (zvB rfl) (CallsR.mono (must_b (by rfl)) ?_))
          rintro _ w143 ⟨rfl, e143⟩
          have zs_e143 := e143.size
          replace E := E.trans (Ext.keep e143)
          replace HS1 := HS1.ext e143
          replace HB2 := HB2.ext e143
          replace HB3 := HB3.ext e143
          replace HG224 := HG224.ext e143
          replace HR2 := HR2.ext e143
          replace HGF := HGF.ext e143
          replace HGc := HGc.ext e143
          refine l_nil ?_
          refine n_then ?_
          refine c_seq ?_
          refine wp_reg zd ?_
          refine l_v (v_loadA zk rfl (by first | exact HB3.pv | exact HB2.pv | assumption) rfl) ?_
          refine l_to (to_storeA (n := 20) rfl rfl (zvA rfl) zk rfl dj6 HB2 dj5 ?_)
          rintro w144 HX144 k144 z144
          have zs_k144 := k144.size
          replace E := E.step k144 dj3
          replace HS1 := HS1.keep k144 dj1
          replace HB3 := HB3.keep k144 dj4
          replace HG224 := HG224.keep k144 dj1
          replace HR2 := HR2.keep k144 dj7 (by intro i hi he; have hi0 := hi; have hi := hi; have he := he; (try dsimp only [NoK] at hi he); first | exact he.elim | omega | (have := hF i hi0; omega))
          replace HGF := HGF.keep k144 dj1
          replace HGc := HGc.keep k144 dj1
          replace HB2 := HX144
          clear HX144
          try simp only [zS, Nat.zero_add, Nat.reduceAdd, List.drop_nil] at HB2
          refine l_to (to_store rfl rfl (zvI rfl) rfl zk HB3 dj5 ?_)
          rintro w145 HX145 k145 z145
          have zs_k145 := k145.size
          replace E := E.step k145 dj3
          replace HS1 := HS1.keep k145 dj1
          replace HB2 := HB2.keep k145 dj4
          replace HG224 := HG224.keep k145 dj1
          replace HR2 := HR2.keep k145 dj7 (by intro i hi he; have hi0 := hi; have hi := hi; have he := he; (try dsimp only [NoK] at hi he); first | exact he.elim | omega | (have := hF i hi0; omega))
          replace HGF := HGF.keep k145 dj1
          replace HGc := HGc.keep k145 dj1
          replace HB3 := HX145
          clear HX145
          try simp only [zS, Nat.zero_add, Nat.reduceAdd, List.drop_nil] at HB3
          refine l_nil ?_
          refine n_then ?_
          refine c_ret ?_
          exact read_yes (by rfl) (by rfl) HB2 (by rfl) HB3 (HGF.mono fun i _ h => by omega) E (by rw [rdAll, hcm, hz]; exact if_pos hm)
         ·
          refine c_seq ?_
          refine wp_reg zd ?_
          refine l_v (v_move (t := .pointer _) rfl) ?_
          refine l_to (to_f1 zk (zvP rfl) (CallsR.mono (End_n (n := 0) HR2 (if_pos hz)) ?_))
          rintro _ w146 ⟨rfl, e146⟩
          have zs_e146 := e146.size
          replace E := E.trans (Ext.keep e146)
          replace HS1 := HS1.ext e146
          replace HB2 := HB2.ext e146
          replace HB3 := HB3.ext e146
          replace HG224 := HG224.ext e146
          replace HR2 := HR2.ext e146
          replace HGF := HGF.ext e146
          replace HGc := HGc.ext e146
          refine l_v (OpVat.as (b := true) (v_eql rfl rfl) (by decide)) ?_
          refine l_v (v_move (t := .bool _) rfl) ?_
          refine l_gt rfl rfl (OpTo.of_v (v_loadA zk rfl (by first | exact HB3.pv | exact HB2.pv | assumption) rfl) ?_)
          refine l_gt rfl rfl (to_f1 zk (zvA rfl) (CallsR.mono (CMay_b (b := false) HGc (by simpa using hm)) ?_))
          rintro _ w147 ⟨rfl, e147⟩
          have zs_e147 := e147.size
          replace E := E.trans (Ext.keep e147)
          replace HS1 := HS1.ext e147
          replace HB2 := HB2.ext e147
          replace HB3 := HB3.ext e147
          replace HG224 := HG224.ext e147
          replace HR2 := HR2.ext e147
          replace HGF := HGF.ext e147
          replace HGc := HGc.ext e147
          refine l_v (v_andT rfl rfl) ?_
          refine l_die (die_f1 zk (zvB rfl) (CallsP.mono (must_e (by rfl)) ?_))
          rintro ch w225 ⟨hch, e225⟩
          have zs_e225 := e225.size
          replace E := E.trans (Ext.keep e225)
          replace HS1 := HS1.ext e225
          replace HB2 := HB2.ext e225
          replace HB3 := HB3.ext e225
          replace HG224 := HG224.ext e225
          replace HR2 := HR2.ext e225
          replace HGF := HGF.ext e225
          replace HGc := HGc.ext e225
          refine p_then ?_
          subst hch
          exact read_no (by rfl) (by rfl) HB2 (by rfl) HB3 (by omega) (by omega) (by omega) E (by rw [rdAll, hcm, hz]; exact if_neg hm)
        ·
         refine c_seq ?_
         refine wp_reg zd ?_
         refine l_v (v_move (t := .pointer _) rfl) ?_
         refine l_to (to_f1 zk (zvP rfl) (CallsR.mono (End_n (n := 4) HR2 (if_neg hz)) ?_))
         rintro _ w148 ⟨rfl, e148⟩
         have zs_e148 := e148.size
         replace E := E.trans (Ext.keep e148)
         replace HS1 := HS1.ext e148
         replace HB2 := HB2.ext e148
         replace HB3 := HB3.ext e148
         replace HG224 := HG224.ext e148
         replace HR2 := HR2.ext e148
         replace HGF := HGF.ext e148
         replace HGc := HGc.ext e148
         refine l_v (OpVat.as (b := false) (v_eql rfl rfl) (by decide)) ?_
         refine l_v (v_move (t := .bool _) rfl) ?_
         refine l_skip (u := .bool false) rfl rfl rfl ?_
         refine l_skip (u := .bool false) rfl rfl rfl ?_
         refine l_v (v_andC rfl) ?_
         refine l_die (die_f1 zk (zvB rfl) (CallsP.mono (must_e (by rfl)) ?_))
         rintro ch w226 ⟨hch, e226⟩
         have zs_e226 := e226.size
         replace E := E.trans (Ext.keep e226)
         replace HS1 := HS1.ext e226
         replace HB2 := HB2.ext e226
         replace HB3 := HB3.ext e226
         replace HG224 := HG224.ext e226
         replace HR2 := HR2.ext e226
         replace HGF := HGF.ext e226
         replace HGc := HGc.ext e226
         refine p_then ?_
         subst hch
         have hnn : rdAll l = none := rdAll_rest hcm hz
         exact read_no (by rfl) (by rfl) HB2 (by rfl) HB3 (by omega) (by omega) (by omega) E hnn
      ·
       refine c_seq ?_
       refine wp_reg zd ?_
       refine l_v (v_eql rfl rfl) ?_
       refine l_v (v_assign (t := .bool _) rfl) ?_
       refine l_nil ?_
       refine n_then ?_
       refine c_cond rfl rfl (fun h4 => ?_) (fun h4 => ?_)
       ·
        obtain rfl : k = 4 := by have := dtrue h4; omega
        by_cases g1 : rdMv l1 = none
        ·
         refine c_seq ?_
         refine wp_reg zd ?_
         refine l_v (v_move (t := .pointer _) rfl) ?_
         refine l_die (die_f1 zk (zvP rfl) (CallsP.mono (aMove_d HR1 hF (by omega) g1) ?_))
         rintro ch w227 ⟨hch, k227⟩
         have zs_k227 := k227.size
         replace E := E.step k227 dj3
         replace HS1 := HS1.keep k227 dj1
         replace HB2 := HB2.keep k227 dj4
         replace HB3 := HB3.keep k227 dj4
         refine p_then ?_
         refine p_blk ?_
         refine p_then ?_
         subst hch
         exact read_no (by rfl) (by rfl) HB2 (by rfl) HB3 (by omega) (by omega) (by omega) E (by simp [rdAll, rdCm, h0, g1])
        ·
         refine c_seq ?_
         obtain ⟨⟨m, l2⟩, g1⟩ := Option.ne_none_iff_exists'.1 g1
         have bg1 := rdMv_ok g1
         refine wp_reg zd ?_
         refine l_v (v_move (t := .pointer _) rfl) ?_
         refine l_to (to_f1 zk (zvP rfl) (CallsR.mono (aMove_c HR1 hF (by omega) g1) ?_))
         rintro _ w228 ⟨HG228, HR2, k228⟩
         have zs_k228 := k228.size
         obtain ⟨a228a, c228a, a228b, c228b, rfl, _⟩ := HG228.mv
         replace E := E.step k228 dj3
         replace HS1 := HS1.keep k228 dj1
         replace HB2 := HB2.keep k228 dj4
         replace HB3 := HB3.keep k228 dj4
         refine l_v (v_fieldAddr (off := 10) (ft := 30) zk rfl) ?_
         refine l_to (to_storeA (n := 6) rfl rfl (zvA rfl) zk rfl dj6 HB2 dj5 ?_)
         rintro w149 HX149 k149 z149
         have zs_k149 := k149.size
         replace E := E.step k149 dj3
         replace HS1 := HS1.keep k149 dj1
         replace HB3 := HB3.keep k149 dj4
         replace HG228 := HG228.keep k149 dj1
         replace HR2 := HR2.keep k149 dj7 (by intro i hi he; have hi0 := hi; have hi := hi; have he := he; (try dsimp only [NoK] at hi he); first | exact he.elim | omega | (have := hF i hi0; omega))
         replace HB2 := HX149
         clear HX149
         try simp only [zS, Nat.zero_add, Nat.reduceAdd, List.drop_nil] at HB2
         refine l_nil ?_
         refine n_then ?_
         by_cases g2 : rdRw l.length l2 = none
         ·
          refine c_seq ?_
          refine wp_reg zd ?_
          refine l_v (v_move (t := .pointer _) rfl) ?_
          refine l_v (v_move (t := .slice _ _ _) rfl) ?_
          refine l_v (v_len (et := 5) zk rfl) ?_
          refine l_die (die_f2 zk (zvP rfl) (zvI rfl) (CallsP.mono (raw_d (most := ((l.length : Nat) : Int)) HR2 hF (by omega) (by omega) (by omega) g2) ?_))
          rintro ch w229 ⟨hch, k229⟩
          have zs_k229 := k229.size
          replace E := E.step k229 dj3
          replace HS1 := HS1.keep k229 dj1
          replace HB2 := HB2.keep k229 dj4
          replace HB3 := HB3.keep k229 dj4
          replace HG228 := HG228.keep k229 dj1
          refine p_then ?_
          refine p_blk ?_
          refine p_then ?_
          subst hch
          exact read_no (by rfl) (by rfl) HB2 (by rfl) HB3 (by omega) (by omega) (by omega) E (by simp [rdAll, rdCm, h0, g1, g2])
         ·
          refine c_seq ?_
          obtain ⟨⟨x, l3⟩, g2⟩ := Option.ne_none_iff_exists'.1 g2
          have bg2 := rdRw_ok g2
          refine wp_reg zd ?_
          refine l_v (v_move (t := .pointer _) rfl) ?_
          refine l_v (v_move (t := .slice _ _ _) rfl) ?_
          refine l_v (v_len (et := 5) zk rfl) ?_
          refine l_to (to_f2 zk (zvP rfl) (zvI rfl) (CallsR.mono (raw_c (most := ((l.length : Nat) : Int)) HR2 hF (by omega) (by omega) (by omega) g2) ?_))
          rintro _ w230 ⟨⟨a230, c230, rfl, HF230⟩, HR3, k230⟩
          have zs_k230 := k230.size
          replace E := E.step k230 dj3
          replace HS1 := HS1.keep k230 dj1
          replace HB2 := HB2.keep k230 dj4
          replace HB3 := HB3.keep k230 dj4
          replace HG228 := HG228.keep k230 dj1
          refine l_to (to_f1 zk (zvS rfl) (CallsR.mono (Lists_c HF230.bv (by have := bg2.2.1; omega)) ?_))
          rintro _ w400 ⟨⟨a400, c400, en, er, rfl, HS400, hx400⟩, e400⟩
          have zs_e400 := e400.size
          replace E := E.trans (Ext.keep e400)
          replace HS1 := HS1.ext e400
          replace HB2 := HB2.ext e400
          replace HB3 := HB3.ext e400
          replace HG228 := HG228.ext e400
          replace HF230 := HF230.ext e400
          replace HR3 := HR3.ext e400
          refine l_v (v_move (t := .tuple _) rfl) ?_
          refine l_v (v_extract (t := .slice _ _ _) rfl rfl) ?_
          refine l_v (v_extract (t := .int _ _) rfl rfl) ?_
          refine l_v (v_assign (t := .slice _ _ _) rfl) ?_
          refine l_v (v_assign (t := .int _ _) rfl) ?_
          refine l_nil ?_
          refine n_then ?_
          by_cases g3 : rdLs x = none
          ·
           refine c_seq ?_
           refine wp_reg zd ?_
           refine l_v (v_move (t := .int _ _) rfl) ?_
           refine l_v (v_eql rfl rfl) ?_
           refine l_die (die_f1 zk (zvB rfl) (CallsP.mono (must_e (decide_eq_false (by rcases hx400 with ⟨_, h⟩ | ⟨h, _⟩; (rw [g3] at h; cases h); omega))) ?_))
           rintro ch w401 ⟨hch, e401⟩
           have zs_e401 := e401.size
           replace E := E.trans (Ext.keep e401)
           replace HS1 := HS1.ext e401
           replace HB2 := HB2.ext e401
           replace HB3 := HB3.ext e401
           replace HG228 := HG228.ext e401
           replace HR3 := HR3.ext e401
           replace HS400 := HS400.ext e401
           refine p_then ?_
           refine p_blk ?_
           refine p_then ?_
           subst hch
           exact read_no (by rfl) (by rfl) HB2 (by rfl) HB3 (by omega) (by omega) (by omega) E (by simp [rdAll, rdCm, h0, g1, g2, g3])
          ·
           refine c_seq ?_
           obtain ⟨rfl, g3⟩ : er = 0 ∧ rdLs x = some en := by rcases hx400 with h | ⟨_, _, h⟩; exact h; exact absurd h g3
           refine wp_reg zd ?_
           refine l_v (v_move (t := .int _ _) rfl) ?_
           refine l_v (v_eql rfl rfl) ?_
           refine l_to (to_f1 zk (zvB rfl) (CallsR.mono (must_b (by rfl)) ?_))
           rintro _ w150 ⟨rfl, e150⟩
           have zs_e150 := e150.size
           replace E := E.trans (Ext.keep e150)
           replace HS1 := HS1.ext e150
           replace HB2 := HB2.ext e150
           replace HB3 := HB3.ext e150
           replace HG228 := HG228.ext e150
           replace HR3 := HR3.ext e150
           replace HS400 := HS400.ext e150
           refine l_nil ?_
           refine n_then ?_
           by_cases g4 : rdRw 524288 l3 = none
           ·
            refine wp_reg zd ?_
            refine l_v (v_move (t := .slice _ _ _) rfl) ?_
            refine l_v (v_move (t := .pointer _) rfl) ?_
            refine l_die (die_f2 zk (zvP rfl) (zvI rfl) (CallsP.mono (raw_d (most := ((524288 : Nat) : Int)) HR3 hF (by omega) (by omega) (by omega) g4) ?_))
            rintro ch w231 ⟨hch, k231⟩
            have zs_k231 := k231.size
            replace E := E.step k231 dj3
            replace HS1 := HS1.keep k231 dj1
            replace HB2 := HB2.keep k231 dj4
            replace HB3 := HB3.keep k231 dj4
            replace HG228 := HG228.keep k231 dj1
            replace HS400 := HS400.keep k231 dj1
            refine p_blk ?_
            refine p_then ?_
            subst hch
            exact read_no (by rfl) (by rfl) HB2 (by rfl) HB3 (by omega) (by omega) (by omega) E (by simp [rdAll, rdCm, h0, g1, g2, g3, g4])
           ·
            obtain ⟨⟨an, l4⟩, g4⟩ := Option.ne_none_iff_exists'.1 g4
            have bg4 := rdRw_ok g4
            refine wp_reg zd ?_
            refine l_v (v_move (t := .slice _ _ _) rfl) ?_
            refine l_v (v_move (t := .pointer _) rfl) ?_
            refine l_to (to_f2 zk (zvP rfl) (zvI rfl) (CallsR.mono (raw_c (most := ((524288 : Nat) : Int)) HR3 hF (by omega) (by omega) (by omega) g4) ?_))
            rintro _ w232 ⟨⟨a232, c232, rfl, HF232⟩, HR4, k232⟩
            have zs_k232 := k232.size
            replace E := E.step k232 dj3
            replace HS1 := HS1.keep k232 dj1
            replace HB2 := HB2.keep k232 dj4
            replace HB3 := HB3.keep k232 dj4
            replace HG228 := HG228.keep k232 dj1
            replace HS400 := HS400.keep k232 dj1
            have HGF : AgV tCmF w232 (fun i => n4 ≤ i) (.agg #[.int .i64 4, .int .i64 0, .int .i64 0, .int .i64 0, .slice none 0 0, .slice none 0 0, .slice none 0 0, .slice none 0 0, .bool false, .int .i64 0, .int .i64 m.1, .slice a228a m.2.1.length c228a, .slice a228b m.2.2.1.length c228b, .bool m.2.2.2.1, .int .i64 m.2.2.2.2.1, .int .i64 m.2.2.2.2.2, .slice a400 en.length c400, .slice a232 an.length c232, .slice none 0 0, .int .i64 0]) _ := AgV.mkCmF ⟨by decide, by decide⟩ rq0_agF (HG228.mono fun i _ h => by omega) (HS400.mono fun i _ h => by omega) (HF232.mono fun i _ h => by omega) (BvF.nil _ _) ⟨by decide, by decide⟩
            obtain ⟨cm, hcmq⟩ : ∃ c : CmV, rdCm l.length l = some (c, l4) ∧ AgV tCmF w232 (fun i => n4 ≤ i) (.agg #[.int .i64 4, .int .i64 0, .int .i64 0, .int .i64 0, .slice none 0 0, .slice none 0 0, .slice none 0 0, .slice none 0 0, .bool false, .int .i64 0, .int .i64 m.1, .slice a228a m.2.1.length c228a, .slice a228b m.2.2.1.length c228b, .bool m.2.2.2.1, .int .i64 m.2.2.2.2.1, .int .i64 m.2.2.2.2.2, .slice a400 en.length c400, .slice a232 an.length c232, .slice none 0 0, .int .i64 0]) c := ⟨_, by simp [rdCm, h0, g1, g2, g3, g4], HGF⟩
            obtain ⟨hcm, HGF⟩ := hcmq
            have HGc := HGF.imp imp_cm
            refine l_v (v_fieldAddr (off := 16) (ft := 31) zk rfl) ?_
            refine l_to (to_store rfl rfl (zvS rfl) rfl zk HB2 dj5 ?_)
            rintro w151 HX151 k151 z151
            have zs_k151 := k151.size
            replace E := E.step k151 dj3
            replace HS1 := HS1.keep k151 dj1
            replace HB3 := HB3.keep k151 dj4
            replace HG228 := HG228.keep k151 dj1
            replace HS400 := HS400.keep k151 dj1
            replace HF232 := HF232.keep k151 dj2
            replace HR4 := HR4.keep k151 dj7 (by intro i hi he; have hi0 := hi; have hi := hi; have he := he; (try dsimp only [NoK] at hi he); first | exact he.elim | omega | (have := hF i hi0; omega))
            replace HGF := HGF.keep k151 dj1
            replace HGc := HGc.keep k151 dj1
            replace HB2 := HX151
            clear HX151
            try simp only [zS, Nat.zero_add, Nat.reduceAdd, List.drop_nil] at HB2
            refine l_v (v_fieldAddr (off := 17) (ft := 24) zk rfl) ?_
            refine l_to (to_store rfl rfl (zvS rfl) rfl zk HB2 dj5 ?_)
            rintro w152 HX152 k152 z152
            have zs_k152 := k152.size
            replace E := E.step k152 dj3
            replace HS1 := HS1.keep k152 dj1
            replace HB3 := HB3.keep k152 dj4
            replace HG228 := HG228.keep k152 dj1
            replace HS400 := HS400.keep k152 dj1
            replace HF232 := HF232.keep k152 dj2
            replace HR4 := HR4.keep k152 dj7 (by intro i hi he; have hi0 := hi; have hi := hi; have he := he; (try dsimp only [NoK] at hi he); first | exact he.elim | omega | (have := hF i hi0; omega))
            replace HGF := HGF.keep k152 dj1
            replace HGc := HGc.keep k152 dj1
            replace HB2 := HX152
            clear HX152
            try simp only [zS, Nat.zero_add, Nat.reduceAdd, List.drop_nil] at HB2
            refine l_nil ?_
            refine n_blk ?_
            refine n_then ?_
            by_cases hz : l4 = []
            ·
             by_cases hm : mayCm cm = true
             ·
              refine c_seq ?_
              refine wp_reg zd ?_
              refine l_v (v_move (t := .pointer _) rfl) ?_
              refine l_to (to_f1 zk (zvP rfl) (CallsR.mono (End_n (n := 0) HR4 (if_pos hz)) ?_))
              rintro _ w153 ⟨rfl, e153⟩
              have zs_e153 := e153.size
              replace E := E.trans (Ext.keep e153)
              replace HS1 := HS1.ext e153
              replace HB2 := HB2.ext e153
              replace HB3 := HB3.ext e153
              replace HG228 := HG228.ext e153
              replace HS400 := HS400.ext e153
              replace HF232 := HF232.ext e153
              replace HR4 := HR4.ext e153
              replace HGF := HGF.ext e153
              replace HGc := HGc.ext e153
              refine l_v (OpVat.as (b := true) (v_eql rfl rfl) (by decide)) ?_
              refine l_v (v_move (t := .bool _) rfl) ?_
              refine l_gt rfl rfl (OpTo.of_v (v_loadA zk rfl (by first | exact HB3.pv | exact HB2.pv | assumption) rfl) ?_)
              refine l_gt rfl rfl (to_f1 zk (zvA rfl) (CallsR.mono (CMay_b (b := true) HGc hm) ?_))
              rintro _ w154 ⟨rfl, e154⟩
              have zs_e154 := e154.size
              replace E := E.trans (Ext.keep e154)
              replace HS1 := HS1.ext e154
              replace HB2 := HB2.ext e154
              replace HB3 := HB3.ext e154
              replace HG228 := HG228.ext e154
              replace HS400 := HS400.ext e154
              replace HF232 := HF232.ext e154
              replace HR4 := HR4.ext e154
              replace HGF := HGF.ext e154
              replace HGc := HGc.ext e154
              refine l_v (v_andT rfl rfl) ?_
              refine l_to (to_f1 zk (zvB rfl) (CallsR.mono (must_b (by rfl)) ?_))
              rintro _ w155 ⟨rfl, e155⟩
              have zs_e155 := e155.size
              replace E := E.trans (Ext.keep e155)
              replace HS1 := HS1.ext e155
              replace HB2 := HB2.ext e155
              replace HB3 := HB3.ext e155
              replace HG228 := HG228.ext e155
              replace HS400 := HS400.ext e155
              replace HF232 := HF232.ext e155
              replace HR4 := HR4.ext e155
              replace HGF := HGF.ext e155
              replace HGc := HGc.ext e155
              refine l_nil ?_
              refine n_then ?_
              refine c_seq ?_
              refine wp_reg zd ?_
              refine l_v (v_loadA zk rfl (by first | exact HB3.pv | exact HB2.pv | assumption) rfl) ?_
              refine l_to (to_storeA (n := 20) rfl rfl (zvA rfl) zk rfl dj6 HB2 dj5 ?_)
              rintro w156 HX156 k156 z156
              have zs_k156 := k156.size
              replace E := E.step k156 dj3
              replace HS1 := HS1.keep k156 dj1
              replace HB3 := HB3.keep k156 dj4
              replace HG228 := HG228.keep k156 dj1
              replace HS400 := HS400.keep k156 dj1
              replace HF232 := HF232.keep k156 dj2
              replace HR4 := HR4.keep k156 dj7 (by intro i hi he; have hi0 := hi; have hi := hi; have he := he; (try dsimp only [NoK] at hi he); first | exact he.elim | omega | (have := hF i hi0; omega))
              replace HGF := HGF.keep k156 dj1
              replace HGc := HGc.keep k156 dj1
              replace HB2 := HX156
              clear HX156
              try simp only [zS, Nat.zero_add, Nat.reduceAdd, List.drop_nil] at HB2
              refine l_to (to_store rfl rfl (zvI rfl) rfl zk HB3 dj5 ?_)
              rintro w157 HX157 k157 z157
              have zs_k157 := k157.size
              replace E := E.step k157 dj3
              replace HS1 := HS1.keep k157 dj1
              replace HB2 := HB2.keep k157 dj4
              replace HG228 := HG228.keep k157 dj1
              replace HS400 := HS400.keep k157 dj1
              replace HF232 := HF232.keep k157 dj2
              replace HR4 := HR4.keep k157 dj7 (by intro i hi he; have hi0 := hi; have hi := hi; have he := he; (try dsimp only [NoK] at hi he); first | exact he.elim | omega | (have := hF i hi0; omega))
              replace HGF := HGF.keep k157 dj1
              replace HGc := HGc.keep k157 dj1
              replace HB3 := HX157
              clear HX157
              try simp only [zS, Nat.zero_add, Nat.reduceAdd, List.drop_nil] at HB3
              refine l_nil ?_
              refine n_then ?_
              refine c_ret ?_
              exact read_yes (by rfl) (by rfl) HB2 (by rfl) HB3 (HGF.mono fun i _ h => by omega) E (by rw [rdAll, hcm, hz]; exact if_pos hm)
             ·
              refine c_seq ?_
              refine wp_reg zd ?_
              refine l_v (v_move (t := .pointer _) rfl) ?_
              refine l_to (to_f1 zk (zvP rfl) (CallsR.mono (End_n (n := 0) HR4 (if_pos hz)) ?_))
              rintro _ w158 ⟨rfl, e158⟩
              have zs_e158 := e158.size
              replace E := E.trans (Ext.keep e158)
              replace HS1 := HS1.ext e158
              replace HB2 := HB2.ext e158
              replace HB3 := HB3.ext e158
              replace HG228 := HG228.ext e158
              replace HS400 := HS400.ext e158
              replace HF232 := HF232.ext e158
              replace HR4 := HR4.ext e158
              replace HGF := HGF.ext e158
              replace HGc := HGc.ext e158
              refine l_v (OpVat.as (b := true) (v_eql rfl rfl) (by decide)) ?_
              refine l_v (v_move (t := .bool _) rfl) ?_
              refine l_gt rfl rfl (OpTo.of_v (v_loadA zk rfl (by first | exact HB3.pv | exact HB2.pv | assumption) rfl) ?_)
              refine l_gt rfl rfl (to_f1 zk (zvA rfl) (CallsR.mono (CMay_b (b := false) HGc (by simpa using hm)) ?_))
              rintro _ w159 ⟨rfl, e159⟩
              have zs_e159 := e159.size
              replace E := E.trans (Ext.keep e159)
              replace HS1 := HS1.ext e159
              replace HB2 := HB2.ext e159
              replace HB3 := HB3.ext e159
              replace HG228 := HG228.ext e159
              replace HS400 := HS400.ext e159
              replace HF232 := HF232.ext e159
              replace HR4 := HR4.ext e159
              replace HGF := HGF.ext e159
              replace HGc := HGc.ext e159
              refine l_v (v_andT rfl rfl) ?_
              refine l_die (die_f1 zk (zvB rfl) (CallsP.mono (must_e (by rfl)) ?_))
              rintro ch w233 ⟨hch, e233⟩
              have zs_e233 := e233.size
              replace E := E.trans (Ext.keep e233)
              replace HS1 := HS1.ext e233
              replace HB2 := HB2.ext e233
              replace HB3 := HB3.ext e233
              replace HG228 := HG228.ext e233
              replace HS400 := HS400.ext e233
              replace HF232 := HF232.ext e233
              replace HR4 := HR4.ext e233
              replace HGF := HGF.ext e233
              replace HGc := HGc.ext e233
              refine p_then ?_
              subst hch
              exact read_no (by rfl) (by rfl) HB2 (by rfl) HB3 (by omega) (by omega) (by omega) E (by rw [rdAll, hcm, hz]; exact if_neg hm)
            ·
             refine c_seq ?_
             refine wp_reg zd ?_
             refine l_v (v_move (t := .pointer _) rfl) ?_
             refine l_to (to_f1 zk (zvP rfl) (CallsR.mono (End_n (n := 4) HR4 (if_neg hz)) ?_))
             rintro _ w160 ⟨rfl, e160⟩
             have zs_e160 := e160.size
             replace E := E.trans (Ext.keep e160)
             replace HS1 := HS1.ext e160
             replace HB2 := HB2.ext e160
             replace HB3 := HB3.ext e160
             replace HG228 := HG228.ext e160
             replace HS400 := HS400.ext e160
             replace HF232 := HF232.ext e160
             replace HR4 := HR4.ext e160
             replace HGF := HGF.ext e160
             replace HGc := HGc.ext e160
             refine l_v (OpVat.as (b := false) (v_eql rfl rfl) (by decide)) ?_
             refine l_v (v_move (t := .bool _) rfl) ?_
             refine l_skip (u := .bool false) rfl rfl rfl ?_
             refine l_skip (u := .bool false) rfl rfl rfl ?_
             refine l_v (v_andC rfl) ?_
             refine l_die (die_f1 zk (zvB rfl) (CallsP.mono (must_e (by rfl)) ?_))
             rintro ch w234 ⟨hch, e234⟩
             have zs_e234 := e234.size
             replace E := E.trans (Ext.keep e234)
             replace HS1 := HS1.ext e234
             replace HB2 := HB2.ext e234
             replace HB3 := HB3.ext e234
             replace HG228 := HG228.ext e234
             replace HS400 := HS400.ext e234
             replace HF232 := HF232.ext e234
             replace HR4 := HR4.ext e234
             replace HGF := HGF.ext e234
             replace HGc := HGc.ext e234
             refine p_then ?_
             subst hch
             have hnn : rdAll l = none := rdAll_rest hcm hz
             exact read_no (by rfl) (by rfl) HB2 (by rfl) HB3 (by omega) (by omega) (by omega) E hnn
       ·
        refine c_seq ?_
        refine c_seq ?_
        refine wp_reg zd ?_
        refine l_v (v_eql rfl rfl) ?_
        refine l_v (v_assign (t := .bool _) rfl) ?_
        refine l_nil ?_
        refine n_then ?_
        refine c_cond rfl rfl (fun h6 => ?_) (fun h6 => ?_)
        ·
         refine c_skip ?_
         refine n_then ?_
         refine c_cond rfl rfl (fun hx => ?_) (fun hx => ?_)
         ·
          obtain rfl : k = 6 := by have := dtrue h6; omega
          by_cases g1 : rdRw 24 l1 = none
          ·
           refine wp_reg zd ?_
           refine l_v (v_move (t := .pointer _) rfl) ?_
           refine l_die (die_f2 zk (zvP rfl) (zvI rfl) (CallsP.mono (raw_d (most := ((24 : Nat) : Int)) HR1 hF (by omega) (by omega) (by omega) g1) ?_))
           rintro ch w235 ⟨hch, k235⟩
           have zs_k235 := k235.size
           replace E := E.step k235 dj3
           replace HS1 := HS1.keep k235 dj1
           replace HB2 := HB2.keep k235 dj4
           replace HB3 := HB3.keep k235 dj4
           refine p_blk ?_
           refine p_then ?_
           subst hch
           exact read_no (by rfl) (by rfl) HB2 (by rfl) HB3 (by omega) (by omega) (by omega) E (by simp [rdAll, rdCm, h0, g1])
          ·
           obtain ⟨⟨key, l2⟩, g1⟩ := Option.ne_none_iff_exists'.1 g1
           have bg1 := rdRw_ok g1
           refine wp_reg zd ?_
           refine l_v (v_move (t := .pointer _) rfl) ?_
           refine l_to (to_f2 zk (zvP rfl) (zvI rfl) (CallsR.mono (raw_c (most := ((24 : Nat) : Int)) HR1 hF (by omega) (by omega) (by omega) g1) ?_))
           rintro _ w236 ⟨⟨a236, c236, rfl, HF236⟩, HR2, k236⟩
           have zs_k236 := k236.size
           replace E := E.step k236 dj3
           replace HS1 := HS1.keep k236 dj1
           replace HB2 := HB2.keep k236 dj4
           replace HB3 := HB3.keep k236 dj4
           have HGF : AgV tCmF w236 (fun i => n4 ≤ i) (.agg #[.int .i64 6, .int .i64 0, .int .i64 0, .int .i64 0, .slice none 0 0, .slice none 0 0, .slice none 0 0, .slice none 0 0, .bool false, .int .i64 0, .int .i64 0, .slice none 0 0, .slice none 0 0, .bool false, .int .i64 0, .int .i64 0, .slice none 0 0, .slice none 0 0, .slice a236 key.length c236, .int .i64 0]) _ := AgV.mkCmF ⟨by decide, by decide⟩ rq0_agF mv0_ag (SlV.nil _ _ _) (BvF.nil _ _) (HF236.mono fun i _ h => by omega) ⟨by decide, by decide⟩
           obtain ⟨cm, hcmq⟩ : ∃ c : CmV, rdCm l.length l = some (c, l2) ∧ AgV tCmF w236 (fun i => n4 ≤ i) (.agg #[.int .i64 6, .int .i64 0, .int .i64 0, .int .i64 0, .slice none 0 0, .slice none 0 0, .slice none 0 0, .slice none 0 0, .bool false, .int .i64 0, .int .i64 0, .slice none 0 0, .slice none 0 0, .bool false, .int .i64 0, .int .i64 0, .slice none 0 0, .slice none 0 0, .slice a236 key.length c236, .int .i64 0]) c := ⟨_, by simp [rdCm, h0, g1], HGF⟩
           obtain ⟨hcm, HGF⟩ := hcmq
           have HGc := HGF.imp imp_cm
           refine l_v (v_fieldAddr (off := 18) (ft := 24) zk rfl) ?_
           refine l_to (to_store rfl rfl (zvS rfl) rfl zk HB2 dj5 ?_)
           rintro w161 HX161 k161 z161
           have zs_k161 := k161.size
           replace E := E.step k161 dj3
           replace HS1 := HS1.keep k161 dj1
           replace HB3 := HB3.keep k161 dj4
           replace HF236 := HF236.keep k161 dj2
           replace HR2 := HR2.keep k161 dj7 (by intro i hi he; have hi0 := hi; have hi := hi; have he := he; (try dsimp only [NoK] at hi he); first | exact he.elim | omega | (have := hF i hi0; omega))
           replace HGF := HGF.keep k161 dj1
           replace HGc := HGc.keep k161 dj1
           replace HB2 := HX161
           clear HX161
           try simp only [zS, Nat.zero_add, Nat.reduceAdd, List.drop_nil] at HB2
           refine l_nil ?_
           refine n_blk ?_
           refine n_then ?_
           by_cases hz : l2 = []
           ·
            by_cases hm : mayCm cm = true
            ·
             refine c_seq ?_
             refine wp_reg zd ?_
             refine l_v (v_move (t := .pointer _) rfl) ?_
             refine l_to (to_f1 zk (zvP rfl) (CallsR.mono (End_n (n := 0) HR2 (if_pos hz)) ?_))
             rintro _ w162 ⟨rfl, e162⟩
             have zs_e162 := e162.size
             replace E := E.trans (Ext.keep e162)
             replace HS1 := HS1.ext e162
             replace HB2 := HB2.ext e162
             replace HB3 := HB3.ext e162
             replace HF236 := HF236.ext e162
             replace HR2 := HR2.ext e162
             replace HGF := HGF.ext e162
             replace HGc := HGc.ext e162
             refine l_v (OpVat.as (b := true) (v_eql rfl rfl) (by decide)) ?_
             refine l_v (v_move (t := .bool _) rfl) ?_
             refine l_gt rfl rfl (OpTo.of_v (v_loadA zk rfl (by first | exact HB3.pv | exact HB2.pv | assumption) rfl) ?_)
             refine l_gt rfl rfl (to_f1 zk (zvA rfl) (CallsR.mono (CMay_b (b := true) HGc hm) ?_))
             rintro _ w163 ⟨rfl, e163⟩
             have zs_e163 := e163.size
             replace E := E.trans (Ext.keep e163)
             replace HS1 := HS1.ext e163
             replace HB2 := HB2.ext e163
             replace HB3 := HB3.ext e163
             replace HF236 := HF236.ext e163
             replace HR2 := HR2.ext e163
             replace HGF := HGF.ext e163
             replace HGc := HGc.ext e163
             refine l_v (v_andT rfl rfl) ?_
             refine l_to (to_f1 zk (zvB rfl) (CallsR.mono (must_b (by rfl)) ?_))
             rintro _ w164 ⟨rfl, e164⟩
             have zs_e164 := e164.size
             replace E := E.trans (Ext.keep e164)
             replace HS1 := HS1.ext e164
             replace HB2 := HB2.ext e164
             replace HB3 := HB3.ext e164
             replace HF236 := HF236.ext e164
             replace HR2 := HR2.ext e164
             replace HGF := HGF.ext e164
             replace HGc := HGc.ext e164
             refine l_nil ?_
             refine n_then ?_
             refine c_seq ?_
             refine wp_reg zd ?_
             refine l_v (v_loadA zk rfl (by first | exact HB3.pv | exact HB2.pv | assumption) rfl) ?_
             refine l_to (to_storeA (n := 20) rfl rfl (zvA rfl) zk rfl dj6 HB2 dj5 ?_)
             rintro w165 HX165 k165 z165
             have zs_k165 := k165.size
             replace E := E.step k165 dj3
             replace HS1 := HS1.keep k165 dj1
             replace HB3 := HB3.keep k165 dj4
             replace HF236 := HF236.keep k165 dj2
             replace HR2 := HR2.keep k165 dj7 (by intro i hi he; have hi0 := hi; have hi := hi; have he := he; (try dsimp only [NoK] at hi he); first | exact he.elim | omega | (have := hF i hi0; omega))
             replace HGF := HGF.keep k165 dj1
             replace HGc := HGc.keep k165 dj1
             replace HB2 := HX165
             clear HX165
             try simp only [zS, Nat.zero_add, Nat.reduceAdd, List.drop_nil] at HB2
             refine l_to (to_store rfl rfl (zvI rfl) rfl zk HB3 dj5 ?_)
             rintro w166 HX166 k166 z166
             have zs_k166 := k166.size
             replace E := E.step k166 dj3
             replace HS1 := HS1.keep k166 dj1
             replace HB2 := HB2.keep k166 dj4
             replace HF236 := HF236.keep k166 dj2
             replace HR2 := HR2.keep k166 dj7 (by intro i hi he; have hi0 := hi; have hi := hi; have he := he; (try dsimp only [NoK] at hi he); first | exact he.elim | omega | (have := hF i hi0; omega))
             replace HGF := HGF.keep k166 dj1
             replace HGc := HGc.keep k166 dj1
             replace HB3 := HX166
             clear HX166
             try simp only [zS, Nat.zero_add, Nat.reduceAdd, List.drop_nil] at HB3
             refine l_nil ?_
             refine n_then ?_
             refine c_ret ?_
             exact read_yes (by rfl) (by rfl) HB2 (by rfl) HB3 (HGF.mono fun i _ h => by omega) E (by rw [rdAll, hcm, hz]; exact if_pos hm)
            ·
             refine c_seq ?_
             refine wp_reg zd ?_
             refine l_v (v_move (t := .pointer _) rfl) ?_
             refine l_to (to_f1 zk (zvP rfl) (CallsR.mono (End_n (n := 0) HR2 (if_pos hz)) ?_))
             rintro _ w167 ⟨rfl, e167⟩
             have zs_e167 := e167.size
             replace E := E.trans (Ext.keep e167)
             replace HS1 := HS1.ext e167
             replace HB2 := HB2.ext e167
             replace HB3 := HB3.ext e167
             replace HF236 := HF236.ext e167
             replace HR2 := HR2.ext e167
             replace HGF := HGF.ext e167
             replace HGc := HGc.ext e167
             refine l_v (OpVat.as (b := true) (v_eql rfl rfl) (by decide)) ?_
             refine l_v (v_move (t := .bool _) rfl) ?_
             refine l_gt rfl rfl (OpTo.of_v (v_loadA zk rfl (by first | exact HB3.pv | exact HB2.pv | assumption) rfl) ?_)
             refine l_gt rfl rfl (to_f1 zk (zvA rfl) (CallsR.mono (CMay_b (b := false) HGc (by simpa using hm)) ?_))
             rintro _ w168 ⟨rfl, e168⟩
             have zs_e168 := e168.size
             replace E := E.trans (Ext.keep e168)
             replace HS1 := HS1.ext e168
             replace HB2 := HB2.ext e168
             replace HB3 := HB3.ext e168
             replace HF236 := HF236.ext e168
             replace HR2 := HR2.ext e168
             replace HGF := HGF.ext e168
             replace HGc := HGc.ext e168
             refine l_v (v_andT rfl rfl) ?_
             refine l_die (die_f1 zk (zvB rfl) (CallsP.mono (must_e (by rfl)) ?_))
             rintro ch w237 ⟨hch, e237⟩
             have zs_e237 := e237.size
             replace E := E.trans (Ext.keep e237)
             replace HS1 := HS1.ext e237
             replace HB2 := HB2.ext e237
             replace HB3 := HB3.ext e237
             replace HF236 := HF236.ext e237
             replace HR2 := HR2.ext e237
             replace HGF := HGF.ext e237
             replace HGc := HGc.ext e237
             refine p_then ?_
             subst hch
             exact read_no (by rfl) (by rfl) HB2 (by rfl) HB3 (by omega) (by omega) (by omega) E (by rw [rdAll, hcm, hz]; exact if_neg hm)
           ·
            refine c_seq ?_
            refine wp_reg zd ?_
            refine l_v (v_move (t := .pointer _) rfl) ?_
            refine l_to (to_f1 zk (zvP rfl) (CallsR.mono (End_n (n := 4) HR2 (if_neg hz)) ?_))
            rintro _ w169 ⟨rfl, e169⟩
            have zs_e169 := e169.size
            replace E := E.trans (Ext.keep e169)
            replace HS1 := HS1.ext e169
            replace HB2 := HB2.ext e169
            replace HB3 := HB3.ext e169
            replace HF236 := HF236.ext e169
            replace HR2 := HR2.ext e169
            replace HGF := HGF.ext e169
            replace HGc := HGc.ext e169
            refine l_v (OpVat.as (b := false) (v_eql rfl rfl) (by decide)) ?_
            refine l_v (v_move (t := .bool _) rfl) ?_
            refine l_skip (u := .bool false) rfl rfl rfl ?_
            refine l_skip (u := .bool false) rfl rfl rfl ?_
            refine l_v (v_andC rfl) ?_
            refine l_die (die_f1 zk (zvB rfl) (CallsP.mono (must_e (by rfl)) ?_))
            rintro ch w238 ⟨hch, e238⟩
            have zs_e238 := e238.size
            replace E := E.trans (Ext.keep e238)
            replace HS1 := HS1.ext e238
            replace HB2 := HB2.ext e238
            replace HB3 := HB3.ext e238
            replace HF236 := HF236.ext e238
            replace HR2 := HR2.ext e238
            replace HGF := HGF.ext e238
            replace HGc := HGc.ext e238
            refine p_then ?_
            subst hch
            have hnn : rdAll l = none := rdAll_rest hcm hz
            exact read_no (by rfl) (by rfl) HB2 (by rfl) HB3 (by omega) (by omega) (by omega) E hnn
         ·
          rw [h6] at hx; cases hx
        ·
         refine wp_reg zd ?_
         refine l_v (v_eql rfl rfl) ?_
         refine l_v (v_assign (t := .bool _) rfl) ?_
         refine l_nil ?_
         refine n_then ?_
         refine c_cond rfl rfl (fun h7 => ?_) (fun h7 => ?_)
         ·
          obtain rfl : k = 7 := by have := dtrue h7; omega
          by_cases g1 : rdRw 24 l1 = none
          ·
           refine wp_reg zd ?_
           refine l_v (v_move (t := .pointer _) rfl) ?_
           refine l_die (die_f2 zk (zvP rfl) (zvI rfl) (CallsP.mono (raw_d (most := ((24 : Nat) : Int)) HR1 hF (by omega) (by omega) (by omega) g1) ?_))
           rintro ch w239 ⟨hch, k239⟩
           have zs_k239 := k239.size
           replace E := E.step k239 dj3
           replace HS1 := HS1.keep k239 dj1
           replace HB2 := HB2.keep k239 dj4
           replace HB3 := HB3.keep k239 dj4
           refine p_blk ?_
           refine p_then ?_
           subst hch
           exact read_no (by rfl) (by rfl) HB2 (by rfl) HB3 (by omega) (by omega) (by omega) E (by simp [rdAll, rdCm, h0, g1])
          ·
           obtain ⟨⟨key, l2⟩, g1⟩ := Option.ne_none_iff_exists'.1 g1
           have bg1 := rdRw_ok g1
           refine wp_reg zd ?_
           refine l_v (v_move (t := .pointer _) rfl) ?_
           refine l_to (to_f2 zk (zvP rfl) (zvI rfl) (CallsR.mono (raw_c (most := ((24 : Nat) : Int)) HR1 hF (by omega) (by omega) (by omega) g1) ?_))
           rintro _ w240 ⟨⟨a240, c240, rfl, HF240⟩, HR2, k240⟩
           have zs_k240 := k240.size
           replace E := E.step k240 dj3
           replace HS1 := HS1.keep k240 dj1
           replace HB2 := HB2.keep k240 dj4
           replace HB3 := HB3.keep k240 dj4
           have HGF : AgV tCmF w240 (fun i => n4 ≤ i) (.agg #[.int .i64 7, .int .i64 0, .int .i64 0, .int .i64 0, .slice none 0 0, .slice none 0 0, .slice none 0 0, .slice none 0 0, .bool false, .int .i64 0, .int .i64 0, .slice none 0 0, .slice none 0 0, .bool false, .int .i64 0, .int .i64 0, .slice none 0 0, .slice none 0 0, .slice a240 key.length c240, .int .i64 0]) _ := AgV.mkCmF ⟨by decide, by decide⟩ rq0_agF mv0_ag (SlV.nil _ _ _) (BvF.nil _ _) (HF240.mono fun i _ h => by omega) ⟨by decide, by decide⟩
           obtain ⟨cm, hcmq⟩ : ∃ c : CmV, rdCm l.length l = some (c, l2) ∧ AgV tCmF w240 (fun i => n4 ≤ i) (.agg #[.int .i64 7, .int .i64 0, .int .i64 0, .int .i64 0, .slice none 0 0, .slice none 0 0, .slice none 0 0, .slice none 0 0, .bool false, .int .i64 0, .int .i64 0, .slice none 0 0, .slice none 0 0, .bool false, .int .i64 0, .int .i64 0, .slice none 0 0, .slice none 0 0, .slice a240 key.length c240, .int .i64 0]) c := ⟨_, by simp [rdCm, h0, g1], HGF⟩
           obtain ⟨hcm, HGF⟩ := hcmq
           have HGc := HGF.imp imp_cm
           refine l_v (v_fieldAddr (off := 18) (ft := 24) zk rfl) ?_
           refine l_to (to_store rfl rfl (zvS rfl) rfl zk HB2 dj5 ?_)
           rintro w170 HX170 k170 z170
           have zs_k170 := k170.size
           replace E := E.step k170 dj3
           replace HS1 := HS1.keep k170 dj1
           replace HB3 := HB3.keep k170 dj4
           replace HF240 := HF240.keep k170 dj2
           replace HR2 := HR2.keep k170 dj7 (by intro i hi he; have hi0 := hi; have hi := hi; have he := he; (try dsimp only [NoK] at hi he); first | exact he.elim | omega | (have := hF i hi0; omega))
           replace HGF := HGF.keep k170 dj1
           replace HGc := HGc.keep k170 dj1
           replace HB2 := HX170
           clear HX170
           try simp only [zS, Nat.zero_add, Nat.reduceAdd, List.drop_nil] at HB2
           refine l_nil ?_
           refine n_blk ?_
           refine n_then ?_
           by_cases hz : l2 = []
           ·
            by_cases hm : mayCm cm = true
            ·
             refine c_seq ?_
             refine wp_reg zd ?_
             refine l_v (v_move (t := .pointer _) rfl) ?_
             refine l_to (to_f1 zk (zvP rfl) (CallsR.mono (End_n (n := 0) HR2 (if_pos hz)) ?_))
             rintro _ w171 ⟨rfl, e171⟩
             have zs_e171 := e171.size
             replace E := E.trans (Ext.keep e171)
             replace HS1 := HS1.ext e171
             replace HB2 := HB2.ext e171
             replace HB3 := HB3.ext e171
             replace HF240 := HF240.ext e171
             replace HR2 := HR2.ext e171
             replace HGF := HGF.ext e171
             replace HGc := HGc.ext e171
             refine l_v (OpVat.as (b := true) (v_eql rfl rfl) (by decide)) ?_
             refine l_v (v_move (t := .bool _) rfl) ?_
             refine l_gt rfl rfl (OpTo.of_v (v_loadA zk rfl (by first | exact HB3.pv | exact HB2.pv | assumption) rfl) ?_)
             refine l_gt rfl rfl (to_f1 zk (zvA rfl) (CallsR.mono (CMay_b (b := true) HGc hm) ?_))
             rintro _ w172 ⟨rfl, e172⟩
             have zs_e172 := e172.size
             replace E := E.trans (Ext.keep e172)
             replace HS1 := HS1.ext e172
             replace HB2 := HB2.ext e172
             replace HB3 := HB3.ext e172
             replace HF240 := HF240.ext e172
             replace HR2 := HR2.ext e172
             replace HGF := HGF.ext e172
             replace HGc := HGc.ext e172
             refine l_v (v_andT rfl rfl) ?_
             refine l_to (to_f1 zk (zvB rfl) (CallsR.mono (must_b (by rfl)) ?_))
             rintro _ w173 ⟨rfl, e173⟩
             have zs_e173 := e173.size
             replace E := E.trans (Ext.keep e173)
             replace HS1 := HS1.ext e173
             replace HB2 := HB2.ext e173
             replace HB3 := HB3.ext e173
             replace HF240 := HF240.ext e173
             replace HR2 := HR2.ext e173
             replace HGF := HGF.ext e173
             replace HGc := HGc.ext e173
             refine l_nil ?_
             refine n_then ?_
             refine c_seq ?_
             refine wp_reg zd ?_
             refine l_v (v_loadA zk rfl (by first | exact HB3.pv | exact HB2.pv | assumption) rfl) ?_
             refine l_to (to_storeA (n := 20) rfl rfl (zvA rfl) zk rfl dj6 HB2 dj5 ?_)
             rintro w174 HX174 k174 z174
             have zs_k174 := k174.size
             replace E := E.step k174 dj3
             replace HS1 := HS1.keep k174 dj1
             replace HB3 := HB3.keep k174 dj4
             replace HF240 := HF240.keep k174 dj2
             replace HR2 := HR2.keep k174 dj7 (by intro i hi he; have hi0 := hi; have hi := hi; have he := he; (try dsimp only [NoK] at hi he); first | exact he.elim | omega | (have := hF i hi0; omega))
             replace HGF := HGF.keep k174 dj1
             replace HGc := HGc.keep k174 dj1
             replace HB2 := HX174
             clear HX174
             try simp only [zS, Nat.zero_add, Nat.reduceAdd, List.drop_nil] at HB2
             refine l_to (to_store rfl rfl (zvI rfl) rfl zk HB3 dj5 ?_)
             rintro w175 HX175 k175 z175
             have zs_k175 := k175.size
             replace E := E.step k175 dj3
             replace HS1 := HS1.keep k175 dj1
             replace HB2 := HB2.keep k175 dj4
             replace HF240 := HF240.keep k175 dj2
             replace HR2 := HR2.keep k175 dj7 (by intro i hi he; have hi0 := hi; have hi := hi; have he := he; (try dsimp only [NoK] at hi he); first | exact he.elim | omega | (have := hF i hi0; omega))
             replace HGF := HGF.keep k175 dj1
             replace HGc := HGc.keep k175 dj1
             replace HB3 := HX175
             clear HX175
             try simp only [zS, Nat.zero_add, Nat.reduceAdd, List.drop_nil] at HB3
             refine l_nil ?_
             refine n_then ?_
             refine c_ret ?_
             exact read_yes (by rfl) (by rfl) HB2 (by rfl) HB3 (HGF.mono fun i _ h => by omega) E (by rw [rdAll, hcm, hz]; exact if_pos hm)
            ·
             refine c_seq ?_
             refine wp_reg zd ?_
             refine l_v (v_move (t := .pointer _) rfl) ?_
             refine l_to (to_f1 zk (zvP rfl) (CallsR.mono (End_n (n := 0) HR2 (if_pos hz)) ?_))
             rintro _ w176 ⟨rfl, e176⟩
             have zs_e176 := e176.size
             replace E := E.trans (Ext.keep e176)
             replace HS1 := HS1.ext e176
             replace HB2 := HB2.ext e176
             replace HB3 := HB3.ext e176
             replace HF240 := HF240.ext e176
             replace HR2 := HR2.ext e176
             replace HGF := HGF.ext e176
             replace HGc := HGc.ext e176
             refine l_v (OpVat.as (b := true) (v_eql rfl rfl) (by decide)) ?_
             refine l_v (v_move (t := .bool _) rfl) ?_
             refine l_gt rfl rfl (OpTo.of_v (v_loadA zk rfl (by first | exact HB3.pv | exact HB2.pv | assumption) rfl) ?_)
             refine l_gt rfl rfl (to_f1 zk (zvA rfl) (CallsR.mono (CMay_b (b := false) HGc (by simpa using hm)) ?_))
             rintro _ w177 ⟨rfl, e177⟩
             have zs_e177 := e177.size
             replace E := E.trans (Ext.keep e177)
             replace HS1 := HS1.ext e177
             replace HB2 := HB2.ext e177
             replace HB3 := HB3.ext e177
             replace HF240 := HF240.ext e177
             replace HR2 := HR2.ext e177
             replace HGF := HGF.ext e177
             replace HGc := HGc.ext e177
             refine l_v (v_andT rfl rfl) ?_
             refine l_die (die_f1 zk (zvB rfl) (CallsP.mono (must_e (by rfl)) ?_))
             rintro ch w241 ⟨hch, e241⟩
             have zs_e241 := e241.size
             replace E := E.trans (Ext.keep e241)
             replace HS1 := HS1.ext e241
             replace HB2 := HB2.ext e241
             replace HB3 := HB3.ext e241
             replace HF240 := HF240.ext e241
             replace HR2 := HR2.ext e241
             replace HGF := HGF.ext e241
             replace HGc := HGc.ext e241
             refine p_then ?_
             subst hch
             exact read_no (by rfl) (by rfl) HB2 (by rfl) HB3 (by omega) (by omega) (by omega) E (by rw [rdAll, hcm, hz]; exact if_neg hm)
           ·
            refine c_seq ?_
            refine wp_reg zd ?_
            refine l_v (v_move (t := .pointer _) rfl) ?_
            refine l_to (to_f1 zk (zvP rfl) (CallsR.mono (End_n (n := 4) HR2 (if_neg hz)) ?_))
            rintro _ w178 ⟨rfl, e178⟩
            have zs_e178 := e178.size
            replace E := E.trans (Ext.keep e178)
            replace HS1 := HS1.ext e178
            replace HB2 := HB2.ext e178
            replace HB3 := HB3.ext e178
            replace HF240 := HF240.ext e178
            replace HR2 := HR2.ext e178
            replace HGF := HGF.ext e178
            replace HGc := HGc.ext e178
            refine l_v (OpVat.as (b := false) (v_eql rfl rfl) (by decide)) ?_
            refine l_v (v_move (t := .bool _) rfl) ?_
            refine l_skip (u := .bool false) rfl rfl rfl ?_
            refine l_skip (u := .bool false) rfl rfl rfl ?_
            refine l_v (v_andC rfl) ?_
            refine l_die (die_f1 zk (zvB rfl) (CallsP.mono (must_e (by rfl)) ?_))
            rintro ch w242 ⟨hch, e242⟩
            have zs_e242 := e242.size
            replace E := E.trans (Ext.keep e242)
            replace HS1 := HS1.ext e242
            replace HB2 := HB2.ext e242
            replace HB3 := HB3.ext e242
            replace HF240 := HF240.ext e242
            replace HR2 := HR2.ext e242
            replace HGF := HGF.ext e242
            replace HGc := HGc.ext e242
            refine p_then ?_
            subst hch
            have hnn : rdAll l = none := rdAll_rest hcm hz
            exact read_no (by rfl) (by rfl) HB2 (by rfl) HB3 (by omega) (by omega) (by omega) E hnn
         ·
          refine c_seq ?_
          refine wp_reg zd ?_
          refine l_v (v_eql rfl rfl) ?_
          refine l_v (v_assign (t := .bool _) rfl) ?_
          refine l_nil ?_
          refine n_then ?_
          refine c_cond rfl rfl (fun h8 => ?_) (fun h8 => ?_)
          ·
           obtain rfl : k = 8 := by have := dtrue h8; omega
           by_cases g1 : rdRw 24 l1 = none
           ·
            refine c_seq ?_
            refine wp_reg zd ?_
            refine l_v (v_move (t := .pointer _) rfl) ?_
            refine l_die (die_f2 zk (zvP rfl) (zvI rfl) (CallsP.mono (raw_d (most := ((24 : Nat) : Int)) HR1 hF (by omega) (by omega) (by omega) g1) ?_))
            rintro ch w243 ⟨hch, k243⟩
            have zs_k243 := k243.size
            replace E := E.step k243 dj3
            replace HS1 := HS1.keep k243 dj1
            replace HB2 := HB2.keep k243 dj4
            replace HB3 := HB3.keep k243 dj4
            refine p_then ?_
            refine p_blk ?_
            refine p_then ?_
            subst hch
            exact read_no (by rfl) (by rfl) HB2 (by rfl) HB3 (by omega) (by omega) (by omega) E (by simp [rdAll, rdCm, h0, g1])
           ·
            refine c_seq ?_
            obtain ⟨⟨key, l2⟩, g1⟩ := Option.ne_none_iff_exists'.1 g1
            have bg1 := rdRw_ok g1
            refine wp_reg zd ?_
            refine l_v (v_move (t := .pointer _) rfl) ?_
            refine l_to (to_f2 zk (zvP rfl) (zvI rfl) (CallsR.mono (raw_c (most := ((24 : Nat) : Int)) HR1 hF (by omega) (by omega) (by omega) g1) ?_))
            rintro _ w244 ⟨⟨a244, c244, rfl, HF244⟩, HR2, k244⟩
            have zs_k244 := k244.size
            replace E := E.step k244 dj3
            replace HS1 := HS1.keep k244 dj1
            replace HB2 := HB2.keep k244 dj4
            replace HB3 := HB3.keep k244 dj4
            refine l_v (v_fieldAddr (off := 18) (ft := 24) zk rfl) ?_
            refine l_to (to_store rfl rfl (zvS rfl) rfl zk HB2 dj5 ?_)
            rintro w179 HX179 k179 z179
            have zs_k179 := k179.size
            replace E := E.step k179 dj3
            replace HS1 := HS1.keep k179 dj1
            replace HB3 := HB3.keep k179 dj4
            replace HF244 := HF244.keep k179 dj2
            replace HR2 := HR2.keep k179 dj7 (by intro i hi he; have hi0 := hi; have hi := hi; have he := he; (try dsimp only [NoK] at hi he); first | exact he.elim | omega | (have := hF i hi0; omega))
            replace HB2 := HX179
            clear HX179
            try simp only [zS, Nat.zero_add, Nat.reduceAdd, List.drop_nil] at HB2
            refine l_nil ?_
            refine n_then ?_
            by_cases g2 : rdSm 5 l2 = none
            ·
             refine wp_reg zd ?_
             refine l_v (v_move (t := .pointer _) rfl) ?_
             refine l_die (die_f2 zk (zvP rfl) (zvI rfl) (CallsP.mono (small_d (most := 5) HR2 hnF (by decide) (by decide) g2) ?_))
             rintro ch w245 ⟨hch, k245⟩
             have zs_k245 := k245.size
             replace E := E.step k245 dj3
             replace HS1 := HS1.keep k245 dj1
             replace HB2 := HB2.keep k245 dj4
             replace HB3 := HB3.keep k245 dj4
             replace HF244 := HF244.keep k245 dj2
             refine p_blk ?_
             refine p_then ?_
             subst hch
             exact read_no (by rfl) (by rfl) HB2 (by rfl) HB3 (by omega) (by omega) (by omega) E (by simp [rdAll, rdCm, h0, g1, g2])
            ·
             obtain ⟨⟨g, l3⟩, g2⟩ := Option.ne_none_iff_exists'.1 g2
             have bg2 := rdSm_ok g2
             refine wp_reg zd ?_
             refine l_v (v_move (t := .pointer _) rfl) ?_
             refine l_to (to_f2 zk (zvP rfl) (zvI rfl) (CallsR.mono (small_c (most := 5) HR2 hnF (by decide) (by decide) g2) ?_))
             rintro _ w246 ⟨rfl, HR3, k246⟩
             have zs_k246 := k246.size
             replace E := E.step k246 dj3
             replace HS1 := HS1.keep k246 dj1
             replace HB2 := HB2.keep k246 dj4
             replace HB3 := HB3.keep k246 dj4
             replace HF244 := HF244.keep k246 dj2
             have HGF : AgV tCmF w246 (fun i => n4 ≤ i) (.agg #[.int .i64 8, .int .i64 0, .int .i64 0, .int .i64 0, .slice none 0 0, .slice none 0 0, .slice none 0 0, .slice none 0 0, .bool false, .int .i64 0, .int .i64 0, .slice none 0 0, .slice none 0 0, .bool false, .int .i64 0, .int .i64 0, .slice none 0 0, .slice none 0 0, .slice a244 key.length c244, .int .i64 g]) _ := AgV.mkCmF ⟨by decide, by decide⟩ rq0_agF mv0_ag (SlV.nil _ _ _) (BvF.nil _ _) (HF244.mono fun i _ h => by omega) ⟨by omega, by omega⟩
             obtain ⟨cm, hcmq⟩ : ∃ c : CmV, rdCm l.length l = some (c, l3) ∧ AgV tCmF w246 (fun i => n4 ≤ i) (.agg #[.int .i64 8, .int .i64 0, .int .i64 0, .int .i64 0, .slice none 0 0, .slice none 0 0, .slice none 0 0, .slice none 0 0, .bool false, .int .i64 0, .int .i64 0, .slice none 0 0, .slice none 0 0, .bool false, .int .i64 0, .int .i64 0, .slice none 0 0, .slice none 0 0, .slice a244 key.length c244, .int .i64 g]) c := ⟨_, by simp [rdCm, h0, g1, g2], HGF⟩
             obtain ⟨hcm, HGF⟩ := hcmq
             have HGc := HGF.imp imp_cm
             refine l_v (v_fieldAddr (off := 19) (ft := 3) zk rfl) ?_
             refine l_to (to_store rfl rfl (zvI rfl) rfl zk HB2 dj5 ?_)
             rintro w180 HX180 k180 z180
             have zs_k180 := k180.size
             replace E := E.step k180 dj3
             replace HS1 := HS1.keep k180 dj1
             replace HB3 := HB3.keep k180 dj4
             replace HF244 := HF244.keep k180 dj2
             replace HR3 := HR3.keep k180 dj7 (by intro i hi he; have hi0 := hi; have hi := hi; have he := he; (try dsimp only [NoK] at hi he); first | exact he.elim | omega | (have := hF i hi0; omega))
             replace HGF := HGF.keep k180 dj1
             replace HGc := HGc.keep k180 dj1
             replace HB2 := HX180
             clear HX180
             try simp only [zS, Nat.zero_add, Nat.reduceAdd, List.drop_nil] at HB2
             refine l_nil ?_
             refine n_blk ?_
             refine n_then ?_
             by_cases hz : l3 = []
             ·
              by_cases hm : mayCm cm = true
              ·
               refine c_seq ?_
               refine wp_reg zd ?_
               refine l_v (v_move (t := .pointer _) rfl) ?_
               refine l_to (to_f1 zk (zvP rfl) (CallsR.mono (End_n (n := 0) HR3 (if_pos hz)) ?_))
               rintro _ w181 ⟨rfl, e181⟩
               have zs_e181 := e181.size
               replace E := E.trans (Ext.keep e181)
               replace HS1 := HS1.ext e181
               replace HB2 := HB2.ext e181
               replace HB3 := HB3.ext e181
               replace HF244 := HF244.ext e181
               replace HR3 := HR3.ext e181
               replace HGF := HGF.ext e181
               replace HGc := HGc.ext e181
               refine l_v (OpVat.as (b := true) (v_eql rfl rfl) (by decide)) ?_
               refine l_v (v_move (t := .bool _) rfl) ?_
               refine l_gt rfl rfl (OpTo.of_v (v_loadA zk rfl (by first | exact HB3.pv | exact HB2.pv | assumption) rfl) ?_)
               refine l_gt rfl rfl (to_f1 zk (zvA rfl) (CallsR.mono (CMay_b (b := true) HGc hm) ?_))
               rintro _ w182 ⟨rfl, e182⟩
               have zs_e182 := e182.size
               replace E := E.trans (Ext.keep e182)
               replace HS1 := HS1.ext e182
               replace HB2 := HB2.ext e182
               replace HB3 := HB3.ext e182
               replace HF244 := HF244.ext e182
               replace HR3 := HR3.ext e182
               replace HGF := HGF.ext e182
               replace HGc := HGc.ext e182
               refine l_v (v_andT rfl rfl) ?_
               refine l_to (to_f1 zk (zvB rfl) (CallsR.mono (must_b (by rfl)) ?_))
               rintro _ w183 ⟨rfl, e183⟩
               have zs_e183 := e183.size
               replace E := E.trans (Ext.keep e183)
               replace HS1 := HS1.ext e183
               replace HB2 := HB2.ext e183
               replace HB3 := HB3.ext e183
               replace HF244 := HF244.ext e183
               replace HR3 := HR3.ext e183
               replace HGF := HGF.ext e183
               replace HGc := HGc.ext e183
               refine l_nil ?_
               refine n_then ?_
               refine c_seq ?_
               refine wp_reg zd ?_
               refine l_v (v_loadA zk rfl (by first | exact HB3.pv | exact HB2.pv | assumption) rfl) ?_
               refine l_to (to_storeA (n := 20) rfl rfl (zvA rfl) zk rfl dj6 HB2 dj5 ?_)
               rintro w184 HX184 k184 z184
               have zs_k184 := k184.size
               replace E := E.step k184 dj3
               replace HS1 := HS1.keep k184 dj1
               replace HB3 := HB3.keep k184 dj4
               replace HF244 := HF244.keep k184 dj2
               replace HR3 := HR3.keep k184 dj7 (by intro i hi he; have hi0 := hi; have hi := hi; have he := he; (try dsimp only [NoK] at hi he); first | exact he.elim | omega | (have := hF i hi0; omega))
               replace HGF := HGF.keep k184 dj1
               replace HGc := HGc.keep k184 dj1
               replace HB2 := HX184
               clear HX184
               try simp only [zS, Nat.zero_add, Nat.reduceAdd, List.drop_nil] at HB2
               refine l_to (to_store rfl rfl (zvI rfl) rfl zk HB3 dj5 ?_)
               rintro w185 HX185 k185 z185
               have zs_k185 := k185.size
               replace E := E.step k185 dj3
               replace HS1 := HS1.keep k185 dj1
               replace HB2 := HB2.keep k185 dj4
               replace HF244 := HF244.keep k185 dj2
               replace HR3 := HR3.keep k185 dj7 (by intro i hi he; have hi0 := hi; have hi := hi; have he := he; (try dsimp only [NoK] at hi he); first | exact he.elim | omega | (have := hF i hi0; omega))
               replace HGF := HGF.keep k185 dj1
               replace HGc := HGc.keep k185 dj1
               replace HB3 := HX185
               clear HX185
               try simp only [zS, Nat.zero_add, Nat.reduceAdd, List.drop_nil] at HB3
               refine l_nil ?_
               refine n_then ?_
               refine c_ret ?_
               exact read_yes (by rfl) (by rfl) HB2 (by rfl) HB3 (HGF.mono fun i _ h => by omega) E (by rw [rdAll, hcm, hz]; exact if_pos hm)
              ·
               refine c_seq ?_
               refine wp_reg zd ?_
               refine l_v (v_move (t := .pointer _) rfl) ?_
               refine l_to (to_f1 zk (zvP rfl) (CallsR.mono (End_n (n := 0) HR3 (if_pos hz)) ?_))
               rintro _ w186 ⟨rfl, e186⟩
               have zs_e186 := e186.size
               replace E := E.trans (Ext.keep e186)
               replace HS1 := HS1.ext e186
               replace HB2 := HB2.ext e186
               replace HB3 := HB3.ext e186
               replace HF244 := HF244.ext e186
               replace HR3 := HR3.ext e186
               replace HGF := HGF.ext e186
               replace HGc := HGc.ext e186
               refine l_v (OpVat.as (b := true) (v_eql rfl rfl) (by decide)) ?_
               refine l_v (v_move (t := .bool _) rfl) ?_
               refine l_gt rfl rfl (OpTo.of_v (v_loadA zk rfl (by first | exact HB3.pv | exact HB2.pv | assumption) rfl) ?_)
               refine l_gt rfl rfl (to_f1 zk (zvA rfl) (CallsR.mono (CMay_b (b := false) HGc (by simpa using hm)) ?_))
               rintro _ w187 ⟨rfl, e187⟩
               have zs_e187 := e187.size
               replace E := E.trans (Ext.keep e187)
               replace HS1 := HS1.ext e187
               replace HB2 := HB2.ext e187
               replace HB3 := HB3.ext e187
               replace HF244 := HF244.ext e187
               replace HR3 := HR3.ext e187
               replace HGF := HGF.ext e187
               replace HGc := HGc.ext e187
               refine l_v (v_andT rfl rfl) ?_
               refine l_die (die_f1 zk (zvB rfl) (CallsP.mono (must_e (by rfl)) ?_))
               rintro ch w247 ⟨hch, e247⟩
               have zs_e247 := e247.size
               replace E := E.trans (Ext.keep e247)
               replace HS1 := HS1.ext e247
               replace HB2 := HB2.ext e247
               replace HB3 := HB3.ext e247
               replace HF244 := HF244.ext e247
               replace HR3 := HR3.ext e247
               replace HGF := HGF.ext e247
               replace HGc := HGc.ext e247
               refine p_then ?_
               subst hch
               exact read_no (by rfl) (by rfl) HB2 (by rfl) HB3 (by omega) (by omega) (by omega) E (by rw [rdAll, hcm, hz]; exact if_neg hm)
             ·
              refine c_seq ?_
              refine wp_reg zd ?_
              refine l_v (v_move (t := .pointer _) rfl) ?_
              refine l_to (to_f1 zk (zvP rfl) (CallsR.mono (End_n (n := 4) HR3 (if_neg hz)) ?_))
              rintro _ w188 ⟨rfl, e188⟩
              have zs_e188 := e188.size
              replace E := E.trans (Ext.keep e188)
              replace HS1 := HS1.ext e188
              replace HB2 := HB2.ext e188
              replace HB3 := HB3.ext e188
              replace HF244 := HF244.ext e188
              replace HR3 := HR3.ext e188
              replace HGF := HGF.ext e188
              replace HGc := HGc.ext e188
              refine l_v (OpVat.as (b := false) (v_eql rfl rfl) (by decide)) ?_
              refine l_v (v_move (t := .bool _) rfl) ?_
              refine l_skip (u := .bool false) rfl rfl rfl ?_
              refine l_skip (u := .bool false) rfl rfl rfl ?_
              refine l_v (v_andC rfl) ?_
              refine l_die (die_f1 zk (zvB rfl) (CallsP.mono (must_e (by rfl)) ?_))
              rintro ch w248 ⟨hch, e248⟩
              have zs_e248 := e248.size
              replace E := E.trans (Ext.keep e248)
              replace HS1 := HS1.ext e248
              replace HB2 := HB2.ext e248
              replace HB3 := HB3.ext e248
              replace HF244 := HF244.ext e248
              replace HR3 := HR3.ext e248
              replace HGF := HGF.ext e248
              replace HGc := HGc.ext e248
              refine p_then ?_
              subst hch
              have hnn : rdAll l = none := rdAll_rest hcm hz
              exact read_no (by rfl) (by rfl) HB2 (by rfl) HB3 (by omega) (by omega) (by omega) E hnn
          ·
           have hkk : ¬ k = 2 ∧ ¬ (k = 3 ∨ k = 5 ∨ k = 9 ∨ k = 10) ∧ ¬ k = 4 ∧ ¬ (k = 6 ∨ k = 7) ∧ ¬ k = 8 := by have := dfalse h2; have := dfalse h3; have := dfalse h5; have := dfalse h9; have := dfalse h10; have := dfalse h4; have := dfalse h6; have := dfalse h7; have := dfalse h8; omega
           have HGF : AgV tCmF w101 (fun i => n4 ≤ i) (.agg #[.int .i64 k, .int .i64 0, .int .i64 0, .int .i64 0, .slice none 0 0, .slice none 0 0, .slice none 0 0, .slice none 0 0, .bool false, .int .i64 0, .int .i64 0, .slice none 0 0, .slice none 0 0, .bool false, .int .i64 0, .int .i64 0, .slice none 0 0, .slice none 0 0, .slice none 0 0, .int .i64 0]) _ := AgV.mkCmF ⟨by omega, by omega⟩ rq0_agF mv0_ag (SlV.nil _ _ _) (BvF.nil _ _) (BvF.nil _ _) ⟨by decide, by decide⟩
           obtain ⟨cm, hcmq⟩ : ∃ c : CmV, rdCm l.length l = some (c, l1) ∧ AgV tCmF w101 (fun i => n4 ≤ i) (.agg #[.int .i64 k, .int .i64 0, .int .i64 0, .int .i64 0, .slice none 0 0, .slice none 0 0, .slice none 0 0, .slice none 0 0, .bool false, .int .i64 0, .int .i64 0, .slice none 0 0, .slice none 0 0, .bool false, .int .i64 0, .int .i64 0, .slice none 0 0, .slice none 0 0, .slice none 0 0, .int .i64 0]) c := ⟨_, by simp [rdCm, h0, hkk.1, hkk.2.1, hkk.2.2.1, hkk.2.2.2.1, hkk.2.2.2.2], HGF⟩
           obtain ⟨hcm, HGF⟩ := hcmq
           have HGc := HGF.imp imp_cm
           by_cases hz : l1 = []
           ·
            by_cases hm : mayCm cm = true
            ·
             refine c_skip ?_
             refine n_blk ?_
             refine n_then ?_
             refine c_seq ?_
             refine wp_reg zd ?_
             refine l_v (v_move (t := .pointer _) rfl) ?_
             refine l_to (to_f1 zk (zvP rfl) (CallsR.mono (End_n (n := 0) HR1 (if_pos hz)) ?_))
             rintro _ w189 ⟨rfl, e189⟩
             have zs_e189 := e189.size
             replace E := E.trans (Ext.keep e189)
             replace HS1 := HS1.ext e189
             replace HB2 := HB2.ext e189
             replace HB3 := HB3.ext e189
             replace HR1 := HR1.ext e189
             replace HGF := HGF.ext e189
             replace HGc := HGc.ext e189
             refine l_v (OpVat.as (b := true) (v_eql rfl rfl) (by decide)) ?_
             refine l_v (v_move (t := .bool _) rfl) ?_
             refine l_gt rfl rfl (OpTo.of_v (v_loadA zk rfl (by first | exact HB3.pv | exact HB2.pv | assumption) rfl) ?_)
             refine l_gt rfl rfl (to_f1 zk (zvA rfl) (CallsR.mono (CMay_b (b := true) HGc hm) ?_))
             rintro _ w190 ⟨rfl, e190⟩
             have zs_e190 := e190.size
             replace E := E.trans (Ext.keep e190)
             replace HS1 := HS1.ext e190
             replace HB2 := HB2.ext e190
             replace HB3 := HB3.ext e190
             replace HR1 := HR1.ext e190
             replace HGF := HGF.ext e190
             replace HGc := HGc.ext e190
             refine l_v (v_andT rfl rfl) ?_
             refine l_to (to_f1 zk (zvB rfl) (CallsR.mono (must_b (by rfl)) ?_))
             rintro _ w191 ⟨rfl, e191⟩
             have zs_e191 := e191.size
             replace E := E.trans (Ext.keep e191)
             replace HS1 := HS1.ext e191
             replace HB2 := HB2.ext e191
             replace HB3 := HB3.ext e191
             replace HR1 := HR1.ext e191
             replace HGF := HGF.ext e191
             replace HGc := HGc.ext e191
             refine l_nil ?_
             refine n_then ?_
             refine c_seq ?_
             refine wp_reg zd ?_
             refine l_v (v_loadA zk rfl (by first | exact HB3.pv | exact HB2.pv | assumption) rfl) ?_
             refine l_to (to_storeA (n := 20) rfl rfl (zvA rfl) zk rfl dj6 HB2 dj5 ?_)
             rintro w192 HX192 k192 z192
             have zs_k192 := k192.size
             replace E := E.step k192 dj3
             replace HS1 := HS1.keep k192 dj1
             replace HB3 := HB3.keep k192 dj4
             replace HR1 := HR1.keep k192 dj7 (by intro i hi he; have hi0 := hi; have hi := hi; have he := he; (try dsimp only [NoK] at hi he); first | exact he.elim | omega | (have := hF i hi0; omega))
             replace HGF := HGF.keep k192 dj1
             replace HGc := HGc.keep k192 dj1
             replace HB2 := HX192
             clear HX192
             try simp only [zS, Nat.zero_add, Nat.reduceAdd, List.drop_nil] at HB2
             refine l_to (to_store rfl rfl (zvI rfl) rfl zk HB3 dj5 ?_)
             rintro w193 HX193 k193 z193
             have zs_k193 := k193.size
             replace E := E.step k193 dj3
             replace HS1 := HS1.keep k193 dj1
             replace HB2 := HB2.keep k193 dj4
             replace HR1 := HR1.keep k193 dj7 (by intro i hi he; have hi0 := hi; have hi := hi; have he := he; (try dsimp only [NoK] at hi he); first | exact he.elim | omega | (have := hF i hi0; omega))
             replace HGF := HGF.keep k193 dj1
             replace HGc := HGc.keep k193 dj1
             replace HB3 := HX193
             clear HX193
             try simp only [zS, Nat.zero_add, Nat.reduceAdd, List.drop_nil] at HB3
             refine l_nil ?_
             refine n_then ?_
             refine c_ret ?_
             exact read_yes (by rfl) (by rfl) HB2 (by rfl) HB3 (HGF.mono fun i _ h => by omega) E (by rw [rdAll, hcm, hz]; exact if_pos hm)
            ·
             refine c_skip ?_
             refine n_blk ?_
             refine n_then ?_
             refine c_seq ?_
             refine wp_reg zd ?_
             refine l_v (v_move (t := .pointer _) rfl) ?_
             refine l_to (to_f1 zk (zvP rfl) (CallsR.mono (End_n (n := 0) HR1 (if_pos hz)) ?_))
             rintro _ w194 ⟨rfl, e194⟩
             have zs_e194 := e194.size
             replace E := E.trans (Ext.keep e194)
             replace HS1 := HS1.ext e194
             replace HB2 := HB2.ext e194
             replace HB3 := HB3.ext e194
             replace HR1 := HR1.ext e194
             replace HGF := HGF.ext e194
             replace HGc := HGc.ext e194
             refine l_v (OpVat.as (b := true) (v_eql rfl rfl) (by decide)) ?_
             refine l_v (v_move (t := .bool _) rfl) ?_
             refine l_gt rfl rfl (OpTo.of_v (v_loadA zk rfl (by first | exact HB3.pv | exact HB2.pv | assumption) rfl) ?_)
             refine l_gt rfl rfl (to_f1 zk (zvA rfl) (CallsR.mono (CMay_b (b := false) HGc (by simpa using hm)) ?_))
             rintro _ w195 ⟨rfl, e195⟩
             have zs_e195 := e195.size
             replace E := E.trans (Ext.keep e195)
             replace HS1 := HS1.ext e195
             replace HB2 := HB2.ext e195
             replace HB3 := HB3.ext e195
             replace HR1 := HR1.ext e195
             replace HGF := HGF.ext e195
             replace HGc := HGc.ext e195
             refine l_v (v_andT rfl rfl) ?_
             refine l_die (die_f1 zk (zvB rfl) (CallsP.mono (must_e (by rfl)) ?_))
             rintro ch w249 ⟨hch, e249⟩
             have zs_e249 := e249.size
             replace E := E.trans (Ext.keep e249)
             replace HS1 := HS1.ext e249
             replace HB2 := HB2.ext e249
             replace HB3 := HB3.ext e249
             replace HR1 := HR1.ext e249
             replace HGF := HGF.ext e249
             replace HGc := HGc.ext e249
             refine p_then ?_
             subst hch
             exact read_no (by rfl) (by rfl) HB2 (by rfl) HB3 (by omega) (by omega) (by omega) E (by rw [rdAll, hcm, hz]; exact if_neg hm)
           ·
            refine c_skip ?_
            refine n_blk ?_
            refine n_then ?_
            refine c_seq ?_
            refine wp_reg zd ?_
            refine l_v (v_move (t := .pointer _) rfl) ?_
            refine l_to (to_f1 zk (zvP rfl) (CallsR.mono (End_n (n := 4) HR1 (if_neg hz)) ?_))
            rintro _ w196 ⟨rfl, e196⟩
            have zs_e196 := e196.size
            replace E := E.trans (Ext.keep e196)
            replace HS1 := HS1.ext e196
            replace HB2 := HB2.ext e196
            replace HB3 := HB3.ext e196
            replace HR1 := HR1.ext e196
            replace HGF := HGF.ext e196
            replace HGc := HGc.ext e196
            refine l_v (OpVat.as (b := false) (v_eql rfl rfl) (by decide)) ?_
            refine l_v (v_move (t := .bool _) rfl) ?_
            refine l_skip (u := .bool false) rfl rfl rfl ?_
            refine l_skip (u := .bool false) rfl rfl rfl ?_
            refine l_v (v_andC rfl) ?_
            refine l_die (die_f1 zk (zvB rfl) (CallsP.mono (must_e (by rfl)) ?_))
            rintro ch w250 ⟨hch, e250⟩
            have zs_e250 := e250.size
            replace E := E.trans (Ext.keep e250)
            replace HS1 := HS1.ext e250
            replace HB2 := HB2.ext e250
            replace HB3 := HB3.ext e250
            replace HR1 := HR1.ext e250
            replace HGF := HGF.ext e250
            replace HGc := HGc.ext e250
            refine p_then ?_
            subst hch
            have hnn : rdAll l = none := rdAll_rest hcm hz
            exact read_no (by rfl) (by rfl) HB2 (by rfl) HB3 (by omega) (by omega) (by omega) E hnn
end Go.Proofs.YtogafjlbpodgjaaGreat
