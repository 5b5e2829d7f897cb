/- A part of the proof: steps and lemmas for the walks through the given program. -/
import Derived.Test.YtogafjlbpodgjaaGreatC16
namespace Go.Proofs.YtogafjlbpodgjaaGreat
open Go.Vc
set_option linter.unusedVariables false
set_option linter.unusedSimpArgs false
set_option maxRecDepth 100000

theorem rdAll_rest {l r : List UInt8} {c : CmV} (h : rdCm l.length l = some (c, r)) (hz : ¬ r = []) : rdAll l = none := by
  rw [rdAll, h]
  cases r with
  | nil => exact absurd rfl hz
  | cons => rfl
def ReadR (l : List UInt8) (w : World) : Value → World → Prop := fun o w' => (∃ u c e, o = .tuple #[u, .int .i64 e] ∧ AgV tCmF w' (fun i => w.heap.size ≤ i) u c ∧ ((e = 0 ∧ rdAll l = some c) ∨ (e = 4 ∧ c = cmZ ∧ rdAll l = none))) ∧ Ext w w'
theorem read_no {w W : World} {l : List UInt8} {b2 b3 : Nat} {cs2 : List Value} {e0 : Value} {e : Nat → Value} (he2 : e 2 = .pointer (some ⟨b2, 0, none⟩)) (he3 : e 3 = .pointer (some ⟨b3, 0, none⟩)) (HB2 : Blk W b2 cs2 33) (hl2 : cs2.length = 20) (HB3 : Blk W b3 [e0] 36)
    (hne : b2 ≠ b3) (h2 : w.heap.size ≤ b2) (h3 : w.heap.size ≤ b3) (E : Ext w W) (hn : rdAll l = none) :
    bodyPostDIn (Fw none) 0 Tryz.prog Tryz.f11 (Ret (ReadR l w)) (.panic nonE) (FrD 81 e [{ target := .fn (.func 33) #[.pointer (some ⟨b2, 0, none⟩), .pointer (some ⟨b3, 0, none⟩)], args := #[] }]) W := by
  refine leave_p (ds := []) zk (rec_p HB2 hl2 HB3 hne) (fun w' hS => ?_)
  obtain ⟨hB2, hB3, hk⟩ := hS
  refine ⟨_, res_2 rfl zq zq he2 he3 zk zk hB2.pv rfl (hB3.cell rfl), ?_⟩
  refine ⟨⟨_, cmZ, 4, rfl, cmZ_agF, .inr ⟨rfl, rfl, hn⟩⟩, E.step hk fun i hi h => by rcases h with h | h <;> omega⟩
theorem read_yes {w W : World} {l : List UInt8} {b2 b3 : Nat} {cs2 : List Value} {c : CmV} {e : Nat → Value} (he2 : e 2 = .pointer (some ⟨b2, 0, none⟩)) (he3 : e 3 = .pointer (some ⟨b3, 0, none⟩)) (HB2 : Blk W b2 cs2 33) (hl2 : cs2.length = 20) (HB3 : Blk W b3 [.int .i64 0] 36)
    (HG : AgV tCmF W (fun i => w.heap.size ≤ i) (.agg cs2.toArray) c) (E : Ext w W) (hy : rdAll l = some c) :
    bodyPostDIn (Fw none) 0 Tryz.prog Tryz.f11 (Ret (ReadR l w)) .ret (FrD 81 e [{ target := .fn (.func 33) #[.pointer (some ⟨b2, 0, none⟩), .pointer (some ⟨b3, 0, none⟩)], args := #[] }]) W := by
  refine leave_r (ds := []) zk rec_r (fun w' hS => ?_)
  refine ⟨_, res_2 rfl zq zq he2 he3 zk zk (HB2.ext hS).pv hl2 ((HB3.ext hS).cell rfl), ?_⟩
  exact ⟨⟨_, c, 0, rfl, HG.ext hS, .inl ⟨rfl, hy⟩⟩, E.trans hS⟩
theorem must_b {w : World} {b : Bool} (hb : b = true) : CallsR Tryz.prog 40 #[.bool b] w (fun o w' => o = .tuple #[] ∧ Ext w w') := by subst hb; exact must_c
theorem must_e {w : World} {b : Bool} (hb : b = false) : CallsP Tryz.prog 40 #[.bool b] w (fun ch w' => ch = nonE ∧ Ext w w') := by subst hb; exact must_d
theorem End_n {w : World} {b : Nat} {F : Nat → Prop} {l : List UInt8} {n : Int} (hr : Rd nRd w b F l) (hn : (if l = [] then 0 else 4) = n) : CallsR Tryz.prog 41 #[.pointer (some ⟨b, 0, none⟩)] w (fun r w' => r = .int .i64 n ∧ Ext w w') := by subst hn; exact End_c hr
set_option maxHeartbeats 16000000 in
theorem CRead_c {w : World} {F : Nat → Prop} {v : Value} {l : List UInt8} (HS1 : Bv w F v l) (hl : l.length ≤ 1000000) : CallsR Tryz.prog 11 #[v] w (ReadR l w) := by
 obtain ⟨a0, c0, rfl⟩ := HS1.shape
 refine enterD 81 Tryz.func11 rfl rfl (by simp) ?_
 refine c_seq ?_
 have E := Keep.refl (K := NoK) w
 replace HS1 := HS1.all
 refine wp_reg zd (l_to (to_alloc (z := (.agg #[.int .i64 0, .int .i64 0, .int .i64 0, .int .i64 0, .slice none 0 0, .slice none 0 0, .slice none 0 0, .slice none 0 0, .bool false, .int .i64 0, .int .i64 0, .slice none 0 0, .slice none 0 0, .bool false, .int .i64 0, .int .i64 0, .slice none 0 0, .slice none 0 0, .slice none 0 0, .int .i64 0])) (by unfold kZero; kernel_rfl) ?_))
 rintro b2 w2 zb2 HB2 e2 z2
 have := e2.size
 try simp only [Value.cells] at HB2
 refine l_to (to_alloc (z := (.int .i64 0)) (by unfold kZero; kernel_rfl) ?_)
 rintro b3 w3 zb3 HB3 e3 z3
 have := e3.size
 try simp only [Value.cells] at HB3
 refine l_nil (n_then (c_seq (wp_defer2 zq zq (show _ = Value.pointer _ from rfl) (show _ = Value.pointer _ from rfl) ?_)))
 replace HS1 := (HS1.ext e2).ext e3
 refine n_then (c_seq (wp_reg zd (l_v (zmS rfl) (l_to (to_f1 zk (zvS rfl) (CallsR.mono (Open_c HS1 zo) ?_))))))
 rintro _ w4 ⟨b4, rfl, HR, hb4, e4, zb4⟩
 have := e4.size
 have hF : ∀ k, (w3.heap.size ≤ k ∧ k < b4) → k < b4 := fun k hk => hk.2
 have hnF : ¬ (w3.heap.size ≤ b4 ∧ b4 < b4) := by omega
 obtain ⟨n4, hn4⟩ : ∃ n, n = w4.heap.size := ⟨_, rfl⟩
 refine l_v (zaP rfl) (l_nil (n_then ?_))
 replace E := ((E.trans e2.keep).trans e3.keep).trans e4.keep
 replace HB2 := (HB2.ext e3).ext e4
 replace HS1 := HS1.ext e4
 replace HB3 := HB3.ext e4
 by_cases h0 : rdSm 10 l = none
 ·
  refine c_seq (wp_reg zd (l_v (zmP rfl) (l_die (die_f2 zk (zvP rfl) (zvI rfl) (CallsP.mono (small_d (most := 10) HR hnF zq zq h0) ?_)))))
  rintro ch w201 ⟨hch, k201⟩
  have := k201.size
  refine p_then ?_
  subst hch
  replace E := E.step k201 dj3
  replace HB2 := HB2.keep k201 dj4
  replace HB3 := HB3.keep k201 dj4
  exact read_no (by rfl) (by rfl) HB2 (by rfl) HB3 zo zo zo E (by simp [rdAll, rdCm, h0])
 refine c_seq ?_
 obtain ⟨⟨k, l1⟩, h0⟩ := Option.ne_none_iff_exists'.1 h0
 have bh0 := rdSm_ok h0
 refine wp_reg zd (l_v (zmP rfl) (l_to (to_f2 zk (zvP rfl) (zvI rfl) (CallsR.mono (small_c (most := 10) HR hnF zq zq h0) ?_))))
 rintro _ w202 ⟨rfl, HR1, k202⟩
 have := k202.size
 replace HB2 := HB2.keep k202 dj4
 refine l_v (v_fieldAddr (off := 0) (ft := 22) zk rfl) (l_to (to_store rfl rfl (zvI rfl) rfl zk HB2 dj5 ?_))
 rintro w101 HX101 k101 z101
 have := k101.size
 replace HB2 := HX101
 clear HX101
 try simp only [zS, Nat.zero_add, Nat.reduceAdd, List.drop_nil] at HB2
 replace HB3 := (HB3.keep k202 dj4).keep k101 dj4
 refine l_nil (n_then (c_seq (c_seq (wp_reg zd (l_v (v_fieldAddr (off := 0) (ft := 22) zk rfl) (l_v (v_load zk rfl (by first | exact HB3.pv 0 _ rfl | exact HB2.pv 0 _ rfl | assumption)) ?_))))))
 refine l_nil (n_then (c_block (c_seq (wp_reg zd (l_v (v_eql rfl rfl) ?_)))))
 replace E := (E.step k202 dj3).step k101 dj3
 replace HS1 := (HS1.keep k202 dj1).keep k101 dj1
 replace HR1 := HR1.keep k101 dj7 (by intro i hi he; have hi0 := hi; have hi := hi; have he := he; (try dsimp only [NoK] at hi he); first | exact he.elim | omega | (have := hF i hi0; omega))
 refine l_v (zaB rfl) (l_nil (n_then (c_cond rfl rfl (fun h2 => ?_) (fun h2 => ?_))))
 ·
  obtain rfl : k = 2 := by have := dtrue h2; omega
  by_cases h1 : rdSm 4 l1 = none
  ·
   refine c_seq (wp_reg zd (l_v (zmP rfl) (l_die (die_f2 zk (zvP rfl) (zvI rfl) (CallsP.mono (small_d (most := 4) HR1 hnF zq zq h1) ?_)))))
   rintro ch w203 ⟨hch, k203⟩
   have := k203.size
   refine p_then ?_
   refine p_blk ?_
   refine p_then ?_
   subst hch
   replace E := E.step k203 dj3
   replace HB2 := HB2.keep k203 dj4
   replace HB3 := HB3.keep k203 dj4
   exact read_no (by rfl) (by rfl) HB2 (by rfl) HB3 zo zo zo E (by simp [rdAll, rdCm, h0, h1])
  refine c_seq ?_
  obtain ⟨⟨rc, l2⟩, h1⟩ := Option.ne_none_iff_exists'.1 h1
  have bh1 := rdSm_ok h1
  refine wp_reg zd (l_v (zmP rfl) (l_to (to_f2 zk (zvP rfl) (zvI rfl) (CallsR.mono (small_c (most := 4) HR1 hnF zq zq h1) ?_))))
  rintro _ w204 ⟨rfl, HR2, k204⟩
  have := k204.size
  replace HB2 := HB2.keep k204 dj4
  refine l_v (v_fieldAddr (off := 1) (ft := 28) zk rfl) (l_v (v_fieldAddr (off := 0) (ft := 3) zk rfl) (l_to (to_store (i := 1) rfl rfl (zvI rfl) rfl zk HB2 dj5 ?_)))
  rintro w102 HX102 k102 z102
  have := k102.size
  try simp only [add_block] at k102
  try simp only [add_block] at HX102
  replace HB2 := HX102
  clear HX102
  try simp only [zS, Nat.zero_add, Nat.reduceAdd, List.drop_nil] at HB2
  refine l_nil (n_then ?_)
  replace E := (E.step k204 dj3).step k102 dj3
  replace HS1 := (HS1.keep k204 dj1).keep k102 dj1
  replace HB3 := (HB3.keep k204 dj4).keep k102 dj4
  replace HR2 := HR2.keep k102 dj7 (by intro i hi he; have hi0 := hi; have hi := hi; have he := he; (try dsimp only [NoK] at hi he); first | exact he.elim | omega | (have := hF i hi0; omega))
  by_cases h3 : rdSm 2147483647 l2 = none
  ·
   refine c_seq (wp_reg zd (l_v (zmP rfl) (l_die (die_f2 zk (zvP rfl) (zvI rfl) (CallsP.mono (small_d (most := 2147483647) HR2 hnF zq zq h3) ?_)))))
   rintro ch w205 ⟨hch, k205⟩
   have := k205.size
   refine p_then ?_
   refine p_blk ?_
   refine p_then ?_
   subst hch
   replace E := E.step k205 dj3
   replace HB2 := HB2.keep k205 dj4
   replace HB3 := HB3.keep k205 dj4
   exact read_no (by rfl) (by rfl) HB2 (by rfl) HB3 zo zo zo E (by simp [rdAll, rdCm, h0, h1, h3])
  refine c_seq ?_
  obtain ⟨⟨rn, l3⟩, h3⟩ := Option.ne_none_iff_exists'.1 h3
  have bh3 := rdSm_ok h3
  refine wp_reg zd (l_v (zmP rfl) (l_to (to_f2 zk (zvP rfl) (zvI rfl) (CallsR.mono (small_c (most := 2147483647) HR2 hnF zq zq h3) ?_))))
  rintro _ w206 ⟨rfl, HR3, k206⟩
  have := k206.size
  replace HB2 := HB2.keep k206 dj4
  refine l_v (v_fieldAddr (off := 1) (ft := 28) zk rfl) (l_v (v_fieldAddr (off := 1) (ft := 2) zk rfl) (l_to (to_store (i := 2) rfl rfl (zvI rfl) rfl zk HB2 dj5 ?_)))
  rintro w103 HX103 k103 z103
  have := k103.size
  try simp only [add_block] at k103
  try simp only [add_block] at HX103
  replace HB2 := HX103
  clear HX103
  try simp only [zS, Nat.zero_add, Nat.reduceAdd, List.drop_nil] at HB2
  refine l_nil (n_then ?_)
  replace E := (E.step k206 dj3).step k103 dj3
  replace HS1 := (HS1.keep k206 dj1).keep k103 dj1
  replace HB3 := (HB3.keep k206 dj4).keep k103 dj4
  replace HR3 := HR3.keep k103 dj7 (by intro i hi he; have hi0 := hi; have hi := hi; have he := he; (try dsimp only [NoK] at hi he); first | exact he.elim | omega | (have := hF i hi0; omega))
  by_cases h4 : rdAk l3 = none
  ·
   refine wp_reg zd (l_v (zmP rfl) (l_die (die_f1 zk (zvP rfl) (CallsP.mono (anAsk_d HR3 hF zo h4) ?_))))
   rintro ch w207 ⟨hch, k207⟩
   have := k207.size
   refine p_blk ?_
   refine p_then ?_
   subst hch
   replace E := E.step k207 dj3
   replace HB2 := HB2.keep k207 dj4
   replace HB3 := HB3.keep k207 dj4
   exact read_no (by rfl) (by rfl) HB2 (by rfl) HB3 zo zo zo E (by simp [rdAll, rdCm, h0, h1, h3, h4])
  obtain ⟨⟨ra, l4⟩, h4⟩ := Option.ne_none_iff_exists'.1 h4
  have bh4 := rdAk_ok h4
  refine wp_reg zd (l_v (zmP rfl) (l_to (to_f1 zk (zvP rfl) (CallsR.mono (anAsk_c HR3 hF zo h4) ?_))))
  rintro _ w208 ⟨HG208, HR4, k208⟩
  have := k208.size
  obtain ⟨a208a, c208a, a208b, c208b, a208c, c208c, a208d, c208d, rfl⟩ := HG208.akF
  have HGF : AgV tCmF w208 (fun i => n4 ≤ i) (.agg #[.int .i64 2, .int .i64 rc, .int .i64 rn, .int .i64 ra.1, .slice a208a ra.2.1.length c208a, .slice a208b ra.2.2.1.length c208b, .slice a208c ra.2.2.2.1.length c208c, .slice a208d ra.2.2.2.2.1.length c208d, .bool ra.2.2.2.2.2.1, .int .i64 ra.2.2.2.2.2.2, .int .i64 0, .slice none 0 0, .slice none 0 0, .bool false, .int .i64 0, .int .i64 0, .slice none 0 0, .slice none 0 0, .slice none 0 0, .int .i64 0]) _ := AgV.mkCmF ⟨by decide, by decide⟩ (AgV.mkRqF (HG208.mono fun i _ h => by omega) ⟨by omega, by omega⟩ ⟨by omega, by omega⟩) mv0_ag (SlV.nil _ _ _) (BvF.nil _ _) (BvF.nil _ _) ⟨by decide, by decide⟩
  replace E := E.step k208 dj3
  replace HS1 := HS1.keep k208 dj1
  replace HB2 := HB2.keep k208 dj4
  replace HB3 := HB3.keep k208 dj4
  obtain ⟨cm, hcmq⟩ : ∃ c : CmV, rdCm l.length l = some (c, l4) ∧ AgV tCmF w208 (fun i => n4 ≤ i) (.agg #[.int .i64 2, .int .i64 rc, .int .i64 rn, .int .i64 ra.1, .slice a208a ra.2.1.length c208a, .slice a208b ra.2.2.1.length c208b, .slice a208c ra.2.2.2.1.length c208c, .slice a208d ra.2.2.2.2.1.length c208d, .bool ra.2.2.2.2.2.1, .int .i64 ra.2.2.2.2.2.2, .int .i64 0, .slice none 0 0, .slice none 0 0, .bool false, .int .i64 0, .int .i64 0, .slice none 0 0, .slice none 0 0, .slice none 0 0, .int .i64 0]) c := ⟨_, by simp [rdCm, h0, h1, h3, h4], HGF⟩
  obtain ⟨hcm, HGF⟩ := hcmq
  have HGc := HGF.imp imp_cm
  refine l_v (v_fieldAddr (off := 1) (ft := 28) zk rfl) (l_v (v_fieldAddr (off := 2) (ft := 26) zk rfl) (l_to (to_storeA (n := 7) (i := 3) rfl rfl (zvA rfl) zk rfl dj6 HB2 dj5 ?_)))
  rintro w104 HX104 k104 z104
  have := k104.size
  try simp only [add_block] at k104
  try simp only [add_block] at HX104
  replace HB2 := HX104
  clear HX104
  try simp only [zS, Nat.zero_add, Nat.reduceAdd, List.drop_nil] at HB2
  refine l_nil (n_blk (n_then ?_))
  replace E := E.step k104 dj3
  replace HS1 := HS1.keep k104 dj1
  replace HB3 := HB3.keep k104 dj4
  replace HG208 := HG208.keep k104 dj1
  replace HR4 := HR4.keep k104 dj7 (by intro i hi he; have hi0 := hi; have hi := hi; have he := he; (try dsimp only [NoK] at hi he); first | exact he.elim | omega | (have := hF i hi0; omega))
  replace HGF := HGF.keep k104 dj1
  replace HGc := HGc.keep k104 dj1
  by_cases hz : l4 = []
  ·
   by_cases hm : mayCm cm = true
   ·
    refine c_seq (wp_reg zd (l_v (zmP rfl) (l_to (to_f1 zk (zvP rfl) (CallsR.mono (End_n (n := 0) HR4 (if_pos hz)) ?_)))))
    rintro _ w105 ⟨rfl, e105⟩
    have := e105.size
    refine l_v (OpVat.as (b := true) (v_eql rfl rfl) zq) ?_
    replace HB2 := HB2.ext e105
    replace HB3 := HB3.ext e105
    refine l_v (zmB rfl) (l_gt rfl rfl (OpTo.of_v (v_loadA zk rfl (by first | exact HB3.pv | exact HB2.pv | assumption) rfl) ?_))
    replace HGc := HGc.ext e105
    refine l_gt rfl rfl (to_f1 zk (zvA rfl) (CallsR.mono (CMay_b (b := true) HGc hm) ?_))
    rintro _ w106 ⟨rfl, e106⟩
    have := e106.size
    refine l_v (v_andT rfl rfl) ?_
    refine l_to (to_f1 zk (zvB rfl) (CallsR.mono (must_b (by rfl)) ?_))
    rintro _ w107 ⟨rfl, e107⟩
    have := e107.size
    replace HB2 := (HB2.ext e106).ext e107
    replace HB3 := (HB3.ext e106).ext e107
    refine l_nil (n_then (c_seq (wp_reg zd (l_v (v_loadA zk rfl (by first | exact HB3.pv | exact HB2.pv | assumption) rfl) ?_))))
    refine l_to (to_storeA (n := 20) rfl rfl (zvA rfl) zk rfl dj6 HB2 dj5 ?_)
    rintro w108 HX108 k108 z108
    have := k108.size
    replace HB2 := HX108
    clear HX108
    try simp only [zS, Nat.zero_add, Nat.reduceAdd, List.drop_nil] at HB2
    replace HB3 := HB3.keep k108 dj4
    refine l_to (to_store rfl rfl (zvI rfl) rfl zk HB3 dj5 ?_)
    rintro w109 HX109 k109 z109
    have := k109.size
    replace HB3 := HX109
    clear HX109
    try simp only [zS, Nat.zero_add, Nat.reduceAdd, List.drop_nil] at HB3
    refine l_nil (n_then (c_ret ?_))
    replace E := ((((E.trans e105.keep).trans e106.keep).trans e107.keep).step k108 dj3).step k109 dj3
    replace HGF := ((((HGF.ext e105).ext e106).ext e107).keep k108 dj1).keep k109 dj1
    replace HB2 := HB2.keep k109 dj4
    exact read_yes (by rfl) (by rfl) HB2 (by rfl) HB3 (HGF.mono fun i _ h => by omega) E (by rw [rdAll, hcm, hz]; exact if_pos hm)
   refine c_seq (wp_reg zd (l_v (zmP rfl) (l_to (to_f1 zk (zvP rfl) (CallsR.mono (End_n (n := 0) HR4 (if_pos hz)) ?_)))))
   rintro _ w110 ⟨rfl, e110⟩
   have := e110.size
   refine l_v (OpVat.as (b := true) (v_eql rfl rfl) zq) ?_
   replace HB2 := HB2.ext e110
   replace HB3 := HB3.ext e110
   refine l_v (zmB rfl) (l_gt rfl rfl (OpTo.of_v (v_loadA zk rfl (by first | exact HB3.pv | exact HB2.pv | assumption) rfl) ?_))
   replace HGc := HGc.ext e110
   refine l_gt rfl rfl (to_f1 zk (zvA rfl) (CallsR.mono (CMay_b (b := false) HGc (by simpa using hm)) ?_))
   rintro _ w111 ⟨rfl, e111⟩
   have := e111.size
   refine l_v (v_andT rfl rfl) ?_
   refine l_die (die_f1 zk (zvB rfl) (CallsP.mono (must_e (by rfl)) ?_))
   rintro ch w209 ⟨hch, e209⟩
   have := e209.size
   refine p_then ?_
   subst hch
   replace E := ((E.trans e110.keep).trans e111.keep).trans e209.keep
   replace HB2 := (HB2.ext e111).ext e209
   replace HB3 := (HB3.ext e111).ext e209
   exact read_no (by rfl) (by rfl) HB2 (by rfl) HB3 zo zo zo E (by rw [rdAll, hcm, hz]; exact if_neg hm)
  refine c_seq (wp_reg zd (l_v (zmP rfl) (l_to (to_f1 zk (zvP rfl) (CallsR.mono (End_n (n := 4) HR4 (if_neg hz)) ?_)))))
  rintro _ w112 ⟨rfl, e112⟩
  have := e112.size
  refine l_v (OpVat.as (b := false) (v_eql rfl rfl) zq) ?_
  refine l_v (zmB rfl) (l_skip (u := .bool false) rfl rfl rfl ?_)
  refine l_skip (u := .bool false) rfl rfl rfl ?_
  refine l_v (v_andC rfl) ?_
  refine l_die (die_f1 zk (zvB rfl) (CallsP.mono (must_e (by rfl)) ?_))
  rintro ch w210 ⟨hch, e210⟩
  have := e210.size
  refine p_then ?_
  subst hch
  have hnn : rdAll l = none := rdAll_rest hcm hz
  replace E := (E.trans e112.keep).trans e210.keep
  replace HB2 := (HB2.ext e112).ext e210
  replace HB3 := (HB3.ext e112).ext e210
  exact read_no (by rfl) (by rfl) HB2 (by rfl) HB3 zo zo zo E hnn
 refine c_seq (c_seq (wp_reg zd (l_v (v_eql rfl rfl) ?_)))
 refine l_v (zaB rfl) (l_nil (n_then (c_cond rfl rfl (fun h3 => ?_) (fun h3 => ?_))))
 ·
  refine c_skip (n_then (c_cond rfl rfl (fun hx => ?_) (fun hx => ?_)))
  ·
   obtain rfl : k = 3 := by have := dtrue h3; omega
   by_cases g1 : rdMv l1 = none
   ·
    refine wp_reg zd (l_v (zmP rfl) (l_die (die_f1 zk (zvP rfl) (CallsP.mono (aMove_d HR1 hF zo g1) ?_))))
    rintro ch w211 ⟨hch, k211⟩
    have := k211.size
    refine p_blk ?_
    refine p_then ?_
    subst hch
    replace E := E.step k211 dj3
    replace HB2 := HB2.keep k211 dj4
    replace HB3 := HB3.keep k211 dj4
    exact read_no (by rfl) (by rfl) HB2 (by rfl) HB3 zo zo zo E (by simp [rdAll, rdCm, h0, g1])
   obtain ⟨⟨m, l2⟩, g1⟩ := Option.ne_none_iff_exists'.1 g1
   have bg1 := rdMv_ok g1
   refine wp_reg zd (l_v (zmP rfl) (l_to (to_f1 zk (zvP rfl) (CallsR.mono (aMove_c HR1 hF zo g1) ?_))))
   rintro _ w212 ⟨HG212, HR2, k212⟩
   have := k212.size
   obtain ⟨a212a, c212a, a212b, c212b, rfl, _⟩ := HG212.mv
   have HGF : AgV tCmF w212 (fun i => n4 ≤ i) (.agg #[.int .i64 3, .int .i64 0, .int .i64 0, .int .i64 0, .slice none 0 0, .slice none 0 0, .slice none 0 0, .slice none 0 0, .bool false, .int .i64 0, .int .i64 m.1, .slice a212a m.2.1.length c212a, .slice a212b m.2.2.1.length c212b, .bool m.2.2.2.1, .int .i64 m.2.2.2.2.1, .int .i64 m.2.2.2.2.2, .slice none 0 0, .slice none 0 0, .slice none 0 0, .int .i64 0]) _ := AgV.mkCmF ⟨by decide, by decide⟩ rq0_agF (HG212.mono fun i _ h => by omega) (SlV.nil _ _ _) (BvF.nil _ _) (BvF.nil _ _) ⟨by decide, by decide⟩
   replace E := E.step k212 dj3
   replace HS1 := HS1.keep k212 dj1
   replace HB2 := HB2.keep k212 dj4
   replace HB3 := HB3.keep k212 dj4
   obtain ⟨cm, hcmq⟩ : ∃ c : CmV, rdCm l.length l = some (c, l2) ∧ AgV tCmF w212 (fun i => n4 ≤ i) (.agg #[.int .i64 3, .int .i64 0, .int .i64 0, .int .i64 0, .slice none 0 0, .slice none 0 0, .slice none 0 0, .slice none 0 0, .bool false, .int .i64 0, .int .i64 m.1, .slice a212a m.2.1.length c212a, .slice a212b m.2.2.1.length c212b, .bool m.2.2.2.1, .int .i64 m.2.2.2.2.1, .int .i64 m.2.2.2.2.2, .slice none 0 0, .slice none 0 0, .slice none 0 0, .int .i64 0]) c := ⟨_, by simp [rdCm, h0, g1], HGF⟩
   obtain ⟨hcm, HGF⟩ := hcmq
   have HGc := HGF.imp imp_cm
   refine l_v (v_fieldAddr (off := 10) (ft := 30) zk rfl) (l_to (to_storeA (n := 6) rfl rfl (zvA rfl) zk rfl dj6 HB2 dj5 ?_))
   rintro w113 HX113 k113 z113
   have := k113.size
   replace HB2 := HX113
   clear HX113
   try simp only [zS, Nat.zero_add, Nat.reduceAdd, List.drop_nil] at HB2
   refine l_nil (n_blk (n_then ?_))
   replace E := E.step k113 dj3
   replace HS1 := HS1.keep k113 dj1
   replace HB3 := HB3.keep k113 dj4
   replace HG212 := HG212.keep k113 dj1
   replace HR2 := HR2.keep k113 dj7 (by intro i hi he; have hi0 := hi; have hi := hi; have he := he; (try dsimp only [NoK] at hi he); first | exact he.elim | omega | (have := hF i hi0; omega))
   replace HGF := HGF.keep k113 dj1
   replace HGc := HGc.keep k113 dj1
   by_cases hz : l2 = []
   ·
    by_cases hm : mayCm cm = true
    ·
     refine c_seq (wp_reg zd (l_v (zmP rfl) (l_to (to_f1 zk (zvP rfl) (CallsR.mono (End_n (n := 0) HR2 (if_pos hz)) ?_)))))
     rintro _ w114 ⟨rfl, e114⟩
     have := e114.size
     refine l_v (OpVat.as (b := true) (v_eql rfl rfl) zq) ?_
     replace HB2 := HB2.ext e114
     replace HB3 := HB3.ext e114
     refine l_v (zmB rfl) (l_gt rfl rfl (OpTo.of_v (v_loadA zk rfl (by first | exact HB3.pv | exact HB2.pv | assumption) rfl) ?_))
     replace HGc := HGc.ext e114
     refine l_gt rfl rfl (to_f1 zk (zvA rfl) (CallsR.mono (CMay_b (b := true) HGc hm) ?_))
     rintro _ w115 ⟨rfl, e115⟩
     have := e115.size
     refine l_v (v_andT rfl rfl) ?_
     refine l_to (to_f1 zk (zvB rfl) (CallsR.mono (must_b (by rfl)) ?_))
     rintro _ w116 ⟨rfl, e116⟩
     have := e116.size
     replace HB2 := (HB2.ext e115).ext e116
     replace HB3 := (HB3.ext e115).ext e116
     refine l_nil (n_then (c_seq (wp_reg zd (l_v (v_loadA zk rfl (by first | exact HB3.pv | exact HB2.pv | assumption) rfl) ?_))))
     refine l_to (to_storeA (n := 20) rfl rfl (zvA rfl) zk rfl dj6 HB2 dj5 ?_)
     rintro w117 HX117 k117 z117
     have := k117.size
     replace HB2 := HX117
     clear HX117
     try simp only [zS, Nat.zero_add, Nat.reduceAdd, List.drop_nil] at HB2
     replace HB3 := HB3.keep k117 dj4
     refine l_to (to_store rfl rfl (zvI rfl) rfl zk HB3 dj5 ?_)
     rintro w118 HX118 k118 z118
     have := k118.size
     replace HB3 := HX118
     clear HX118
     try simp only [zS, Nat.zero_add, Nat.reduceAdd, List.drop_nil] at HB3
     refine l_nil (n_then (c_ret ?_))
     replace E := ((((E.trans e114.keep).trans e115.keep).trans e116.keep).step k117 dj3).step k118 dj3
     replace HGF := ((((HGF.ext e114).ext e115).ext e116).keep k117 dj1).keep k118 dj1
     replace HB2 := HB2.keep k118 dj4
     exact read_yes (by rfl) (by rfl) HB2 (by rfl) HB3 (HGF.mono fun i _ h => by omega) E (by rw [rdAll, hcm, hz]; exact if_pos hm)
    refine c_seq (wp_reg zd (l_v (zmP rfl) (l_to (to_f1 zk (zvP rfl) (CallsR.mono (End_n (n := 0) HR2 (if_pos hz)) ?_)))))
    rintro _ w119 ⟨rfl, e119⟩
    have := e119.size
    refine l_v (OpVat.as (b := true) (v_eql rfl rfl) zq) ?_
    replace HB2 := HB2.ext e119
    replace HB3 := HB3.ext e119
    refine l_v (zmB rfl) (l_gt rfl rfl (OpTo.of_v (v_loadA zk rfl (by first | exact HB3.pv | exact HB2.pv | assumption) rfl) ?_))
    replace HGc := HGc.ext e119
    refine l_gt rfl rfl (to_f1 zk (zvA rfl) (CallsR.mono (CMay_b (b := false) HGc (by simpa using hm)) ?_))
    rintro _ w120 ⟨rfl, e120⟩
    have := e120.size
    refine l_v (v_andT rfl rfl) ?_
    refine l_die (die_f1 zk (zvB rfl) (CallsP.mono (must_e (by rfl)) ?_))
    rintro ch w213 ⟨hch, e213⟩
    have := e213.size
    refine p_then ?_
    subst hch
    replace E := ((E.trans e119.keep).trans e120.keep).trans e213.keep
    replace HB2 := (HB2.ext e120).ext e213
    replace HB3 := (HB3.ext e120).ext e213
    exact read_no (by rfl) (by rfl) HB2 (by rfl) HB3 zo zo zo E (by rw [rdAll, hcm, hz]; exact if_neg hm)
   refine c_seq (wp_reg zd (l_v (zmP rfl) (l_to (to_f1 zk (zvP rfl) (CallsR.mono (End_n (n := 4) HR2 (if_neg hz)) ?_)))))
   rintro _ w121 ⟨rfl, e121⟩
   have := e121.size
   refine l_v (OpVat.as (b := false) (v_eql rfl rfl) zq) ?_
   refine l_v (zmB rfl) (l_skip (u := .bool false) rfl rfl rfl ?_)
   refine l_skip (u := .bool false) rfl rfl rfl ?_
   refine l_v (v_andC rfl) ?_
   refine l_die (die_f1 zk (zvB rfl) (CallsP.mono (must_e (by rfl)) ?_))
   rintro ch w214 ⟨hch, e214⟩
   have := e214.size
   refine p_then ?_
   subst hch
   have hnn : rdAll l = none := rdAll_rest hcm hz
   replace E := (E.trans e121.keep).trans e214.keep
   replace HB2 := (HB2.ext e121).ext e214
   replace HB3 := (HB3.ext e121).ext e214
   exact read_no (by rfl) (by rfl) HB2 (by rfl) HB3 zo zo zo E hnn
  rw [h3] at hx; cases hx
 refine c_seq (wp_reg zd (l_v (v_eql rfl rfl) ?_))
 refine l_v (zaB rfl) (l_nil (n_then (c_cond rfl rfl (fun h5 => ?_) (fun h5 => ?_))))
 ·
  refine c_skip (n_then (c_cond rfl rfl (fun hx => ?_) (fun hx => ?_)))
  ·
   obtain rfl : k = 5 := by have := dtrue h5; omega
   by_cases g1 : rdMv l1 = none
   ·
    refine wp_reg zd (l_v (zmP rfl) (l_die (die_f1 zk (zvP rfl) (CallsP.mono (aMove_d HR1 hF zo g1) ?_))))
    rintro ch w215 ⟨hch, k215⟩
    have := k215.size
    refine p_blk ?_
    refine p_then ?_
    subst hch
    replace E := E.step k215 dj3
    replace HB2 := HB2.keep k215 dj4
    replace HB3 := HB3.keep k215 dj4
    exact read_no (by rfl) (by rfl) HB2 (by rfl) HB3 zo zo zo E (by simp [rdAll, rdCm, h0, g1])
   obtain ⟨⟨m, l2⟩, g1⟩ := Option.ne_none_iff_exists'.1 g1
   have bg1 := rdMv_ok g1
   refine wp_reg zd (l_v (zmP rfl) (l_to (to_f1 zk (zvP rfl) (CallsR.mono (aMove_c HR1 hF zo g1) ?_))))
   rintro _ w216 ⟨HG216, HR2, k216⟩
   have := k216.size
   obtain ⟨a216a, c216a, a216b, c216b, rfl, _⟩ := HG216.mv
   have HGF : AgV tCmF w216 (fun i => n4 ≤ i) (.agg #[.int .i64 5, .int .i64 0, .int .i64 0, .int .i64 0, .slice none 0 0, .slice none 0 0, .slice none 0 0, .slice none 0 0, .bool false, .int .i64 0, .int .i64 m.1, .slice a216a m.2.1.length c216a, .slice a216b m.2.2.1.length c216b, .bool m.2.2.2.1, .int .i64 m.2.2.2.2.1, .int .i64 m.2.2.2.2.2, .slice none 0 0, .slice none 0 0, .slice none 0 0, .int .i64 0]) _ := AgV.mkCmF ⟨by decide, by decide⟩ rq0_agF (HG216.mono fun i _ h => by omega) (SlV.nil _ _ _) (BvF.nil _ _) (BvF.nil _ _) ⟨by decide, by decide⟩
   replace E := E.step k216 dj3
   replace HS1 := HS1.keep k216 dj1
   replace HB2 := HB2.keep k216 dj4
   replace HB3 := HB3.keep k216 dj4
   obtain ⟨cm, hcmq⟩ : ∃ c : CmV, rdCm l.length l = some (c, l2) ∧ AgV tCmF w216 (fun i => n4 ≤ i) (.agg #[.int .i64 5, .int .i64 0, .int .i64 0, .int .i64 0, .slice none 0 0, .slice none 0 0, .slice none 0 0, .slice none 0 0, .bool false, .int .i64 0, .int .i64 m.1, .slice a216a m.2.1.length c216a, .slice a216b m.2.2.1.length c216b, .bool m.2.2.2.1, .int .i64 m.2.2.2.2.1, .int .i64 m.2.2.2.2.2, .slice none 0 0, .slice none 0 0, .slice none 0 0, .int .i64 0]) c := ⟨_, by simp [rdCm, h0, g1], HGF⟩
   obtain ⟨hcm, HGF⟩ := hcmq
   have HGc := HGF.imp imp_cm
   refine l_v (v_fieldAddr (off := 10) (ft := 30) zk rfl) (l_to (to_storeA (n := 6) rfl rfl (zvA rfl) zk rfl dj6 HB2 dj5 ?_))
   rintro w122 HX122 k122 z122
   have := k122.size
   replace HB2 := HX122
   clear HX122
   try simp only [zS, Nat.zero_add, Nat.reduceAdd, List.drop_nil] at HB2
   refine l_nil (n_blk (n_then ?_))
   replace E := E.step k122 dj3
   replace HS1 := HS1.keep k122 dj1
   replace HB3 := HB3.keep k122 dj4
   replace HG216 := HG216.keep k122 dj1
   replace HR2 := HR2.keep k122 dj7 (by intro i hi he; have hi0 := hi; have hi := hi; have he := he; (try dsimp only [NoK] at hi he); first | exact he.elim | omega | (have := hF i hi0; omega))
   replace HGF := HGF.keep k122 dj1
   replace HGc := HGc.keep k122 dj1
   by_cases hz : l2 = []
   ·
    by_cases hm : mayCm cm = true
    ·
     refine c_seq (wp_reg zd (l_v (zmP rfl) (l_to (to_f1 zk (zvP rfl) (CallsR.mono (End_n (n := 0) HR2 (if_pos hz)) ?_)))))
     rintro _ w123 ⟨rfl, e123⟩
     have := e123.size
     refine l_v (OpVat.as (b := true) (v_eql rfl rfl) zq) ?_
     replace HB2 := HB2.ext e123
     replace HB3 := HB3.ext e123
     refine l_v (zmB rfl) (l_gt rfl rfl (OpTo.of_v (v_loadA zk rfl (by first | exact HB3.pv | exact HB2.pv | assumption) rfl) ?_))
     replace HGc := HGc.ext e123
     refine l_gt rfl rfl (to_f1 zk (zvA rfl) (CallsR.mono (CMay_b (b := true) HGc hm) ?_))
     rintro _ w124 ⟨rfl, e124⟩
     have := e124.size
     refine l_v (v_andT rfl rfl) ?_
     refine l_to (to_f1 zk (zvB rfl) (CallsR.mono (must_b (by rfl)) ?_))
     rintro _ w125 ⟨rfl, e125⟩
     have := e125.size
     replace HB2 := (HB2.ext e124).ext e125
     replace HB3 := (HB3.ext e124).ext e125
     refine l_nil (n_then (c_seq (wp_reg zd (l_v (v_loadA zk rfl (by first | exact HB3.pv | exact HB2.pv | assumption) rfl) ?_))))
     refine l_to (to_storeA (n := 20) rfl rfl (zvA rfl) zk rfl dj6 HB2 dj5 ?_)
     rintro w126 HX126 k126 z126
     have := k126.size
     replace HB2 := HX126
     clear HX126
     try simp only [zS, Nat.zero_add, Nat.reduceAdd, List.drop_nil] at HB2
     replace HB3 := HB3.keep k126 dj4
     refine l_to (to_store rfl rfl (zvI rfl) rfl zk HB3 dj5 ?_)
     rintro w127 HX127 k127 z127
     have := k127.size
     replace HB3 := HX127
     clear HX127
     try simp only [zS, Nat.zero_add, Nat.reduceAdd, List.drop_nil] at HB3
     refine l_nil (n_then (c_ret ?_))
     replace E := ((((E.trans e123.keep).trans e124.keep).trans e125.keep).step k126 dj3).step k127 dj3
     replace HGF := ((((HGF.ext e123).ext e124).ext e125).keep k126 dj1).keep k127 dj1
     replace HB2 := HB2.keep k127 dj4
     exact read_yes (by rfl) (by rfl) HB2 (by rfl) HB3 (HGF.mono fun i _ h => by omega) E (by rw [rdAll, hcm, hz]; exact if_pos hm)
    refine c_seq (wp_reg zd (l_v (zmP rfl) (l_to (to_f1 zk (zvP rfl) (CallsR.mono (End_n (n := 0) HR2 (if_pos hz)) ?_)))))
    rintro _ w128 ⟨rfl, e128⟩
    have := e128.size
    refine l_v (OpVat.as (b := true) (v_eql rfl rfl) zq) ?_
    replace HB2 := HB2.ext e128
    replace HB3 := HB3.ext e128
    refine l_v (zmB rfl) (l_gt rfl rfl (OpTo.of_v (v_loadA zk rfl (by first | exact HB3.pv | exact HB2.pv | assumption) rfl) ?_))
    replace HGc := HGc.ext e128
    refine l_gt rfl rfl (to_f1 zk (zvA rfl) (CallsR.mono (CMay_b (b := false) HGc (by simpa using hm)) ?_))
    rintro _ w129 ⟨rfl, e129⟩
    have := e129.size
    refine l_v (v_andT rfl rfl) ?_
    refine l_die (die_f1 zk (zvB rfl) (CallsP.mono (must_e (by rfl)) ?_))
    rintro ch w217 ⟨hch, e217⟩
    have := e217.size
    refine p_then ?_
    subst hch
    replace E := ((E.trans e128.keep).trans e129.keep).trans e217.keep
    replace HB2 := (HB2.ext e129).ext e217
    replace HB3 := (HB3.ext e129).ext e217
    exact read_no (by rfl) (by rfl) HB2 (by rfl) HB3 zo zo zo E (by rw [rdAll, hcm, hz]; exact if_neg hm)
   refine c_seq (wp_reg zd (l_v (zmP rfl) (l_to (to_f1 zk (zvP rfl) (CallsR.mono (End_n (n := 4) HR2 (if_neg hz)) ?_)))))
   rintro _ w130 ⟨rfl, e130⟩
   have := e130.size
   refine l_v (OpVat.as (b := false) (v_eql rfl rfl) zq) ?_
   refine l_v (zmB rfl) (l_skip (u := .bool false) rfl rfl rfl ?_)
   refine l_skip (u := .bool false) rfl rfl rfl ?_
   refine l_v (v_andC rfl) ?_
   refine l_die (die_f1 zk (zvB rfl) (CallsP.mono (must_e (by rfl)) ?_))
   rintro ch w218 ⟨hch, e218⟩
   have := e218.size
   refine p_then ?_
   subst hch
   have hnn : rdAll l = none := rdAll_rest hcm hz
   replace E := (E.trans e130.keep).trans e218.keep
   replace HB2 := (HB2.ext e130).ext e218
   replace HB3 := (HB3.ext e130).ext e218
   exact read_no (by rfl) (by rfl) HB2 (by rfl) HB3 zo zo zo E hnn
  rw [h5] at hx; cases hx
 refine c_seq (wp_reg zd (l_v (v_eql rfl rfl) ?_))
 refine l_v (zaB rfl) (l_nil (n_then (c_cond rfl rfl (fun h9 => ?_) (fun h9 => ?_))))
 ·
  refine c_skip (n_then (c_cond rfl rfl (fun hx => ?_) (fun hx => ?_)))
  ·
   obtain rfl : k = 9 := by have := dtrue h9; omega
   by_cases g1 : rdMv l1 = none
   ·
    refine wp_reg zd (l_v (zmP rfl) (l_die (die_f1 zk (zvP rfl) (CallsP.mono (aMove_d HR1 hF zo g1) ?_))))
    rintro ch w219 ⟨hch, k219⟩
    have := k219.size
    refine p_blk ?_
    refine p_then ?_
    subst hch
    replace E := E.step k219 dj3
    replace HB2 := HB2.keep k219 dj4
    replace HB3 := HB3.keep k219 dj4
    exact read_no (by rfl) (by rfl) HB2 (by rfl) HB3 zo zo zo E (by simp [rdAll, rdCm, h0, g1])
   obtain ⟨⟨m, l2⟩, g1⟩ := Option.ne_none_iff_exists'.1 g1
   have bg1 := rdMv_ok g1
   refine wp_reg zd (l_v (zmP rfl) (l_to (to_f1 zk (zvP rfl) (CallsR.mono (aMove_c HR1 hF zo g1) ?_))))
   rintro _ w220 ⟨HG220, HR2, k220⟩
   have := k220.size
   obtain ⟨a220a, c220a, a220b, c220b, rfl, _⟩ := HG220.mv
   have HGF : AgV tCmF w220 (fun i => n4 ≤ i) (.agg #[.int .i64 9, .int .i64 0, .int .i64 0, .int .i64 0, .slice none 0 0, .slice none 0 0, .slice none 0 0, .slice none 0 0, .bool false, .int .i64 0, .int .i64 m.1, .slice a220a m.2.1.length c220a, .slice a220b m.2.2.1.length c220b, .bool m.2.2.2.1, .int .i64 m.2.2.2.2.1, .int .i64 m.2.2.2.2.2, .slice none 0 0, .slice none 0 0, .slice none 0 0, .int .i64 0]) _ := AgV.mkCmF ⟨by decide, by decide⟩ rq0_agF (HG220.mono fun i _ h => by omega) (SlV.nil _ _ _) (BvF.nil _ _) (BvF.nil _ _) ⟨by decide, by decide⟩
   replace E := E.step k220 dj3
   replace HS1 := HS1.keep k220 dj1
   replace HB2 := HB2.keep k220 dj4
   replace HB3 := HB3.keep k220 dj4
   obtain ⟨cm, hcmq⟩ : ∃ c : CmV, rdCm l.length l = some (c, l2) ∧ AgV tCmF w220 (fun i => n4 ≤ i) (.agg #[.int .i64 9, .int .i64 0, .int .i64 0, .int .i64 0, .slice none 0 0, .slice none 0 0, .slice none 0 0, .slice none 0 0, .bool false, .int .i64 0, .int .i64 m.1, .slice a220a m.2.1.length c220a, .slice a220b m.2.2.1.length c220b, .bool m.2.2.2.1, .int .i64 m.2.2.2.2.1, .int .i64 m.2.2.2.2.2, .slice none 0 0, .slice none 0 0, .slice none 0 0, .int .i64 0]) c := ⟨_, by simp [rdCm, h0, g1], HGF⟩
   obtain ⟨hcm, HGF⟩ := hcmq
   have HGc := HGF.imp imp_cm
   refine l_v (v_fieldAddr (off := 10) (ft := 30) zk rfl) (l_to (to_storeA (n := 6) rfl rfl (zvA rfl) zk rfl dj6 HB2 dj5 ?_))
   rintro w131 HX131 k131 z131
   have := k131.size
   replace HB2 := HX131
   clear HX131
   try simp only [zS, Nat.zero_add, Nat.reduceAdd, List.drop_nil] at HB2
   refine l_nil (n_blk (n_then ?_))
   replace E := E.step k131 dj3
   replace HS1 := HS1.keep k131 dj1
   replace HB3 := HB3.keep k131 dj4
   replace HG220 := HG220.keep k131 dj1
   replace HR2 := HR2.keep k131 dj7 (by intro i hi he; have hi0 := hi; have hi := hi; have he := he; (try dsimp only [NoK] at hi he); first | exact he.elim | omega | (have := hF i hi0; omega))
   replace HGF := HGF.keep k131 dj1
   replace HGc := HGc.keep k131 dj1
   by_cases hz : l2 = []
   ·
    by_cases hm : mayCm cm = true
    ·
     refine c_seq (wp_reg zd (l_v (zmP rfl) (l_to (to_f1 zk (zvP rfl) (CallsR.mono (End_n (n := 0) HR2 (if_pos hz)) ?_)))))
     rintro _ w132 ⟨rfl, e132⟩
     have := e132.size
     refine l_v (OpVat.as (b := true) (v_eql rfl rfl) zq) ?_
     replace HB2 := HB2.ext e132
     replace HB3 := HB3.ext e132
     refine l_v (zmB rfl) (l_gt rfl rfl (OpTo.of_v (v_loadA zk rfl (by first | exact HB3.pv | exact HB2.pv | assumption) rfl) ?_))
     replace HGc := HGc.ext e132
     refine l_gt rfl rfl (to_f1 zk (zvA rfl) (CallsR.mono (CMay_b (b := true) HGc hm) ?_))
     rintro _ w133 ⟨rfl, e133⟩
     have := e133.size
     refine l_v (v_andT rfl rfl) ?_
     refine l_to (to_f1 zk (zvB rfl) (CallsR.mono (must_b (by rfl)) ?_))
     rintro _ w134 ⟨rfl, e134⟩
     have := e134.size
     replace HB2 := (HB2.ext e133).ext e134
     replace HB3 := (HB3.ext e133).ext e134
     refine l_nil (n_then (c_seq (wp_reg zd (l_v (v_loadA zk rfl (by first | exact HB3.pv | exact HB2.pv | assumption) rfl) ?_))))
     refine l_to (to_storeA (n := 20) rfl rfl (zvA rfl) zk rfl dj6 HB2 dj5 ?_)
     rintro w135 HX135 k135 z135
     have := k135.size
     replace HB2 := HX135
     clear HX135
     try simp only [zS, Nat.zero_add, Nat.reduceAdd, List.drop_nil] at HB2
     replace HB3 := HB3.keep k135 dj4
     refine l_to (to_store rfl rfl (zvI rfl) rfl zk HB3 dj5 ?_)
     rintro w136 HX136 k136 z136
     have := k136.size
     replace HB3 := HX136
     clear HX136
     try simp only [zS, Nat.zero_add, Nat.reduceAdd, List.drop_nil] at HB3
     refine l_nil (n_then (c_ret ?_))
     replace E := ((((E.trans e132.keep).trans e133.keep).trans e134.keep).step k135 dj3).step k136 dj3
     replace HGF := ((((HGF.ext e132).ext e133).ext e134).keep k135 dj1).keep k136 dj1
     replace HB2 := HB2.keep k136 dj4
     exact read_yes (by rfl) (by rfl) HB2 (by rfl) HB3 (HGF.mono fun i _ h => by omega) E (by rw [rdAll, hcm, hz]; exact if_pos hm)
    refine c_seq (wp_reg zd (l_v (zmP rfl) (l_to (to_f1 zk (zvP rfl) (CallsR.mono (End_n (n := 0) HR2 (if_pos hz)) ?_)))))
    rintro _ w137 ⟨rfl, e137⟩
    have := e137.size
    refine l_v (OpVat.as (b := true) (v_eql rfl rfl) zq) ?_
    replace HB2 := HB2.ext e137
    replace HB3 := HB3.ext e137
    refine l_v (zmB rfl) (l_gt rfl rfl (OpTo.of_v (v_loadA zk rfl (by first | exact HB3.pv | exact HB2.pv | assumption) rfl) ?_))
    replace HGc := HGc.ext e137
    refine l_gt rfl rfl (to_f1 zk (zvA rfl) (CallsR.mono (CMay_b (b := false) HGc (by simpa using hm)) ?_))
    rintro _ w138 ⟨rfl, e138⟩
    have := e138.size
    refine l_v (v_andT rfl rfl) ?_
    refine l_die (die_f1 zk (zvB rfl) (CallsP.mono (must_e (by rfl)) ?_))
    rintro ch w221 ⟨hch, e221⟩
    have := e221.size
    refine p_then ?_
    subst hch
    replace E := ((E.trans e137.keep).trans e138.keep).trans e221.keep
    replace HB2 := (HB2.ext e138).ext e221
    replace HB3 := (HB3.ext e138).ext e221
    exact read_no (by rfl) (by rfl) HB2 (by rfl) HB3 zo zo zo E (by rw [rdAll, hcm, hz]; exact if_neg hm)
   refine c_seq (wp_reg zd (l_v (zmP rfl) (l_to (to_f1 zk (zvP rfl) (CallsR.mono (End_n (n := 4) HR2 (if_neg hz)) ?_)))))
   rintro _ w139 ⟨rfl, e139⟩
   have := e139.size
   refine l_v (OpVat.as (b := false) (v_eql rfl rfl) zq) ?_
   refine l_v (zmB rfl) (l_skip (u := .bool false) rfl rfl rfl ?_)
   refine l_skip (u := .bool false) rfl rfl rfl ?_
   refine l_v (v_andC rfl) ?_
   refine l_die (die_f1 zk (zvB rfl) (CallsP.mono (must_e (by rfl)) ?_))
   rintro ch w222 ⟨hch, e222⟩
   have := e222.size
   refine p_then ?_
   subst hch
   have hnn : rdAll l = none := rdAll_rest hcm hz
   replace E := (E.trans e139.keep).trans e222.keep
   replace HB2 := (HB2.ext e139).ext e222
   replace HB3 := (HB3.ext e139).ext e222
   exact read_no (by rfl) (by rfl) HB2 (by rfl) HB3 zo zo zo E hnn
  rw [h9] at hx; cases hx
 refine wp_reg zd (l_v (v_eql rfl rfl) ?_)
 refine l_v (zaB rfl) (l_nil (n_then (c_cond rfl rfl (fun h10 => ?_) (fun h10 => ?_))))
 ·
  obtain rfl : k = 10 := by have := dtrue h10; omega
  by_cases g1 : rdMv l1 = none
  ·
   refine wp_reg zd (l_v (zmP rfl) (l_die (die_f1 zk (zvP rfl) (CallsP.mono (aMove_d HR1 hF zo g1) ?_))))
   rintro ch w223 ⟨hch, k223⟩
   have := k223.size
   refine p_blk ?_
   refine p_then ?_
   subst hch
   replace E := E.step k223 dj3
   replace HB2 := HB2.keep k223 dj4
   replace HB3 := HB3.keep k223 dj4
   exact read_no (by rfl) (by rfl) HB2 (by rfl) HB3 zo zo zo E (by simp [rdAll, rdCm, h0, g1])
  obtain ⟨⟨m, l2⟩, g1⟩ := Option.ne_none_iff_exists'.1 g1
  have bg1 := rdMv_ok g1
  refine wp_reg zd (l_v (zmP rfl) (l_to (to_f1 zk (zvP rfl) (CallsR.mono (aMove_c HR1 hF zo g1) ?_))))
  rintro _ w224 ⟨HG224, HR2, k224⟩
  have := k224.size
  obtain ⟨a224a, c224a, a224b, c224b, rfl, _⟩ := HG224.mv
  have HGF : AgV tCmF w224 (fun i => n4 ≤ i) (.agg #[.int .i64 10, .int .i64 0, .int .i64 0, .int .i64 0, .slice none 0 0, .slice none 0 0, .slice none 0 0, .slice none 0 0, .bool false, .int .i64 0, .int .i64 m.1, .slice a224a m.2.1.length c224a, .slice a224b m.2.2.1.length c224b, .bool m.2.2.2.1, .int .i64 m.2.2.2.2.1, .int .i64 m.2.2.2.2.2, .slice none 0 0, .slice none 0 0, .slice none 0 0, .int .i64 0]) _ := AgV.mkCmF ⟨by decide, by decide⟩ rq0_agF (HG224.mono fun i _ h => by omega) (SlV.nil _ _ _) (BvF.nil _ _) (BvF.nil _ _) ⟨by decide, by decide⟩
  replace E := E.step k224 dj3
  replace HS1 := HS1.keep k224 dj1
  replace HB2 := HB2.keep k224 dj4
  replace HB3 := HB3.keep k224 dj4
  obtain ⟨cm, hcmq⟩ : ∃ c : CmV, rdCm l.length l = some (c, l2) ∧ AgV tCmF w224 (fun i => n4 ≤ i) (.agg #[.int .i64 10, .int .i64 0, .int .i64 0, .int .i64 0, .slice none 0 0, .slice none 0 0, .slice none 0 0, .slice none 0 0, .bool false, .int .i64 0, .int .i64 m.1, .slice a224a m.2.1.length c224a, .slice a224b m.2.2.1.length c224b, .bool m.2.2.2.1, .int .i64 m.2.2.2.2.1, .int .i64 m.2.2.2.2.2, .slice none 0 0, .slice none 0 0, .slice none 0 0, .int .i64 0]) c := ⟨_, by simp [rdCm, h0, g1], HGF⟩
  obtain ⟨hcm, HGF⟩ := hcmq
  have HGc := HGF.imp imp_cm
  refine l_v (v_fieldAddr (off := 10) (ft := 30) zk rfl) (l_to (to_storeA (n := 6) rfl rfl (zvA rfl) zk rfl dj6 HB2 dj5 ?_))
  rintro w140 HX140 k140 z140
  have := k140.size
  replace HB2 := HX140
  clear HX140
  try simp only [zS, Nat.zero_add, Nat.reduceAdd, List.drop_nil] at HB2
  refine l_nil (n_blk (n_then ?_))
  replace E := E.step k140 dj3
  replace HS1 := HS1.keep k140 dj1
  replace HB3 := HB3.keep k140 dj4
  replace HG224 := HG224.keep k140 dj1
  replace HR2 := HR2.keep k140 dj7 (by intro i hi he; have hi0 := hi; have hi := hi; have he := he; (try dsimp only [NoK] at hi he); first | exact he.elim | omega | (have := hF i hi0; omega))
  replace HGF := HGF.keep k140 dj1
  replace HGc := HGc.keep k140 dj1
  by_cases hz : l2 = []
  ·
   by_cases hm : mayCm cm = true
   ·
    refine c_seq (wp_reg zd (l_v (zmP rfl) (l_to (to_f1 zk (zvP rfl) (CallsR.mono (End_n (n := 0) HR2 (if_pos hz)) ?_)))))
    rintro _ w141 ⟨rfl, e141⟩
    have := e141.size
    refine l_v (OpVat.as (b := true) (v_eql rfl rfl) zq) ?_
    replace HB2 := HB2.ext e141
    replace HB3 := HB3.ext e141
    refine l_v (zmB rfl) (l_gt rfl rfl (OpTo.of_v (v_loadA zk rfl (by first | exact HB3.pv | exact HB2.pv | assumption) rfl) ?_))
    replace HGc := HGc.ext e141
    refine l_gt rfl rfl (to_f1 zk (zvA rfl) (CallsR.mono (CMay_b (b := true) HGc hm) ?_))
    rintro _ w142 ⟨rfl, e142⟩
    have := e142.size
    refine l_v (v_andT rfl rfl) ?_
    refine l_to (to_f1 zk (zvB rfl) (CallsR.mono (must_b (by rfl)) ?_))
    rintro _ w143 ⟨rfl, e143⟩
    have := e143.size
    replace HB2 := (HB2.ext e142).ext e143
    replace HB3 := (HB3.ext e142).ext e143
    refine l_nil (n_then (c_seq (wp_reg zd (l_v (v_loadA zk rfl (by first | exact HB3.pv | exact HB2.pv | assumption) rfl) ?_))))
    refine l_to (to_storeA (n := 20) rfl rfl (zvA rfl) zk rfl dj6 HB2 dj5 ?_)
    rintro w144 HX144 k144 z144
    have := k144.size
    replace HB2 := HX144
    clear HX144
    try simp only [zS, Nat.zero_add, Nat.reduceAdd, List.drop_nil] at HB2
    replace HB3 := HB3.keep k144 dj4
    refine l_to (to_store rfl rfl (zvI rfl) rfl zk HB3 dj5 ?_)
    rintro w145 HX145 k145 z145
    have := k145.size
    replace HB3 := HX145
    clear HX145
    try simp only [zS, Nat.zero_add, Nat.reduceAdd, List.drop_nil] at HB3
    refine l_nil (n_then (c_ret ?_))
    replace E := ((((E.trans e141.keep).trans e142.keep).trans e143.keep).step k144 dj3).step k145 dj3
    replace HGF := ((((HGF.ext e141).ext e142).ext e143).keep k144 dj1).keep k145 dj1
    replace HB2 := HB2.keep k145 dj4
    exact read_yes (by rfl) (by rfl) HB2 (by rfl) HB3 (HGF.mono fun i _ h => by omega) E (by rw [rdAll, hcm, hz]; exact if_pos hm)
   refine c_seq (wp_reg zd (l_v (zmP rfl) (l_to (to_f1 zk (zvP rfl) (CallsR.mono (End_n (n := 0) HR2 (if_pos hz)) ?_)))))
   rintro _ w146 ⟨rfl, e146⟩
   have := e146.size
   refine l_v (OpVat.as (b := true) (v_eql rfl rfl) zq) ?_
   replace HB2 := HB2.ext e146
   replace HB3 := HB3.ext e146
   refine l_v (zmB rfl) (l_gt rfl rfl (OpTo.of_v (v_loadA zk rfl (by first | exact HB3.pv | exact HB2.pv | assumption) rfl) ?_))
   replace HGc := HGc.ext e146
   refine l_gt rfl rfl (to_f1 zk (zvA rfl) (CallsR.mono (CMay_b (b := false) HGc (by simpa using hm)) ?_))
   rintro _ w147 ⟨rfl, e147⟩
   have := e147.size
   refine l_v (v_andT rfl rfl) ?_
   refine l_die (die_f1 zk (zvB rfl) (CallsP.mono (must_e (by rfl)) ?_))
   rintro ch w225 ⟨hch, e225⟩
   have := e225.size
   refine p_then ?_
   subst hch
   replace E := ((E.trans e146.keep).trans e147.keep).trans e225.keep
   replace HB2 := (HB2.ext e147).ext e225
   replace HB3 := (HB3.ext e147).ext e225
   exact read_no (by rfl) (by rfl) HB2 (by rfl) HB3 zo zo zo E (by rw [rdAll, hcm, hz]; exact if_neg hm)
  refine c_seq (wp_reg zd (l_v (zmP rfl) (l_to (to_f1 zk (zvP rfl) (CallsR.mono (End_n (n := 4) HR2 (if_neg hz)) ?_)))))
  rintro _ w148 ⟨rfl, e148⟩
  have := e148.size
  refine l_v (OpVat.as (b := false) (v_eql rfl rfl) zq) ?_
  refine l_v (zmB rfl) (l_skip (u := .bool false) rfl rfl rfl ?_)
  refine l_skip (u := .bool false) rfl rfl rfl ?_
  refine l_v (v_andC rfl) ?_
  refine l_die (die_f1 zk (zvB rfl) (CallsP.mono (must_e (by rfl)) ?_))
  rintro ch w226 ⟨hch, e226⟩
  have := e226.size
  refine p_then ?_
  subst hch
  have hnn : rdAll l = none := rdAll_rest hcm hz
  replace E := (E.trans e148.keep).trans e226.keep
  replace HB2 := (HB2.ext e148).ext e226
  replace HB3 := (HB3.ext e148).ext e226
  exact read_no (by rfl) (by rfl) HB2 (by rfl) HB3 zo zo zo E hnn
 refine c_seq (wp_reg zd (l_v (v_eql rfl rfl) ?_))
 refine l_v (zaB rfl) (l_nil (n_then (c_cond rfl rfl (fun h4 => ?_) (fun h4 => ?_))))
 ·
  obtain rfl : k = 4 := by have := dtrue h4; omega
  by_cases g1 : rdMv l1 = none
  ·
   refine c_seq (wp_reg zd (l_v (zmP rfl) (l_die (die_f1 zk (zvP rfl) (CallsP.mono (aMove_d HR1 hF zo g1) ?_)))))
   rintro ch w227 ⟨hch, k227⟩
   have := k227.size
   refine p_then ?_
   refine p_blk ?_
   refine p_then ?_
   subst hch
   replace E := E.step k227 dj3
   replace HB2 := HB2.keep k227 dj4
   replace HB3 := HB3.keep k227 dj4
   exact read_no (by rfl) (by rfl) HB2 (by rfl) HB3 zo zo zo E (by simp [rdAll, rdCm, h0, g1])
  refine c_seq ?_
  obtain ⟨⟨m, l2⟩, g1⟩ := Option.ne_none_iff_exists'.1 g1
  have bg1 := rdMv_ok g1
  refine wp_reg zd (l_v (zmP rfl) (l_to (to_f1 zk (zvP rfl) (CallsR.mono (aMove_c HR1 hF zo g1) ?_))))
  rintro _ w228 ⟨HG228, HR2, k228⟩
  have := k228.size
  obtain ⟨a228a, c228a, a228b, c228b, rfl, _⟩ := HG228.mv
  replace HB2 := HB2.keep k228 dj4
  refine l_v (v_fieldAddr (off := 10) (ft := 30) zk rfl) (l_to (to_storeA (n := 6) rfl rfl (zvA rfl) zk rfl dj6 HB2 dj5 ?_))
  rintro w149 HX149 k149 z149
  have := k149.size
  replace HB2 := HX149
  clear HX149
  try simp only [zS, Nat.zero_add, Nat.reduceAdd, List.drop_nil] at HB2
  refine l_nil (n_then ?_)
  replace E := (E.step k228 dj3).step k149 dj3
  replace HS1 := (HS1.keep k228 dj1).keep k149 dj1
  replace HB3 := (HB3.keep k228 dj4).keep k149 dj4
  replace HG228 := HG228.keep k149 dj1
  replace HR2 := HR2.keep k149 dj7 (by intro i hi he; have hi0 := hi; have hi := hi; have he := he; (try dsimp only [NoK] at hi he); first | exact he.elim | omega | (have := hF i hi0; omega))
  by_cases g2 : rdRw l.length l2 = none
  ·
   refine c_seq (wp_reg zd (l_v (zmP rfl) (l_v (zmS rfl) (l_v (v_len (et := 5) zk rfl) ?_))))
   refine l_die (die_f2 zk (zvP rfl) (zvI rfl) (CallsP.mono (raw_d (most := ((l.length : Nat) : Int)) HR2 hF zo zo zo g2) ?_))
   rintro ch w229 ⟨hch, k229⟩
   have := k229.size
   refine p_then ?_
   refine p_blk ?_
   refine p_then ?_
   subst hch
   replace E := E.step k229 dj3
   replace HB2 := HB2.keep k229 dj4
   replace HB3 := HB3.keep k229 dj4
   exact read_no (by rfl) (by rfl) HB2 (by rfl) HB3 zo zo zo E (by simp [rdAll, rdCm, h0, g1, g2])
  refine c_seq ?_
  obtain ⟨⟨x, l3⟩, g2⟩ := Option.ne_none_iff_exists'.1 g2
  have bg2 := rdRw_ok g2
  refine wp_reg zd (l_v (zmP rfl) (l_v (zmS rfl) (l_v (v_len (et := 5) zk rfl) ?_)))
  refine l_to (to_f2 zk (zvP rfl) (zvI rfl) (CallsR.mono (raw_c (most := ((l.length : Nat) : Int)) HR2 hF zo zo zo g2) ?_))
  rintro _ w230 ⟨⟨a230, c230, rfl, HF230⟩, HR3, k230⟩
  have := k230.size
  refine l_to (to_f1 zk (zvS rfl) (CallsR.mono (Lists_c HF230.bv (by have := bg2.2.1; omega)) ?_))
  replace HS1 := HS1.keep k230 dj1
  replace HG228 := HG228.keep k230 dj1
  rintro _ w400 ⟨⟨a400, c400, en, er, rfl, HS400, hx400⟩, e400⟩
  have := e400.size
  refine l_v (zmT rfl) (l_v (v_extract (t := .slice _ _ _) rfl rfl) (l_v (v_extract (t := .int _ _) rfl rfl) (l_v (zaS rfl) (l_v (zaI rfl) (l_nil (n_then ?_))))))
  replace E := (E.step k230 dj3).trans e400.keep
  replace HB2 := (HB2.keep k230 dj4).ext e400
  replace HB3 := (HB3.keep k230 dj4).ext e400
  replace HS1 := HS1.ext e400
  replace HG228 := HG228.ext e400
  replace HF230 := HF230.ext e400
  replace HR3 := HR3.ext e400
  by_cases g3 : rdLs x = none
  ·
   refine c_seq (wp_reg zd (l_v (zmI rfl) (l_v (v_eql rfl rfl) ?_)))
   refine l_die (die_f1 zk (zvB rfl) (CallsP.mono (must_e (decide_eq_false (by rcases hx400 with ⟨_, h⟩ | ⟨h, _⟩; (rw [g3] at h; cases h); omega))) ?_))
   rintro ch w401 ⟨hch, e401⟩
   have := e401.size
   refine p_then ?_
   refine p_blk ?_
   refine p_then ?_
   subst hch
   replace E := E.trans e401.keep
   replace HB2 := HB2.ext e401
   replace HB3 := HB3.ext e401
   exact read_no (by rfl) (by rfl) HB2 (by rfl) HB3 zo zo zo E (by simp [rdAll, rdCm, h0, g1, g2, g3])
  refine c_seq ?_
  obtain ⟨rfl, g3⟩ : er = 0 ∧ rdLs x = some en := by rcases hx400 with h | ⟨_, _, h⟩; exact h; exact absurd h g3
  refine wp_reg zd (l_v (zmI rfl) (l_v (v_eql rfl rfl) ?_))
  refine l_to (to_f1 zk (zvB rfl) (CallsR.mono (must_b (by rfl)) ?_))
  rintro _ w150 ⟨rfl, e150⟩
  have := e150.size
  refine l_nil (n_then ?_)
  replace E := E.trans e150.keep
  replace HS1 := HS1.ext e150
  replace HB2 := HB2.ext e150
  replace HB3 := HB3.ext e150
  replace HG228 := HG228.ext e150
  replace HR3 := HR3.ext e150
  replace HS400 := HS400.ext e150
  by_cases g4 : rdRw 524288 l3 = none
  ·
   refine wp_reg zd (l_v (zmS rfl) (l_v (zmP rfl) (l_die (die_f2 zk (zvP rfl) (zvI rfl) (CallsP.mono (raw_d (most := ((524288 : Nat) : Int)) HR3 hF zo zo zo g4) ?_)))))
   rintro ch w231 ⟨hch, k231⟩
   have := k231.size
   refine p_blk ?_
   refine p_then ?_
   subst hch
   replace E := E.step k231 dj3
   replace HB2 := HB2.keep k231 dj4
   replace HB3 := HB3.keep k231 dj4
   exact read_no (by rfl) (by rfl) HB2 (by rfl) HB3 zo zo zo E (by simp [rdAll, rdCm, h0, g1, g2, g3, g4])
  obtain ⟨⟨an, l4⟩, g4⟩ := Option.ne_none_iff_exists'.1 g4
  have bg4 := rdRw_ok g4
  refine wp_reg zd (l_v (zmS rfl) (l_v (zmP rfl) (l_to (to_f2 zk (zvP rfl) (zvI rfl) (CallsR.mono (raw_c (most := ((524288 : Nat) : Int)) HR3 hF zo zo zo g4) ?_)))))
  rintro _ w232 ⟨⟨a232, c232, rfl, HF232⟩, HR4, k232⟩
  have := k232.size
  replace HG228 := HG228.keep k232 dj1
  replace HS400 := HS400.keep k232 dj1
  have HGF : AgV tCmF w232 (fun i => n4 ≤ i) (.agg #[.int .i64 4, .int .i64 0, .int .i64 0, .int .i64 0, .slice none 0 0, .slice none 0 0, .slice none 0 0, .slice none 0 0, .bool false, .int .i64 0, .int .i64 m.1, .slice a228a m.2.1.length c228a, .slice a228b m.2.2.1.length c228b, .bool m.2.2.2.1, .int .i64 m.2.2.2.2.1, .int .i64 m.2.2.2.2.2, .slice a400 en.length c400, .slice a232 an.length c232, .slice none 0 0, .int .i64 0]) _ := AgV.mkCmF ⟨by decide, by decide⟩ rq0_agF (HG228.mono fun i _ h => by omega) (HS400.mono fun i _ h => by omega) (HF232.mono fun i _ h => by omega) (BvF.nil _ _) ⟨by decide, by decide⟩
  replace E := E.step k232 dj3
  replace HS1 := HS1.keep k232 dj1
  replace HB2 := HB2.keep k232 dj4
  replace HB3 := HB3.keep k232 dj4
  obtain ⟨cm, hcmq⟩ : ∃ c : CmV, rdCm l.length l = some (c, l4) ∧ AgV tCmF w232 (fun i => n4 ≤ i) (.agg #[.int .i64 4, .int .i64 0, .int .i64 0, .int .i64 0, .slice none 0 0, .slice none 0 0, .slice none 0 0, .slice none 0 0, .bool false, .int .i64 0, .int .i64 m.1, .slice a228a m.2.1.length c228a, .slice a228b m.2.2.1.length c228b, .bool m.2.2.2.1, .int .i64 m.2.2.2.2.1, .int .i64 m.2.2.2.2.2, .slice a400 en.length c400, .slice a232 an.length c232, .slice none 0 0, .int .i64 0]) c := ⟨_, by simp [rdCm, h0, g1, g2, g3, g4], HGF⟩
  obtain ⟨hcm, HGF⟩ := hcmq
  have HGc := HGF.imp imp_cm
  refine l_v (v_fieldAddr (off := 16) (ft := 31) zk rfl) (l_to (to_store rfl rfl (zvS rfl) rfl zk HB2 dj5 ?_))
  rintro w151 HX151 k151 z151
  have := k151.size
  replace HB2 := HX151
  clear HX151
  try simp only [zS, Nat.zero_add, Nat.reduceAdd, List.drop_nil] at HB2
  refine l_v (v_fieldAddr (off := 17) (ft := 24) zk rfl) (l_to (to_store rfl rfl (zvS rfl) rfl zk HB2 dj5 ?_))
  rintro w152 HX152 k152 z152
  have := k152.size
  replace HB2 := HX152
  clear HX152
  try simp only [zS, Nat.zero_add, Nat.reduceAdd, List.drop_nil] at HB2
  refine l_nil (n_blk (n_then ?_))
  replace E := (E.step k151 dj3).step k152 dj3
  replace HS1 := (HS1.keep k151 dj1).keep k152 dj1
  replace HB3 := (HB3.keep k151 dj4).keep k152 dj4
  replace HG228 := (HG228.keep k151 dj1).keep k152 dj1
  replace HS400 := (HS400.keep k151 dj1).keep k152 dj1
  replace HF232 := (HF232.keep k151 dj2).keep k152 dj2
  replace HR4 := (HR4.keep k151 dj7 (by intro i hi he; have hi0 := hi; have hi := hi; have he := he; (try dsimp only [NoK] at hi he); first | exact he.elim | omega | (have := hF i hi0; omega))).keep k152 dj7 (by intro i hi he; have hi0 := hi; have hi := hi; have he := he; (try dsimp only [NoK] at hi he); first | exact he.elim | omega | (have := hF i hi0; omega))
  replace HGF := (HGF.keep k151 dj1).keep k152 dj1
  replace HGc := (HGc.keep k151 dj1).keep k152 dj1
  by_cases hz : l4 = []
  ·
   by_cases hm : mayCm cm = true
   ·
    refine c_seq (wp_reg zd (l_v (zmP rfl) (l_to (to_f1 zk (zvP rfl) (CallsR.mono (End_n (n := 0) HR4 (if_pos hz)) ?_)))))
    rintro _ w153 ⟨rfl, e153⟩
    have := e153.size
    refine l_v (OpVat.as (b := true) (v_eql rfl rfl) zq) ?_
    replace HB2 := HB2.ext e153
    replace HB3 := HB3.ext e153
    refine l_v (zmB rfl) (l_gt rfl rfl (OpTo.of_v (v_loadA zk rfl (by first | exact HB3.pv | exact HB2.pv | assumption) rfl) ?_))
    replace HGc := HGc.ext e153
    refine l_gt rfl rfl (to_f1 zk (zvA rfl) (CallsR.mono (CMay_b (b := true) HGc hm) ?_))
    rintro _ w154 ⟨rfl, e154⟩
    have := e154.size
    refine l_v (v_andT rfl rfl) ?_
    refine l_to (to_f1 zk (zvB rfl) (CallsR.mono (must_b (by rfl)) ?_))
    rintro _ w155 ⟨rfl, e155⟩
    have := e155.size
    replace HB2 := (HB2.ext e154).ext e155
    replace HB3 := (HB3.ext e154).ext e155
    refine l_nil (n_then (c_seq (wp_reg zd (l_v (v_loadA zk rfl (by first | exact HB3.pv | exact HB2.pv | assumption) rfl) ?_))))
    refine l_to (to_storeA (n := 20) rfl rfl (zvA rfl) zk rfl dj6 HB2 dj5 ?_)
    rintro w156 HX156 k156 z156
    have := k156.size
    replace HB2 := HX156
    clear HX156
    try simp only [zS, Nat.zero_add, Nat.reduceAdd, List.drop_nil] at HB2
    replace HB3 := HB3.keep k156 dj4
    refine l_to (to_store rfl rfl (zvI rfl) rfl zk HB3 dj5 ?_)
    rintro w157 HX157 k157 z157
    have := k157.size
    replace HB3 := HX157
    clear HX157
    try simp only [zS, Nat.zero_add, Nat.reduceAdd, List.drop_nil] at HB3
    refine l_nil (n_then (c_ret ?_))
    replace E := ((((E.trans e153.keep).trans e154.keep).trans e155.keep).step k156 dj3).step k157 dj3
    replace HGF := ((((HGF.ext e153).ext e154).ext e155).keep k156 dj1).keep k157 dj1
    replace HB2 := HB2.keep k157 dj4
    exact read_yes (by rfl) (by rfl) HB2 (by rfl) HB3 (HGF.mono fun i _ h => by omega) E (by rw [rdAll, hcm, hz]; exact if_pos hm)
   refine c_seq (wp_reg zd (l_v (zmP rfl) (l_to (to_f1 zk (zvP rfl) (CallsR.mono (End_n (n := 0) HR4 (if_pos hz)) ?_)))))
   rintro _ w158 ⟨rfl, e158⟩
   have := e158.size
   refine l_v (OpVat.as (b := true) (v_eql rfl rfl) zq) ?_
   replace HB2 := HB2.ext e158
   replace HB3 := HB3.ext e158
   refine l_v (zmB rfl) (l_gt rfl rfl (OpTo.of_v (v_loadA zk rfl (by first | exact HB3.pv | exact HB2.pv | assumption) rfl) ?_))
   replace HGc := HGc.ext e158
   refine l_gt rfl rfl (to_f1 zk (zvA rfl) (CallsR.mono (CMay_b (b := false) HGc (by simpa using hm)) ?_))
   rintro _ w159 ⟨rfl, e159⟩
   have := e159.size
   refine l_v (v_andT rfl rfl) ?_
   refine l_die (die_f1 zk (zvB rfl) (CallsP.mono (must_e (by rfl)) ?_))
   rintro ch w233 ⟨hch, e233⟩
   have := e233.size
   refine p_then ?_
   subst hch
   replace E := ((E.trans e158.keep).trans e159.keep).trans e233.keep
   replace HB2 := (HB2.ext e159).ext e233
   replace HB3 := (HB3.ext e159).ext e233
   exact read_no (by rfl) (by rfl) HB2 (by rfl) HB3 zo zo zo E (by rw [rdAll, hcm, hz]; exact if_neg hm)
  refine c_seq (wp_reg zd (l_v (zmP rfl) (l_to (to_f1 zk (zvP rfl) (CallsR.mono (End_n (n := 4) HR4 (if_neg hz)) ?_)))))
  rintro _ w160 ⟨rfl, e160⟩
  have := e160.size
  refine l_v (OpVat.as (b := false) (v_eql rfl rfl) zq) ?_
  refine l_v (zmB rfl) (l_skip (u := .bool false) rfl rfl rfl ?_)
  refine l_skip (u := .bool false) rfl rfl rfl ?_
  refine l_v (v_andC rfl) ?_
  refine l_die (die_f1 zk (zvB rfl) (CallsP.mono (must_e (by rfl)) ?_))
  rintro ch w234 ⟨hch, e234⟩
  have := e234.size
  refine p_then ?_
  subst hch
  have hnn : rdAll l = none := rdAll_rest hcm hz
  replace E := (E.trans e160.keep).trans e234.keep
  replace HB2 := (HB2.ext e160).ext e234
  replace HB3 := (HB3.ext e160).ext e234
  exact read_no (by rfl) (by rfl) HB2 (by rfl) HB3 zo zo zo E hnn
 refine c_seq (c_seq (wp_reg zd (l_v (v_eql rfl rfl) ?_)))
 refine l_v (zaB rfl) (l_nil (n_then (c_cond rfl rfl (fun h6 => ?_) (fun h6 => ?_))))
 ·
  refine c_skip (n_then (c_cond rfl rfl (fun hx => ?_) (fun hx => ?_)))
  ·
   obtain rfl : k = 6 := by have := dtrue h6; omega
   by_cases g1 : rdRw 24 l1 = none
   ·
    refine wp_reg zd (l_v (zmP rfl) (l_die (die_f2 zk (zvP rfl) (zvI rfl) (CallsP.mono (raw_d (most := ((24 : Nat) : Int)) HR1 hF zo zo zo g1) ?_))))
    rintro ch w235 ⟨hch, k235⟩
    have := k235.size
    refine p_blk ?_
    refine p_then ?_
    subst hch
    replace E := E.step k235 dj3
    replace HB2 := HB2.keep k235 dj4
    replace HB3 := HB3.keep k235 dj4
    exact read_no (by rfl) (by rfl) HB2 (by rfl) HB3 zo zo zo E (by simp [rdAll, rdCm, h0, g1])
   obtain ⟨⟨key, l2⟩, g1⟩ := Option.ne_none_iff_exists'.1 g1
   have bg1 := rdRw_ok g1
   refine wp_reg zd (l_v (zmP rfl) (l_to (to_f2 zk (zvP rfl) (zvI rfl) (CallsR.mono (raw_c (most := ((24 : Nat) : Int)) HR1 hF zo zo zo g1) ?_))))
   rintro _ w236 ⟨⟨a236, c236, rfl, HF236⟩, HR2, k236⟩
   have := k236.size
   have HGF : AgV tCmF w236 (fun i => n4 ≤ i) (.agg #[.int .i64 6, .int .i64 0, .int .i64 0, .int .i64 0, .slice none 0 0, .slice none 0 0, .slice none 0 0, .slice none 0 0, .bool false, .int .i64 0, .int .i64 0, .slice none 0 0, .slice none 0 0, .bool false, .int .i64 0, .int .i64 0, .slice none 0 0, .slice none 0 0, .slice a236 key.length c236, .int .i64 0]) _ := AgV.mkCmF ⟨by decide, by decide⟩ rq0_agF mv0_ag (SlV.nil _ _ _) (BvF.nil _ _) (HF236.mono fun i _ h => by omega) ⟨by decide, by decide⟩
   replace E := E.step k236 dj3
   replace HS1 := HS1.keep k236 dj1
   replace HB2 := HB2.keep k236 dj4
   replace HB3 := HB3.keep k236 dj4
   obtain ⟨cm, hcmq⟩ : ∃ c : CmV, rdCm l.length l = some (c, l2) ∧ AgV tCmF w236 (fun i => n4 ≤ i) (.agg #[.int .i64 6, .int .i64 0, .int .i64 0, .int .i64 0, .slice none 0 0, .slice none 0 0, .slice none 0 0, .slice none 0 0, .bool false, .int .i64 0, .int .i64 0, .slice none 0 0, .slice none 0 0, .bool false, .int .i64 0, .int .i64 0, .slice none 0 0, .slice none 0 0, .slice a236 key.length c236, .int .i64 0]) c := ⟨_, by simp [rdCm, h0, g1], HGF⟩
   obtain ⟨hcm, HGF⟩ := hcmq
   have HGc := HGF.imp imp_cm
   refine l_v (v_fieldAddr (off := 18) (ft := 24) zk rfl) (l_to (to_store rfl rfl (zvS rfl) rfl zk HB2 dj5 ?_))
   rintro w161 HX161 k161 z161
   have := k161.size
   replace HB2 := HX161
   clear HX161
   try simp only [zS, Nat.zero_add, Nat.reduceAdd, List.drop_nil] at HB2
   refine l_nil (n_blk (n_then ?_))
   replace E := E.step k161 dj3
   replace HS1 := HS1.keep k161 dj1
   replace HB3 := HB3.keep k161 dj4
   replace HF236 := HF236.keep k161 dj2
   replace HR2 := HR2.keep k161 dj7 (by intro i hi he; have hi0 := hi; have hi := hi; have he := he; (try dsimp only [NoK] at hi he); first | exact he.elim | omega | (have := hF i hi0; omega))
   replace HGF := HGF.keep k161 dj1
   replace HGc := HGc.keep k161 dj1
   by_cases hz : l2 = []
   ·
    by_cases hm : mayCm cm = true
    ·
     refine c_seq (wp_reg zd (l_v (zmP rfl) (l_to (to_f1 zk (zvP rfl) (CallsR.mono (End_n (n := 0) HR2 (if_pos hz)) ?_)))))
     rintro _ w162 ⟨rfl, e162⟩
     have := e162.size
     refine l_v (OpVat.as (b := true) (v_eql rfl rfl) zq) ?_
     replace HB2 := HB2.ext e162
     replace HB3 := HB3.ext e162
     refine l_v (zmB rfl) (l_gt rfl rfl (OpTo.of_v (v_loadA zk rfl (by first | exact HB3.pv | exact HB2.pv | assumption) rfl) ?_))
     replace HGc := HGc.ext e162
     refine l_gt rfl rfl (to_f1 zk (zvA rfl) (CallsR.mono (CMay_b (b := true) HGc hm) ?_))
     rintro _ w163 ⟨rfl, e163⟩
     have := e163.size
     refine l_v (v_andT rfl rfl) ?_
     refine l_to (to_f1 zk (zvB rfl) (CallsR.mono (must_b (by rfl)) ?_))
     rintro _ w164 ⟨rfl, e164⟩
     have := e164.size
     replace HB2 := (HB2.ext e163).ext e164
     replace HB3 := (HB3.ext e163).ext e164
     refine l_nil (n_then (c_seq (wp_reg zd (l_v (v_loadA zk rfl (by first | exact HB3.pv | exact HB2.pv | assumption) rfl) ?_))))
     refine l_to (to_storeA (n := 20) rfl rfl (zvA rfl) zk rfl dj6 HB2 dj5 ?_)
     rintro w165 HX165 k165 z165
     have := k165.size
     replace HB2 := HX165
     clear HX165
     try simp only [zS, Nat.zero_add, Nat.reduceAdd, List.drop_nil] at HB2
     replace HB3 := HB3.keep k165 dj4
     refine l_to (to_store rfl rfl (zvI rfl) rfl zk HB3 dj5 ?_)
     rintro w166 HX166 k166 z166
     have := k166.size
     replace HB3 := HX166
     clear HX166
     try simp only [zS, Nat.zero_add, Nat.reduceAdd, List.drop_nil] at HB3
     refine l_nil (n_then (c_ret ?_))
     replace E := ((((E.trans e162.keep).trans e163.keep).trans e164.keep).step k165 dj3).step k166 dj3
     replace HGF := ((((HGF.ext e162).ext e163).ext e164).keep k165 dj1).keep k166 dj1
     replace HB2 := HB2.keep k166 dj4
     exact read_yes (by rfl) (by rfl) HB2 (by rfl) HB3 (HGF.mono fun i _ h => by omega) E (by rw [rdAll, hcm, hz]; exact if_pos hm)
    refine c_seq (wp_reg zd (l_v (zmP rfl) (l_to (to_f1 zk (zvP rfl) (CallsR.mono (End_n (n := 0) HR2 (if_pos hz)) ?_)))))
    rintro _ w167 ⟨rfl, e167⟩
    have := e167.size
    refine l_v (OpVat.as (b := true) (v_eql rfl rfl) zq) ?_
    replace HB2 := HB2.ext e167
    replace HB3 := HB3.ext e167
    refine l_v (zmB rfl) (l_gt rfl rfl (OpTo.of_v (v_loadA zk rfl (by first | exact HB3.pv | exact HB2.pv | assumption) rfl) ?_))
    replace HGc := HGc.ext e167
    refine l_gt rfl rfl (to_f1 zk (zvA rfl) (CallsR.mono (CMay_b (b := false) HGc (by simpa using hm)) ?_))
    rintro _ w168 ⟨rfl, e168⟩
    have := e168.size
    refine l_v (v_andT rfl rfl) ?_
    refine l_die (die_f1 zk (zvB rfl) (CallsP.mono (must_e (by rfl)) ?_))
    rintro ch w237 ⟨hch, e237⟩
    have := e237.size
    refine p_then ?_
    subst hch
    replace E := ((E.trans e167.keep).trans e168.keep).trans e237.keep
    replace HB2 := (HB2.ext e168).ext e237
    replace HB3 := (HB3.ext e168).ext e237
    exact read_no (by rfl) (by rfl) HB2 (by rfl) HB3 zo zo zo E (by rw [rdAll, hcm, hz]; exact if_neg hm)
   refine c_seq (wp_reg zd (l_v (zmP rfl) (l_to (to_f1 zk (zvP rfl) (CallsR.mono (End_n (n := 4) HR2 (if_neg hz)) ?_)))))
   rintro _ w169 ⟨rfl, e169⟩
   have := e169.size
   refine l_v (OpVat.as (b := false) (v_eql rfl rfl) zq) ?_
   refine l_v (zmB rfl) (l_skip (u := .bool false) rfl rfl rfl ?_)
   refine l_skip (u := .bool false) rfl rfl rfl ?_
   refine l_v (v_andC rfl) ?_
   refine l_die (die_f1 zk (zvB rfl) (CallsP.mono (must_e (by rfl)) ?_))
   rintro ch w238 ⟨hch, e238⟩
   have := e238.size
   refine p_then ?_
   subst hch
   have hnn : rdAll l = none := rdAll_rest hcm hz
   replace E := (E.trans e169.keep).trans e238.keep
   replace HB2 := (HB2.ext e169).ext e238
   replace HB3 := (HB3.ext e169).ext e238
   exact read_no (by rfl) (by rfl) HB2 (by rfl) HB3 zo zo zo E hnn
  rw [h6] at hx; cases hx
 refine wp_reg zd (l_v (v_eql rfl rfl) ?_)
 refine l_v (zaB rfl) (l_nil (n_then (c_cond rfl rfl (fun h7 => ?_) (fun h7 => ?_))))
 ·
  obtain rfl : k = 7 := by have := dtrue h7; omega
  by_cases g1 : rdRw 24 l1 = none
  ·
   refine wp_reg zd (l_v (zmP rfl) (l_die (die_f2 zk (zvP rfl) (zvI rfl) (CallsP.mono (raw_d (most := ((24 : Nat) : Int)) HR1 hF zo zo zo g1) ?_))))
   rintro ch w239 ⟨hch, k239⟩
   have := k239.size
   refine p_blk ?_
   refine p_then ?_
   subst hch
   replace E := E.step k239 dj3
   replace HB2 := HB2.keep k239 dj4
   replace HB3 := HB3.keep k239 dj4
   exact read_no (by rfl) (by rfl) HB2 (by rfl) HB3 zo zo zo E (by simp [rdAll, rdCm, h0, g1])
  obtain ⟨⟨key, l2⟩, g1⟩ := Option.ne_none_iff_exists'.1 g1
  have bg1 := rdRw_ok g1
  refine wp_reg zd (l_v (zmP rfl) (l_to (to_f2 zk (zvP rfl) (zvI rfl) (CallsR.mono (raw_c (most := ((24 : Nat) : Int)) HR1 hF zo zo zo g1) ?_))))
  rintro _ w240 ⟨⟨a240, c240, rfl, HF240⟩, HR2, k240⟩
  have := k240.size
  have HGF : AgV tCmF w240 (fun i => n4 ≤ i) (.agg #[.int .i64 7, .int .i64 0, .int .i64 0, .int .i64 0, .slice none 0 0, .slice none 0 0, .slice none 0 0, .slice none 0 0, .bool false, .int .i64 0, .int .i64 0, .slice none 0 0, .slice none 0 0, .bool false, .int .i64 0, .int .i64 0, .slice none 0 0, .slice none 0 0, .slice a240 key.length c240, .int .i64 0]) _ := AgV.mkCmF ⟨by decide, by decide⟩ rq0_agF mv0_ag (SlV.nil _ _ _) (BvF.nil _ _) (HF240.mono fun i _ h => by omega) ⟨by decide, by decide⟩
  replace E := E.step k240 dj3
  replace HS1 := HS1.keep k240 dj1
  replace HB2 := HB2.keep k240 dj4
  replace HB3 := HB3.keep k240 dj4
  obtain ⟨cm, hcmq⟩ : ∃ c : CmV, rdCm l.length l = some (c, l2) ∧ AgV tCmF w240 (fun i => n4 ≤ i) (.agg #[.int .i64 7, .int .i64 0, .int .i64 0, .int .i64 0, .slice none 0 0, .slice none 0 0, .slice none 0 0, .slice none 0 0, .bool false, .int .i64 0, .int .i64 0, .slice none 0 0, .slice none 0 0, .bool false, .int .i64 0, .int .i64 0, .slice none 0 0, .slice none 0 0, .slice a240 key.length c240, .int .i64 0]) c := ⟨_, by simp [rdCm, h0, g1], HGF⟩
  obtain ⟨hcm, HGF⟩ := hcmq
  have HGc := HGF.imp imp_cm
  refine l_v (v_fieldAddr (off := 18) (ft := 24) zk rfl) (l_to (to_store rfl rfl (zvS rfl) rfl zk HB2 dj5 ?_))
  rintro w170 HX170 k170 z170
  have := k170.size
  replace HB2 := HX170
  clear HX170
  try simp only [zS, Nat.zero_add, Nat.reduceAdd, List.drop_nil] at HB2
  refine l_nil (n_blk (n_then ?_))
  replace E := E.step k170 dj3
  replace HS1 := HS1.keep k170 dj1
  replace HB3 := HB3.keep k170 dj4
  replace HF240 := HF240.keep k170 dj2
  replace HR2 := HR2.keep k170 dj7 (by intro i hi he; have hi0 := hi; have hi := hi; have he := he; (try dsimp only [NoK] at hi he); first | exact he.elim | omega | (have := hF i hi0; omega))
  replace HGF := HGF.keep k170 dj1
  replace HGc := HGc.keep k170 dj1
  by_cases hz : l2 = []
  ·
   by_cases hm : mayCm cm = true
   ·
    refine c_seq (wp_reg zd (l_v (zmP rfl) (l_to (to_f1 zk (zvP rfl) (CallsR.mono (End_n (n := 0) HR2 (if_pos hz)) ?_)))))
    rintro _ w171 ⟨rfl, e171⟩
    have := e171.size
    refine l_v (OpVat.as (b := true) (v_eql rfl rfl) zq) ?_
    replace HB2 := HB2.ext e171
    replace HB3 := HB3.ext e171
    refine l_v (zmB rfl) (l_gt rfl rfl (OpTo.of_v (v_loadA zk rfl (by first | exact HB3.pv | exact HB2.pv | assumption) rfl) ?_))
    replace HGc := HGc.ext e171
    refine l_gt rfl rfl (to_f1 zk (zvA rfl) (CallsR.mono (CMay_b (b := true) HGc hm) ?_))
    rintro _ w172 ⟨rfl, e172⟩
    have := e172.size
    refine l_v (v_andT rfl rfl) ?_
    refine l_to (to_f1 zk (zvB rfl) (CallsR.mono (must_b (by rfl)) ?_))
    rintro _ w173 ⟨rfl, e173⟩
    have := e173.size
    replace HB2 := (HB2.ext e172).ext e173
    replace HB3 := (HB3.ext e172).ext e173
    refine l_nil (n_then (c_seq (wp_reg zd (l_v (v_loadA zk rfl (by first | exact HB3.pv | exact HB2.pv | assumption) rfl) ?_))))
    refine l_to (to_storeA (n := 20) rfl rfl (zvA rfl) zk rfl dj6 HB2 dj5 ?_)
    rintro w174 HX174 k174 z174
    have := k174.size
    replace HB2 := HX174
    clear HX174
    try simp only [zS, Nat.zero_add, Nat.reduceAdd, List.drop_nil] at HB2
    replace HB3 := HB3.keep k174 dj4
    refine l_to (to_store rfl rfl (zvI rfl) rfl zk HB3 dj5 ?_)
    rintro w175 HX175 k175 z175
    have := k175.size
    replace HB3 := HX175
    clear HX175
    try simp only [zS, Nat.zero_add, Nat.reduceAdd, List.drop_nil] at HB3
    refine l_nil (n_then (c_ret ?_))
    replace E := ((((E.trans e171.keep).trans e172.keep).trans e173.keep).step k174 dj3).step k175 dj3
    replace HGF := ((((HGF.ext e171).ext e172).ext e173).keep k174 dj1).keep k175 dj1
    replace HB2 := HB2.keep k175 dj4
    exact read_yes (by rfl) (by rfl) HB2 (by rfl) HB3 (HGF.mono fun i _ h => by omega) E (by rw [rdAll, hcm, hz]; exact if_pos hm)
   refine c_seq (wp_reg zd (l_v (zmP rfl) (l_to (to_f1 zk (zvP rfl) (CallsR.mono (End_n (n := 0) HR2 (if_pos hz)) ?_)))))
   rintro _ w176 ⟨rfl, e176⟩
   have := e176.size
   refine l_v (OpVat.as (b := true) (v_eql rfl rfl) zq) ?_
   replace HB2 := HB2.ext e176
   replace HB3 := HB3.ext e176
   refine l_v (zmB rfl) (l_gt rfl rfl (OpTo.of_v (v_loadA zk rfl (by first | exact HB3.pv | exact HB2.pv | assumption) rfl) ?_))
   replace HGc := HGc.ext e176
   refine l_gt rfl rfl (to_f1 zk (zvA rfl) (CallsR.mono (CMay_b (b := false) HGc (by simpa using hm)) ?_))
   rintro _ w177 ⟨rfl, e177⟩
   have := e177.size
   refine l_v (v_andT rfl rfl) ?_
   refine l_die (die_f1 zk (zvB rfl) (CallsP.mono (must_e (by rfl)) ?_))
   rintro ch w241 ⟨hch, e241⟩
   have := e241.size
   refine p_then ?_
   subst hch
   replace E := ((E.trans e176.keep).trans e177.keep).trans e241.keep
   replace HB2 := (HB2.ext e177).ext e241
   replace HB3 := (HB3.ext e177).ext e241
   exact read_no (by rfl) (by rfl) HB2 (by rfl) HB3 zo zo zo E (by rw [rdAll, hcm, hz]; exact if_neg hm)
  refine c_seq (wp_reg zd (l_v (zmP rfl) (l_to (to_f1 zk (zvP rfl) (CallsR.mono (End_n (n := 4) HR2 (if_neg hz)) ?_)))))
  rintro _ w178 ⟨rfl, e178⟩
  have := e178.size
  refine l_v (OpVat.as (b := false) (v_eql rfl rfl) zq) ?_
  refine l_v (zmB rfl) (l_skip (u := .bool false) rfl rfl rfl ?_)
  refine l_skip (u := .bool false) rfl rfl rfl ?_
  refine l_v (v_andC rfl) ?_
  refine l_die (die_f1 zk (zvB rfl) (CallsP.mono (must_e (by rfl)) ?_))
  rintro ch w242 ⟨hch, e242⟩
  have := e242.size
  refine p_then ?_
  subst hch
  have hnn : rdAll l = none := rdAll_rest hcm hz
  replace E := (E.trans e178.keep).trans e242.keep
  replace HB2 := (HB2.ext e178).ext e242
  replace HB3 := (HB3.ext e178).ext e242
  exact read_no (by rfl) (by rfl) HB2 (by rfl) HB3 zo zo zo E hnn
 refine c_seq (wp_reg zd (l_v (v_eql rfl rfl) ?_))
 refine l_v (zaB rfl) (l_nil (n_then (c_cond rfl rfl (fun h8 => ?_) (fun h8 => ?_))))
 ·
  obtain rfl : k = 8 := by have := dtrue h8; omega
  by_cases g1 : rdRw 24 l1 = none
  ·
   refine c_seq (wp_reg zd (l_v (zmP rfl) (l_die (die_f2 zk (zvP rfl) (zvI rfl) (CallsP.mono (raw_d (most := ((24 : Nat) : Int)) HR1 hF zo zo zo g1) ?_)))))
   rintro ch w243 ⟨hch, k243⟩
   have := k243.size
   refine p_then ?_
   refine p_blk ?_
   refine p_then ?_
   subst hch
   replace E := E.step k243 dj3
   replace HB2 := HB2.keep k243 dj4
   replace HB3 := HB3.keep k243 dj4
   exact read_no (by rfl) (by rfl) HB2 (by rfl) HB3 zo zo zo E (by simp [rdAll, rdCm, h0, g1])
  refine c_seq ?_
  obtain ⟨⟨key, l2⟩, g1⟩ := Option.ne_none_iff_exists'.1 g1
  have bg1 := rdRw_ok g1
  refine wp_reg zd (l_v (zmP rfl) (l_to (to_f2 zk (zvP rfl) (zvI rfl) (CallsR.mono (raw_c (most := ((24 : Nat) : Int)) HR1 hF zo zo zo g1) ?_))))
  rintro _ w244 ⟨⟨a244, c244, rfl, HF244⟩, HR2, k244⟩
  have := k244.size
  replace HB2 := HB2.keep k244 dj4
  refine l_v (v_fieldAddr (off := 18) (ft := 24) zk rfl) (l_to (to_store rfl rfl (zvS rfl) rfl zk HB2 dj5 ?_))
  rintro w179 HX179 k179 z179
  have := k179.size
  replace HB2 := HX179
  clear HX179
  try simp only [zS, Nat.zero_add, Nat.reduceAdd, List.drop_nil] at HB2
  refine l_nil (n_then ?_)
  replace E := (E.step k244 dj3).step k179 dj3
  replace HS1 := (HS1.keep k244 dj1).keep k179 dj1
  replace HB3 := (HB3.keep k244 dj4).keep k179 dj4
  replace HF244 := HF244.keep k179 dj2
  replace HR2 := HR2.keep k179 dj7 (by intro i hi he; have hi0 := hi; have hi := hi; have he := he; (try dsimp only [NoK] at hi he); first | exact he.elim | omega | (have := hF i hi0; omega))
  by_cases g2 : rdSm 5 l2 = none
  ·
   refine wp_reg zd (l_v (zmP rfl) (l_die (die_f2 zk (zvP rfl) (zvI rfl) (CallsP.mono (small_d (most := 5) HR2 hnF zq zq g2) ?_))))
   rintro ch w245 ⟨hch, k245⟩
   have := k245.size
   refine p_blk ?_
   refine p_then ?_
   subst hch
   replace E := E.step k245 dj3
   replace HB2 := HB2.keep k245 dj4
   replace HB3 := HB3.keep k245 dj4
   exact read_no (by rfl) (by rfl) HB2 (by rfl) HB3 zo zo zo E (by simp [rdAll, rdCm, h0, g1, g2])
  obtain ⟨⟨g, l3⟩, g2⟩ := Option.ne_none_iff_exists'.1 g2
  have bg2 := rdSm_ok g2
  refine wp_reg zd (l_v (zmP rfl) (l_to (to_f2 zk (zvP rfl) (zvI rfl) (CallsR.mono (small_c (most := 5) HR2 hnF zq zq g2) ?_))))
  rintro _ w246 ⟨rfl, HR3, k246⟩
  have := k246.size
  replace HF244 := HF244.keep k246 dj2
  have HGF : AgV tCmF w246 (fun i => n4 ≤ i) (.agg #[.int .i64 8, .int .i64 0, .int .i64 0, .int .i64 0, .slice none 0 0, .slice none 0 0, .slice none 0 0, .slice none 0 0, .bool false, .int .i64 0, .int .i64 0, .slice none 0 0, .slice none 0 0, .bool false, .int .i64 0, .int .i64 0, .slice none 0 0, .slice none 0 0, .slice a244 key.length c244, .int .i64 g]) _ := AgV.mkCmF ⟨by decide, by decide⟩ rq0_agF mv0_ag (SlV.nil _ _ _) (BvF.nil _ _) (HF244.mono fun i _ h => by omega) ⟨by omega, by omega⟩
  replace E := E.step k246 dj3
  replace HS1 := HS1.keep k246 dj1
  replace HB2 := HB2.keep k246 dj4
  replace HB3 := HB3.keep k246 dj4
  obtain ⟨cm, hcmq⟩ : ∃ c : CmV, rdCm l.length l = some (c, l3) ∧ AgV tCmF w246 (fun i => n4 ≤ i) (.agg #[.int .i64 8, .int .i64 0, .int .i64 0, .int .i64 0, .slice none 0 0, .slice none 0 0, .slice none 0 0, .slice none 0 0, .bool false, .int .i64 0, .int .i64 0, .slice none 0 0, .slice none 0 0, .bool false, .int .i64 0, .int .i64 0, .slice none 0 0, .slice none 0 0, .slice a244 key.length c244, .int .i64 g]) c := ⟨_, by simp [rdCm, h0, g1, g2], HGF⟩
  obtain ⟨hcm, HGF⟩ := hcmq
  have HGc := HGF.imp imp_cm
  refine l_v (v_fieldAddr (off := 19) (ft := 3) zk rfl) (l_to (to_store rfl rfl (zvI rfl) rfl zk HB2 dj5 ?_))
  rintro w180 HX180 k180 z180
  have := k180.size
  replace HB2 := HX180
  clear HX180
  try simp only [zS, Nat.zero_add, Nat.reduceAdd, List.drop_nil] at HB2
  refine l_nil (n_blk (n_then ?_))
  replace E := E.step k180 dj3
  replace HS1 := HS1.keep k180 dj1
  replace HB3 := HB3.keep k180 dj4
  replace HF244 := HF244.keep k180 dj2
  replace HR3 := HR3.keep k180 dj7 (by intro i hi he; have hi0 := hi; have hi := hi; have he := he; (try dsimp only [NoK] at hi he); first | exact he.elim | omega | (have := hF i hi0; omega))
  replace HGF := HGF.keep k180 dj1
  replace HGc := HGc.keep k180 dj1
  by_cases hz : l3 = []
  ·
   by_cases hm : mayCm cm = true
   ·
    refine c_seq (wp_reg zd (l_v (zmP rfl) (l_to (to_f1 zk (zvP rfl) (CallsR.mono (End_n (n := 0) HR3 (if_pos hz)) ?_)))))
    rintro _ w181 ⟨rfl, e181⟩
    have := e181.size
    refine l_v (OpVat.as (b := true) (v_eql rfl rfl) zq) ?_
    replace HB2 := HB2.ext e181
    replace HB3 := HB3.ext e181
    refine l_v (zmB rfl) (l_gt rfl rfl (OpTo.of_v (v_loadA zk rfl (by first | exact HB3.pv | exact HB2.pv | assumption) rfl) ?_))
    replace HGc := HGc.ext e181
    refine l_gt rfl rfl (to_f1 zk (zvA rfl) (CallsR.mono (CMay_b (b := true) HGc hm) ?_))
    rintro _ w182 ⟨rfl, e182⟩
    have := e182.size
    refine l_v (v_andT rfl rfl) ?_
    refine l_to (to_f1 zk (zvB rfl) (CallsR.mono (must_b (by rfl)) ?_))
    rintro _ w183 ⟨rfl, e183⟩
    have := e183.size
    replace HB2 := (HB2.ext e182).ext e183
    replace HB3 := (HB3.ext e182).ext e183
    refine l_nil (n_then (c_seq (wp_reg zd (l_v (v_loadA zk rfl (by first | exact HB3.pv | exact HB2.pv | assumption) rfl) ?_))))
    refine l_to (to_storeA (n := 20) rfl rfl (zvA rfl) zk rfl dj6 HB2 dj5 ?_)
    rintro w184 HX184 k184 z184
    have := k184.size
    replace HB2 := HX184
    clear HX184
    try simp only [zS, Nat.zero_add, Nat.reduceAdd, List.drop_nil] at HB2
    replace HB3 := HB3.keep k184 dj4
    refine l_to (to_store rfl rfl (zvI rfl) rfl zk HB3 dj5 ?_)
    rintro w185 HX185 k185 z185
    have := k185.size
    replace HB3 := HX185
    clear HX185
    try simp only [zS, Nat.zero_add, Nat.reduceAdd, List.drop_nil] at HB3
    refine l_nil (n_then (c_ret ?_))
    replace E := ((((E.trans e181.keep).trans e182.keep).trans e183.keep).step k184 dj3).step k185 dj3
    replace HGF := ((((HGF.ext e181).ext e182).ext e183).keep k184 dj1).keep k185 dj1
    replace HB2 := HB2.keep k185 dj4
    exact read_yes (by rfl) (by rfl) HB2 (by rfl) HB3 (HGF.mono fun i _ h => by omega) E (by rw [rdAll, hcm, hz]; exact if_pos hm)
   refine c_seq (wp_reg zd (l_v (zmP rfl) (l_to (to_f1 zk (zvP rfl) (CallsR.mono (End_n (n := 0) HR3 (if_pos hz)) ?_)))))
   rintro _ w186 ⟨rfl, e186⟩
   have := e186.size
   refine l_v (OpVat.as (b := true) (v_eql rfl rfl) zq) ?_
   replace HB2 := HB2.ext e186
   replace HB3 := HB3.ext e186
   refine l_v (zmB rfl) (l_gt rfl rfl (OpTo.of_v (v_loadA zk rfl (by first | exact HB3.pv | exact HB2.pv | assumption) rfl) ?_))
   replace HGc := HGc.ext e186
   refine l_gt rfl rfl (to_f1 zk (zvA rfl) (CallsR.mono (CMay_b (b := false) HGc (by simpa using hm)) ?_))
   rintro _ w187 ⟨rfl, e187⟩
   have := e187.size
   refine l_v (v_andT rfl rfl) ?_
   refine l_die (die_f1 zk (zvB rfl) (CallsP.mono (must_e (by rfl)) ?_))
   rintro ch w247 ⟨hch, e247⟩
   have := e247.size
   refine p_then ?_
   subst hch
   replace E := ((E.trans e186.keep).trans e187.keep).trans e247.keep
   replace HB2 := (HB2.ext e187).ext e247
   replace HB3 := (HB3.ext e187).ext e247
   exact read_no (by rfl) (by rfl) HB2 (by rfl) HB3 zo zo zo E (by rw [rdAll, hcm, hz]; exact if_neg hm)
  refine c_seq (wp_reg zd (l_v (zmP rfl) (l_to (to_f1 zk (zvP rfl) (CallsR.mono (End_n (n := 4) HR3 (if_neg hz)) ?_)))))
  rintro _ w188 ⟨rfl, e188⟩
  have := e188.size
  refine l_v (OpVat.as (b := false) (v_eql rfl rfl) zq) ?_
  refine l_v (zmB rfl) (l_skip (u := .bool false) rfl rfl rfl ?_)
  refine l_skip (u := .bool false) rfl rfl rfl ?_
  refine l_v (v_andC rfl) ?_
  refine l_die (die_f1 zk (zvB rfl) (CallsP.mono (must_e (by rfl)) ?_))
  rintro ch w248 ⟨hch, e248⟩
  have := e248.size
  refine p_then ?_
  subst hch
  have hnn : rdAll l = none := rdAll_rest hcm hz
  replace E := (E.trans e188.keep).trans e248.keep
  replace HB2 := (HB2.ext e188).ext e248
  replace HB3 := (HB3.ext e188).ext e248
  exact read_no (by rfl) (by rfl) HB2 (by rfl) HB3 zo zo zo E hnn
 have hkk : ¬ k = 2 ∧ ¬ (k = 3 ∨ k = 5 ∨ k = 9 ∨ k = 10) ∧ ¬ k = 4 ∧ ¬ (k = 6 ∨ k = 7) ∧ ¬ k = 8 := by have := dfalse h2; have := dfalse h3; have := dfalse h5; have := dfalse h9; have := dfalse h10; have := dfalse h4; have := dfalse h6; have := dfalse h7; have := dfalse h8; omega
 have HGF : AgV tCmF w101 (fun i => n4 ≤ i) (.agg #[.int .i64 k, .int .i64 0, .int .i64 0, .int .i64 0, .slice none 0 0, .slice none 0 0, .slice none 0 0, .slice none 0 0, .bool false, .int .i64 0, .int .i64 0, .slice none 0 0, .slice none 0 0, .bool false, .int .i64 0, .int .i64 0, .slice none 0 0, .slice none 0 0, .slice none 0 0, .int .i64 0]) _ := AgV.mkCmF ⟨by omega, by omega⟩ rq0_agF mv0_ag (SlV.nil _ _ _) (BvF.nil _ _) (BvF.nil _ _) ⟨by decide, by decide⟩
 obtain ⟨cm, hcmq⟩ : ∃ c : CmV, rdCm l.length l = some (c, l1) ∧ AgV tCmF w101 (fun i => n4 ≤ i) (.agg #[.int .i64 k, .int .i64 0, .int .i64 0, .int .i64 0, .slice none 0 0, .slice none 0 0, .slice none 0 0, .slice none 0 0, .bool false, .int .i64 0, .int .i64 0, .slice none 0 0, .slice none 0 0, .bool false, .int .i64 0, .int .i64 0, .slice none 0 0, .slice none 0 0, .slice none 0 0, .int .i64 0]) c := ⟨_, by simp [rdCm, h0, hkk.1, hkk.2.1, hkk.2.2.1, hkk.2.2.2.1, hkk.2.2.2.2], HGF⟩
 obtain ⟨hcm, HGF⟩ := hcmq
 have HGc := HGF.imp imp_cm
 by_cases hz : l1 = []
 ·
  by_cases hm : mayCm cm = true
  ·
   refine c_skip (n_blk (n_then (c_seq (wp_reg zd (l_v (zmP rfl) (l_to (to_f1 zk (zvP rfl) (CallsR.mono (End_n (n := 0) HR1 (if_pos hz)) ?_))))))))
   rintro _ w189 ⟨rfl, e189⟩
   have := e189.size
   refine l_v (OpVat.as (b := true) (v_eql rfl rfl) zq) ?_
   replace HB2 := HB2.ext e189
   replace HB3 := HB3.ext e189
   refine l_v (zmB rfl) (l_gt rfl rfl (OpTo.of_v (v_loadA zk rfl (by first | exact HB3.pv | exact HB2.pv | assumption) rfl) ?_))
   replace HGc := HGc.ext e189
   refine l_gt rfl rfl (to_f1 zk (zvA rfl) (CallsR.mono (CMay_b (b := true) HGc hm) ?_))
   rintro _ w190 ⟨rfl, e190⟩
   have := e190.size
   refine l_v (v_andT rfl rfl) ?_
   refine l_to (to_f1 zk (zvB rfl) (CallsR.mono (must_b (by rfl)) ?_))
   rintro _ w191 ⟨rfl, e191⟩
   have := e191.size
   replace HB2 := (HB2.ext e190).ext e191
   replace HB3 := (HB3.ext e190).ext e191
   refine l_nil (n_then (c_seq (wp_reg zd (l_v (v_loadA zk rfl (by first | exact HB3.pv | exact HB2.pv | assumption) rfl) ?_))))
   refine l_to (to_storeA (n := 20) rfl rfl (zvA rfl) zk rfl dj6 HB2 dj5 ?_)
   rintro w192 HX192 k192 z192
   have := k192.size
   replace HB2 := HX192
   clear HX192
   try simp only [zS, Nat.zero_add, Nat.reduceAdd, List.drop_nil] at HB2
   replace HB3 := HB3.keep k192 dj4
   refine l_to (to_store rfl rfl (zvI rfl) rfl zk HB3 dj5 ?_)
   rintro w193 HX193 k193 z193
   have := k193.size
   replace HB3 := HX193
   clear HX193
   try simp only [zS, Nat.zero_add, Nat.reduceAdd, List.drop_nil] at HB3
   refine l_nil (n_then (c_ret ?_))
   replace E := ((((E.trans e189.keep).trans e190.keep).trans e191.keep).step k192 dj3).step k193 dj3
   replace HGF := ((((HGF.ext e189).ext e190).ext e191).keep k192 dj1).keep k193 dj1
   replace HB2 := HB2.keep k193 dj4
   exact read_yes (by rfl) (by rfl) HB2 (by rfl) HB3 (HGF.mono fun i _ h => by omega) E (by rw [rdAll, hcm, hz]; exact if_pos hm)
  refine c_skip (n_blk (n_then (c_seq (wp_reg zd (l_v (zmP rfl) (l_to (to_f1 zk (zvP rfl) (CallsR.mono (End_n (n := 0) HR1 (if_pos hz)) ?_))))))))
  rintro _ w194 ⟨rfl, e194⟩
  have := e194.size
  refine l_v (OpVat.as (b := true) (v_eql rfl rfl) zq) ?_
  replace HB2 := HB2.ext e194
  replace HB3 := HB3.ext e194
  refine l_v (zmB rfl) (l_gt rfl rfl (OpTo.of_v (v_loadA zk rfl (by first | exact HB3.pv | exact HB2.pv | assumption) rfl) ?_))
  replace HGc := HGc.ext e194
  refine l_gt rfl rfl (to_f1 zk (zvA rfl) (CallsR.mono (CMay_b (b := false) HGc (by simpa using hm)) ?_))
  rintro _ w195 ⟨rfl, e195⟩
  have := e195.size
  refine l_v (v_andT rfl rfl) ?_
  refine l_die (die_f1 zk (zvB rfl) (CallsP.mono (must_e (by rfl)) ?_))
  rintro ch w249 ⟨hch, e249⟩
  have := e249.size
  refine p_then ?_
  subst hch
  replace E := ((E.trans e194.keep).trans e195.keep).trans e249.keep
  replace HB2 := (HB2.ext e195).ext e249
  replace HB3 := (HB3.ext e195).ext e249
  exact read_no (by rfl) (by rfl) HB2 (by rfl) HB3 zo zo zo E (by rw [rdAll, hcm, hz]; exact if_neg hm)
 refine c_skip (n_blk (n_then (c_seq (wp_reg zd (l_v (zmP rfl) (l_to (to_f1 zk (zvP rfl) (CallsR.mono (End_n (n := 4) HR1 (if_neg hz)) ?_))))))))
 rintro _ w196 ⟨rfl, e196⟩
 have := e196.size
 refine l_v (OpVat.as (b := false) (v_eql rfl rfl) zq) ?_
 refine l_v (zmB rfl) (l_skip (u := .bool false) rfl rfl rfl ?_)
 refine l_skip (u := .bool false) rfl rfl rfl ?_
 refine l_v (v_andC rfl) ?_
 refine l_die (die_f1 zk (zvB rfl) (CallsP.mono (must_e (by rfl)) ?_))
 rintro ch w250 ⟨hch, e250⟩
 have := e250.size
 refine p_then ?_
 subst hch
 have hnn : rdAll l = none := rdAll_rest hcm hz
 replace E := (E.trans e196.keep).trans e250.keep
 replace HB2 := (HB2.ext e196).ext e250
 replace HB3 := (HB3.ext e196).ext e250
 exact read_no (by rfl) (by rfl) HB2 (by rfl) HB3 zo zo zo E hnn
end Go.Proofs.YtogafjlbpodgjaaGreat
