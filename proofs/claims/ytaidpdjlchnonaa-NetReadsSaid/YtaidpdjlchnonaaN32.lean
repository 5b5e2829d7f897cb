/- A part of the proof: steps and lemmas for the walks through the given program. -/
import Derived.Test.YtaidpdjlchnonaaN31
import Derived.Test.YtaidpdjlchnonaaN15
namespace Go.Proofs.Ytaidpdjlchnonaa
open Go.Vc
set_option linter.unusedVariables false
set_option linter.unusedSimpArgs false
set_option maxRecDepth 100000

/-- the states behind the entries, the flag, the snapshot -/
def rG (l : List UInt8) : List EnV × RSt := gE (kNm (rK l) 3) (rD l 3)
def rH (l : List UInt8) : Bool × RSt := gF (kNm (rK l) 4) (rG l).2
def rJ (l : List UInt8) : List UInt8 × RSt := gS (kNm (rK l) 5) (rH l).2
def rW (l : List UInt8) : Ms := { rM l with ents := (rG l).1, ok := (rH l).1, snap := (rJ l).1 }
theorem smV_i64 (is : Bool) (most : Nat) (s : RSt) (hm : most ≤ 9223372036854775807) : I64 (smV is most s) := by
  have := smV_rng is most s; unfold I64; omega
theorem rW_wf (l : List UInt8) : (rW l).Wf := ⟨smV_i64 true 7 (l, 0) (by decide), smV_i64 true 5 (rB l 0) (by decide), smV_i64 true 5 (rB l 1) (by decide), smV_i64 true 5 (rB l 2) (by decide), smV_i64 true 2147483647 (rB l 3) (by decide), smV_i64 (kNm (rK l) 0) 2147483647 (rD l 0) (by decide), smV_i64 (kNm (rK l) 1) 2147483647 (rD l 1) (by decide), smV_i64 (kNm (rK l) 2) 2147483647 (rD l 2) (by decide)⟩
/-- what bytes are read as -/
def readN (l : List UInt8) : Ms × Int := if (rJ l).2.2 = 0 ∧ (rJ l).2.1 = [] ∧ mayN (rW l) = true then (rW l, 0) else (msZ, 4)
theorem smS_le (is : Bool) (most : Nat) (s : RSt) : (smS is most s).1.length ≤ s.1.length := by
  rw [smS]; split
  · rcases hd : rdNum s.1 with _ | ⟨n, r⟩
    · exact Nat.le_refl _
    · have := congrArg List.length (rdNum_form hd)
      rw [List.length_append] at this
      simp only []
      split <;> (dsimp only; omega)
  · exact Nat.le_refl _
theorem rD_le (l : List UInt8) : (rD l 3).1.length ≤ l.length := by
  have h1 := smS_le true 7 (l, 0)
  have h2 := smS_le true 5 (rA l)
  have h3 := smS_le true 5 (rB l 1)
  have h4 := smS_le true 5 (rB l 2)
  have h5 := smS_le true 2147483647 (rB l 3)
  have h6 := smS_le (kNm (rK l) 0) 2147483647 (rC l)
  have h7 := smS_le (kNm (rK l) 1) 2147483647 (rD l 1)
  have h8 := smS_le (kNm (rK l) 2) 2147483647 (rD l 2)
  exact Nat.le_trans h8 (Nat.le_trans h7 (Nat.le_trans h6 (Nat.le_trans h5 (Nat.le_trans h4 (Nat.le_trans h3 (Nat.le_trans h2 h1))))))
theorem rdList_len {ρ : List UInt8 → Except Int (EnV × List UInt8)} (hs : ∀ l x r, ρ l = .ok (x, r) → r.length < l.length) : ∀ (n : Nat) (l : List UInt8) (xs : List EnV) (r : List UInt8), rdList ρ n l = .ok (xs, r) → r.length ≤ l.length
  | 0, l, xs, r, h1 => by cases h1; exact Nat.le_refl _
  | n + 1, l, xs, r, h1 => by
    rw [rdList] at h1
    rcases hq : ρ l with e | ⟨x, l2⟩
    · rw [hq] at h1; cases h1
    · rw [hq] at h1
      simp only [] at h1
      rcases hq2 : rdList ρ n l2 with e | ⟨ys, l3⟩
      · rw [hq2] at h1; cases h1
      · rw [hq2] at h1
        cases h1
        have := rdList_len hs n l2 ys _ hq2
        have := hs _ _ _ hq
        omega
theorem rE1_le (l : List UInt8) : (rE1 l).2.1.length ≤ l.length := by
  rw [rE1]
  rcases hq : tryRd (rdList rdE) 64 l with e | ⟨es, r⟩
  · exact Nat.le_refl _
  · simp only []
    rw [tryRd] at hq
    rcases hd : rdNum l with _ | ⟨k, l'⟩
    · rw [hd] at hq; cases hq
    · rw [hd] at hq; simp only [] at hq
      by_cases hm : k ≤ 64
      · rw [if_pos hm] at hq
        have h1 := rdList_len rdE_short _ _ _ _ hq
        have h2 := congrArg List.length (rdNum_form hd)
        rw [List.length_append] at h2; omega
      · rw [if_neg hm] at hq; cases hq
theorem rF1_le (l : List UInt8) : (rF1 l).2.1.length ≤ l.length := by
  rw [rF1]
  rcases hq : rdFlag l with _ | ⟨b, r⟩
  · exact Nat.le_refl _
  · simp only []
    cases l with
    | nil => simp [rdFlag] at hq
    | cons c l => simp only [rdFlag] at hq; (repeat' split at hq) <;> simp_all <;> omega
theorem rG_le (l : List UInt8) : (rG l).2.1.length ≤ l.length := by
  have := rD_le l
  rw [rG, gE]; split
  · exact Nat.le_trans (rE1_le _) this
  · exact this
theorem rH_le (l : List UInt8) : (rH l).2.1.length ≤ l.length := by
  have := rG_le l
  rw [rH, gF]; split
  · exact Nat.le_trans (rF1_le _) this
  · exact this
set_option maxHeartbeats 4000000 in
theorem nReadF_c {w : World} {F0 : Nat → Prop} {v : Value} {l : List UInt8} (HS1 : Bv w F0 v l) (hl : l.length ≤ 1000000000) : CallsR Try.prog 39 #[v] w (fun o w' => (∃ x, o = .tuple #[x, .int .i64 (readN l).2] ∧ AgV (tMsG tEnF) w' (fun b => w.heap.size ≤ b) x (readN l).1) ∧ Ext w w') := by
  obtain ⟨a1, c1, rfl⟩ := HS1.shape
  refine enter 82 Try.func39 rfl rfl (by simp) ?_
  refine c_seq ?_
  have E := Keep.refl (K := NoK) w
  replace HS1 := HS1.all
  refine wp_reg (by decide +kernel) ?_
  refine l_to (to_alloc (z := (.agg #[.int .i64 0, .int .i64 0, .int .i64 0, .int .i64 0, .int .i64 0, .int .i64 0, .int .i64 0, .int .i64 0, .slice none 0 0, .bool false, .slice none 0 0])) (by unfold kZero; kernel_rfl) ?_)
  rintro b2 w2 zb2 HB2 e2 z2
  have zs_e2 := e2.size
  replace E := E.trans (Ext.keep e2)
  replace HS1 := HS1.ext e2
  try simp only [Value.cells] at HB2
  refine l_v (v_assign rfl) ?_
  refine l_nil ?_
  refine n_then ?_
  refine c_seq ?_
  refine wp_reg (by decide +kernel) ?_
  refine l_v (v_move (t := .slice _ _ _) rfl) ?_
  refine l_to (to_f1 (by kernel_rfl) (show _ = (Value.slice _ _ _) from rfl) (CallsR.mono (Open_c HS1 (by omega)) ?_))
  rintro _ w3 ⟨b9, rfl, HR9, hb9, e3, hlt9⟩
  have zs_e3 := e3.size
  have hF : ∀ k, (w2.heap.size ≤ k ∧ k < b9) → k < b9 := fun k h => h.2
  replace E := E.trans (Ext.keep e3)
  replace HB2 := HB2.ext e3
  refine l_v (v_build (pl := [(0, 1), (1, 1)]) (z := .agg #[.pointer none, .int .i64 0]) (zl := [.pointer none, .int .i64 0]) (by kernel_rfl) (by unfold kZero; kernel_rfl) rfl rfl (cells := [_, _]) rfl) ?_
  refine l_to (to_box (show _ = (Value.agg _) from rfl) ?_)
  rintro b11 w11 zb11 HB11 e11 z11
  have zs_e11 := e11.size
  replace HB11 : Blk w11 b11 [.pointer (some ⟨b9, 0, none⟩), .int .i64 0] 113 := HB11
  replace E := E.trans (Ext.keep e11)
  replace HB2 := HB2.ext e11
  replace HR9 := HR9.ext e11
  try simp only [Value.cells] at HB11
  refine l_to (to_alloc (z := (.pointer none)) (by unfold kZero; kernel_rfl) ?_)
  rintro b4 w4 zb4 HB4 e4 z4
  have zs_e4 := e4.size
  replace E := E.trans (Ext.keep e4)
  replace HB2 := HB2.ext e4
  replace HR9 := HR9.ext e4
  replace HB11 := HB11.ext e4
  try simp only [Value.cells] at HB4
  have hx : b9 < b11 := by omega
  refine l_to (to_store rfl rfl (show _ = (Value.pointer _) from rfl) rfl (by kernel_rfl) HB4 (by first | exact of_decide_eq_true rfl | (simp; done) | decide) ?_)
  rintro w101 HX101 k101 z101
  have zs_k101 := k101.size
  replace E := E.step k101 (by intro i hi he; (try dsimp only [NoK] at hi he ⊢); first | exact he.elim | omega | exact he)
  replace HB2 := HB2.keep k101 (by intro h; (try dsimp only at h); first | omega)
  replace HR9 := HR9.keep k101 (by intro h; have h := h; (try dsimp only [NoK] at h); first | exact h | omega | (rcases h with h | h <;> omega)) (by intro i hi he; have hi0 := hi; have hi := hi; have he := he; (try dsimp only [NoK] at hi he); first | exact he.elim | omega | (have := hF i hi0; omega))
  replace HB11 := HB11.keep k101 (by intro h; (try dsimp only at h); first | omega)
  replace HB4 := HX101
  clear HX101
  try simp only [List.set_cons_zero, List.set_cons_succ, setAt, List.take_zero, List.take_succ_cons, List.drop_zero, List.drop_succ_cons, List.nil_append, List.cons_append, List.append_nil, List.length_cons, List.length_nil, Nat.zero_add, Nat.reduceAdd, List.drop_nil] at HB4
  refine l_nil ?_
  refine n_then ?_
  refine c_seq ?_
  refine wp_reg (by decide +kernel) ?_
  refine l_v (v_load (by kernel_rfl) rfl (by first | exact HB4.cell rfl | exact HB11.cell rfl | exact HB2.cell rfl | assumption)) ?_
  refine l_to (to_f3 (by kernel_rfl) (show _ = (Value.pointer _) from rfl) (show _ = (Value.bool _) from rfl) (show _ = (Value.int _ _) from rfl) (CallsR.mono (small_c HB11 HR9 hF hx (by decide)) ?_))
  rintro _ w13 ⟨rfl, ⟨HB11, HR9⟩, k13⟩
  have zs_k13 := k13.size
  replace HR9 : Rd nRd w13 b9 (fun k => w2.heap.size ≤ k ∧ k < b9) (rA l).1 := HR9
  have hK := smV_rng true 7 (l, 0)
  replace E := E.step k13 (by intro i hi he; (try dsimp only [NoK] at hi he ⊢); first | exact he.elim | omega | exact he)
  replace HB2 := HB2.keep k13 (by intro h; (try dsimp only at h); first | omega)
  replace HB4 := HB4.keep k13 (by intro h; (try dsimp only at h); first | omega)
  refine l_v (v_build (pl := [(0, 1), (1, 1), (2, 1), (3, 1), (4, 1), (5, 1), (6, 1), (7, 1), (8, 1), (9, 1), (10, 1)]) (z := .agg #[.int .i64 0, .int .i64 0, .int .i64 0, .int .i64 0, .int .i64 0, .int .i64 0, .int .i64 0, .int .i64 0, .slice none 0 0, .bool false, .slice none 0 0]) (zl := [.int .i64 0, .int .i64 0, .int .i64 0, .int .i64 0, .int .i64 0, .int .i64 0, .int .i64 0, .int .i64 0, .slice none 0 0, .bool false, .slice none 0 0]) (by kernel_rfl) (by unfold kZero; kernel_rfl) rfl rfl (cells := [_, _, _, _, _, _, _, _, _, _, _]) rfl) ?_
  refine l_to (to_alloc (z := (.agg #[.int .i64 0, .int .i64 0, .int .i64 0, .int .i64 0, .int .i64 0, .int .i64 0, .int .i64 0, .int .i64 0, .slice none 0 0, .bool false, .slice none 0 0])) (by unfold kZero; kernel_rfl) ?_)
  rintro b5 w5 zb5 HB5 e5 z5
  have zs_e5 := e5.size
  replace E := E.trans (Ext.keep e5)
  replace HB2 := HB2.ext e5
  replace HB4 := HB4.ext e5
  replace HB11 := HB11.ext e5
  replace HR9 := HR9.ext e5
  try simp only [Value.cells] at HB5
  refine l_to (to_storeA (n := 11) rfl rfl (show _ = (Value.agg _) from rfl) (by kernel_rfl) rfl (by first | (simp [slice_one]; done) | (simp only [List.forall_mem_cons, List.cons_append, List.nil_append]; repeat' (first | exact rfl | apply And.intro | (intro u hu; cases hu; done)))) HB5 (by first | exact of_decide_eq_true rfl | (simp; done) | decide) ?_)
  rintro w102 HX102 k102 z102
  have zs_k102 := k102.size
  replace E := E.step k102 (by intro i hi he; (try dsimp only [NoK] at hi he ⊢); first | exact he.elim | omega | exact he)
  replace HB2 := HB2.keep k102 (by intro h; (try dsimp only at h); first | omega)
  replace HB4 := HB4.keep k102 (by intro h; (try dsimp only at h); first | omega)
  replace HB11 := HB11.keep k102 (by intro h; (try dsimp only at h); first | omega)
  replace HR9 := HR9.keep k102 (by intro h; have h := h; (try dsimp only [NoK] at h); first | exact h | omega | (rcases h with h | h <;> omega)) (by intro i hi he; have hi0 := hi; have hi := hi; have he := he; (try dsimp only [NoK] at hi he); first | exact he.elim | omega | (have := hF i hi0; omega))
  replace HB5 := HX102
  clear HX102
  try simp only [List.set_cons_zero, List.set_cons_succ, setAt, List.take_zero, List.take_succ_cons, List.drop_zero, List.drop_succ_cons, List.nil_append, List.cons_append, List.append_nil, List.length_cons, List.length_nil, Nat.zero_add, Nat.reduceAdd, List.drop_nil] at HB5
  refine l_nil ?_
  refine n_then ?_
  refine c_seq ?_
  refine wp_any (by kernel_rfl) ?_
  have e103 : Ext w102 { w102 with drawn := w102.drawn + 1 } := Keep.drawn _ _
  generalize hw103 : ({ w102 with drawn := w102.drawn + 1 } : World) = w103 at e103 ⊢
  clear hw103
  have zs_e103 := e103.size
  replace E := E.trans (Ext.keep e103)
  replace HB2 := HB2.ext e103
  replace HB4 := HB4.ext e103
  replace HB11 := HB11.ext e103
  replace HR9 := HR9.ext e103
  replace HB5 := HB5.ext e103
  refine r_cut 5 rfl (by decide +kernel) (by decide +kernel) (by decide +kernel) ?_
  refine wp_regJW (fun k => w103.heap.size ≤ k) (AlJ w103.heap.size [⟨4, none, 77, ([.bool false, .bool false, .bool false, .bool false, .bool false, .bool false] : List Value), ([.bool false, .bool false, .bool false, .bool false, .bool false, .bool false] : List Value)⟩]) (by decide +kernel) (by decide +kernel) (fun vals done hd => AlJ.start (Nat.le_refl _) (fun a ha => hd a.al (al_lt (n := 5) rfl a ha))) ?_
  refine rj_vfJ (fun done vals w hR hcl hdk hJ hdn hd => to_f0 (by kernel_rfl) (kinds_c)) (fun done vals w w1 hdk hJ e => hJ.src e rfl) ?_
  refine rj_vJ (fun done vals w hR hcl hdk hJ hdn hd => v_fieldAddr (off := 0) (ft := 22) (by kernel_rfl) rfl) (fun done vals w hdk hJ => hJ.src (Keep.refl _) rfl) ?_
  refine rj_vJ (fun done vals w hR hcl hdk hJ hdn hd => v_load (by kernel_rfl) (hd 1 rfl) (by first | exact (HB5.keep hR (by intro h; (try dsimp only at h); first | omega)).pv 0 _ rfl | exact (HB11.keep hR (by intro h; (try dsimp only at h); first | omega)).pv 0 _ rfl | exact (HB4.keep hR (by intro h; (try dsimp only at h); first | omega)).pv 0 _ rfl | exact (HB2.keep hR (by intro h; (try dsimp only at h); first | omega)).pv 0 _ rfl | assumption)) (fun done vals w hdk hJ => hJ.src (Keep.refl _) rfl) ?_
  refine rj_vJ (fun done vals w hR hcl hdk hJ hdn hd => v_indexA (et := 77) (n := 8) (sz := 6) (k := (rK l).toNat) (by kernel_rfl) (by kernel_rfl) (hd 0 rfl) (hd 2 rfl) ((by have := hK.1; rw [rK]; omega)) ((by have := hK; rw [rK]; omega)) (kinds_ex hK.1 (by have := hK.2; rw [rK]; omega))) (fun done vals w hdk hJ => hJ.src (Keep.refl _) rfl) ?_
  refine rj_d (fun done vals w hR hcl hdk hJ hdn hd => to_alloc (z := .agg #[.bool false, .bool false, .bool false, .bool false, .bool false, .bool false]) (by unfold kZero; kernel_rfl) fun b w1 hb hB e hz => ⟨Ext.keep e, hJ.al (i := 0) rfl rfl hdk hcl (fun m a hm he => alOne_al (i := 0) (m := m) rfl rfl hm he) (fun a ha => alSt_ne rfl ha (List.mem_of_getElem? (i := 0) rfl)) (fun s hs => by cases hs) hb hB e⟩) ?_
  refine rj_nil (fun vals w104 k104 J104 => ?_)
  rintro _ - rfl _ - rfl _ - rfl _ - rfl v6 qv6 -
  have zs_k104 := k104.size
  obtain ⟨b6, hb6, zb6, HB6⟩ := J104.fin (i := 0) rfl
  try dsimp only at HB6
  have zl6 := HB6.lt
  obtain rfl := qv6.trans hb6
  replace E := E.step k104 (by intro i hi he; (try dsimp only [NoK] at hi he ⊢); first | exact he.elim | omega | exact he)
  replace HB2 := HB2.keep k104 (by intro h; (try dsimp only at h); first | omega)
  replace HB4 := HB4.keep k104 (by intro h; (try dsimp only at h); first | omega)
  replace HB11 := HB11.keep k104 (by intro h; (try dsimp only at h); first | omega)
  replace HR9 := HR9.keep k104 (by intro h; have h := h; (try dsimp only [NoK] at h); first | exact h | omega | (rcases h with h | h <;> omega)) (by intro i hi he; have hi0 := hi; have hi := hi; have he := he; (try dsimp only [NoK] at hi he); first | exact he.elim | omega | (have := hF i hi0; omega))
  replace HB5 := HB5.keep k104 (by intro h; (try dsimp only at h); first | omega)
  refine fin_nilJ ?_
  refine n_then ?_
  refine r_one (by decide +kernel) rfl ?_
  refine l_to (to_storeA (n := 6) rfl rfl (show _ = (Value.agg _) from rfl) (by kernel_rfl) rfl (by first | (simp [slice_one]; done) | (simp only [List.forall_mem_cons, List.cons_append, List.nil_append]; repeat' (first | exact rfl | apply And.intro | (intro u hu; cases hu; done)))) HB6 (by first | exact of_decide_eq_true rfl | (simp; done) | decide) ?_)
  rintro w105 HX105 k105 z105
  have zs_k105 := k105.size
  replace E := E.step k105 (by intro i hi he; (try dsimp only [NoK] at hi he ⊢); first | exact he.elim | omega | exact he)
  replace HB2 := HB2.keep k105 (by intro h; (try dsimp only at h); first | omega)
  replace HB4 := HB4.keep k105 (by intro h; (try dsimp only at h); first | omega)
  replace HB11 := HB11.keep k105 (by intro h; (try dsimp only at h); first | omega)
  replace HR9 := HR9.keep k105 (by intro h; have h := h; (try dsimp only [NoK] at h); first | exact h | omega | (rcases h with h | h <;> omega)) (by intro i hi he; have hi0 := hi; have hi := hi; have he := he; (try dsimp only [NoK] at hi he); first | exact he.elim | omega | (have := hF i hi0; omega))
  replace HB5 := HB5.keep k105 (by intro h; (try dsimp only at h); first | omega)
  replace HB6 := HX105
  clear HX105
  try simp only [List.set_cons_zero, List.set_cons_succ, setAt, List.take_zero, List.take_succ_cons, List.drop_zero, List.drop_succ_cons, List.nil_append, List.cons_append, List.append_nil, List.length_cons, List.length_nil, Nat.zero_add, Nat.reduceAdd, List.drop_nil] at HB6
  refine l_nil ?_
  refine n_then ?_
  refine c_seq ?_
  refine wp_any (by kernel_rfl) ?_
  have e106 : Ext w105 { w105 with drawn := w105.drawn + 1 } := Keep.drawn _ _
  generalize hw106 : ({ w105 with drawn := w105.drawn + 1 } : World) = w106 at e106 ⊢
  clear hw106
  have zs_e106 := e106.size
  replace E := E.trans (Ext.keep e106)
  replace HB2 := HB2.ext e106
  replace HB4 := HB4.ext e106
  replace HB11 := HB11.ext e106
  replace HR9 := HR9.ext e106
  replace HB5 := HB5.ext e106
  replace HB6 := HB6.ext e106
  refine r_cut 7 rfl (by decide +kernel) (by decide +kernel) (by decide +kernel) ?_
  refine wp_regJW (fun k => k = b11 ∨ k = b9) (ChJ 1 3 5 (fun n W => Blk W b11 [.pointer (some ⟨b9, 0, none⟩), .int .i64 (rB l n).2] 113 ∧ Rd nRd W b9 (fun k => w2.heap.size ≤ k ∧ k < b9) (rB l n).1)) (by decide +kernel) (by decide +kernel) (fun vals done hd => ChJ.start (⟨HB11, HR9⟩) (hd 1 (by decide)) (hd 3 (by decide)) (hd 5 (by decide))) ?_
  refine rj_vJ (fun done vals w hR hcl hdk hJ hdn hd => v_load (by kernel_rfl) rfl (by first | exact (HB6.keep hR (by intro h; (try dsimp only at h); first | omega)).cell rfl | exact (HB5.keep hR (by intro h; (try dsimp only at h); first | omega)).cell rfl | exact (HB4.keep hR (by intro h; (try dsimp only at h); first | omega)).cell rfl | exact (HB2.keep hR (by intro h; (try dsimp only at h); first | omega)).cell rfl | assumption)) (fun done vals w hdk hJ => hJ.src (by decide) (by decide) (by decide)) ?_
  refine rj_to (fun v _ => v = (.int .i64 (smV true 5 (rB l 0)))) (fun _ _ _ h _ => h) (fun done vals w hR hcl hdk hJ hdn hd => by
      obtain ⟨h0, hn⟩ := hJ.st0 hcl hdk ⟨_, rfl, rfl⟩ ⟨_, rfl, rfl⟩ (by decide) (by decide)
      exact to_f3 (by kernel_rfl) (hd 0 rfl) (show _ = (Value.bool _) from rfl) (show _ = (Value.int _ _) from rfl) (CallsR.mono (small_c h0.1 h0.2 hF hx (by decide)) fun v w1 h => ⟨h.2.2, h.1, hn _ _ (h.2.1)⟩)) ?_
  refine rj_vJ (fun done vals w hR hcl hdk hJ hdn hd => v_load (by kernel_rfl) rfl (by first | exact (HB6.keep hR (by intro h; (try dsimp only at h); first | omega)).cell rfl | exact (HB5.keep hR (by intro h; (try dsimp only at h); first | omega)).cell rfl | exact (HB4.keep hR (by intro h; (try dsimp only at h); first | omega)).cell rfl | exact (HB2.keep hR (by intro h; (try dsimp only at h); first | omega)).cell rfl | assumption)) (fun done vals w hdk hJ => hJ.src (by decide) (by decide) (by decide)) ?_
  refine rj_to (fun v _ => v = (.int .i64 (smV true 5 (rB l 1)))) (fun _ _ _ h _ => h) (fun done vals w hR hcl hdk hJ hdn hd => by
      obtain ⟨h0, hn⟩ := hJ.st1 hcl hdk (hdn 1 rfl) ⟨_, rfl, rfl⟩ (by decide) (by decide)
      exact to_f3 (by kernel_rfl) (hd 2 rfl) (show _ = (Value.bool _) from rfl) (show _ = (Value.int _ _) from rfl) (CallsR.mono (small_c h0.1 h0.2 hF hx (by decide)) fun v w1 h => ⟨h.2.2, h.1, hn _ _ (h.2.1)⟩)) ?_
  refine rj_vJ (fun done vals w hR hcl hdk hJ hdn hd => v_load (by kernel_rfl) rfl (by first | exact (HB6.keep hR (by intro h; (try dsimp only at h); first | omega)).cell rfl | exact (HB5.keep hR (by intro h; (try dsimp only at h); first | omega)).cell rfl | exact (HB4.keep hR (by intro h; (try dsimp only at h); first | omega)).cell rfl | exact (HB2.keep hR (by intro h; (try dsimp only at h); first | omega)).cell rfl | assumption)) (fun done vals w hdk hJ => hJ.src (by decide) (by decide) (by decide)) ?_
  refine rj_to (fun v _ => v = (.int .i64 (smV true 5 (rB l 2)))) (fun _ _ _ h _ => h) (fun done vals w hR hcl hdk hJ hdn hd => by
      obtain ⟨h0, hn⟩ := hJ.st2 hdk (hdn 3 rfl)
      exact to_f3 (by kernel_rfl) (hd 4 rfl) (show _ = (Value.bool _) from rfl) (show _ = (Value.int _ _) from rfl) (CallsR.mono (small_c h0.1 h0.2 hF hx (by decide)) fun v w1 h => ⟨h.2.2, h.1, hn _ _ (h.2.1)⟩)) ?_
  refine rj_vJ (fun done vals w hR hcl hdk hJ hdn hd => v_fieldAddr (off := 1) (ft := 3) (by kernel_rfl) rfl) (fun done vals w hdk hJ => hJ.src (by decide) (by decide) (by decide)) ?_
  refine rj_nil (fun vals w107 k107 J107 => ?_)
  rintro _ - rfl _ - rfl _ - rfl _ - rfl _ - rfl _ - rfl _ - rfl
  have zs_k107 := k107.size
  obtain ⟨HB11, HR9⟩ := J107.fin
  replace E := E.step k107 (by intro i hi he; (try dsimp only [NoK] at hi he ⊢); first | exact he.elim | omega | exact he)
  replace HB2 := HB2.keep k107 (by intro h; (try dsimp only at h); first | omega)
  replace HB4 := HB4.keep k107 (by intro h; (try dsimp only at h); first | omega)
  replace HB5 := HB5.keep k107 (by intro h; (try dsimp only at h); first | omega)
  replace HB6 := HB6.keep k107 (by intro h; (try dsimp only at h); first | omega)
  refine fin_nilJ ?_
  refine n_then ?_
  refine r_cut 1 rfl (by decide +kernel) (by decide +kernel) (by decide +kernel) ?_
  refine r_one (by decide +kernel) rfl ?_
  refine l_to (to_store rfl rfl (show _ = (Value.int _ _) from rfl) rfl (by kernel_rfl) HB5 (by first | exact of_decide_eq_true rfl | (simp; done) | decide) ?_)
  rintro w108 HX108 k108 z108
  have zs_k108 := k108.size
  replace E := E.step k108 (by intro i hi he; (try dsimp only [NoK] at hi he ⊢); first | exact he.elim | omega | exact he)
  replace HB2 := HB2.keep k108 (by intro h; (try dsimp only at h); first | omega)
  replace HB4 := HB4.keep k108 (by intro h; (try dsimp only at h); first | omega)
  replace HB6 := HB6.keep k108 (by intro h; (try dsimp only at h); first | omega)
  replace HB11 := HB11.keep k108 (by intro h; (try dsimp only at h); first | omega)
  replace HR9 := HR9.keep k108 (by intro h; have h := h; (try dsimp only [NoK] at h); first | exact h | omega | (rcases h with h | h <;> omega)) (by intro i hi he; have hi0 := hi; have hi := hi; have he := he; (try dsimp only [NoK] at hi he); first | exact he.elim | omega | (have := hF i hi0; omega))
  replace HB5 := HX108
  clear HX108
  try simp only [List.set_cons_zero, List.set_cons_succ, setAt, List.take_zero, List.take_succ_cons, List.drop_zero, List.drop_succ_cons, List.nil_append, List.cons_append, List.append_nil, List.length_cons, List.length_nil, Nat.zero_add, Nat.reduceAdd, List.drop_nil] at HB5
  refine l_nil ?_
  refine n_then ?_
  refine r_cut 1 rfl (by decide +kernel) (by decide +kernel) (by decide +kernel) ?_
  refine r_one (by decide +kernel) rfl ?_
  refine l_v (v_fieldAddr (off := 2) (ft := 3) (by kernel_rfl) rfl) ?_
  refine l_nil ?_
  refine n_then ?_
  refine r_cut 1 rfl (by decide +kernel) (by decide +kernel) (by decide +kernel) ?_
  refine r_one (by decide +kernel) rfl ?_
  refine l_to (to_store rfl rfl (show _ = (Value.int _ _) from rfl) rfl (by kernel_rfl) HB5 (by first | exact of_decide_eq_true rfl | (simp; done) | decide) ?_)
  rintro w109 HX109 k109 z109
  have zs_k109 := k109.size
  replace E := E.step k109 (by intro i hi he; (try dsimp only [NoK] at hi he ⊢); first | exact he.elim | omega | exact he)
  replace HB2 := HB2.keep k109 (by intro h; (try dsimp only at h); first | omega)
  replace HB4 := HB4.keep k109 (by intro h; (try dsimp only at h); first | omega)
  replace HB6 := HB6.keep k109 (by intro h; (try dsimp only at h); first | omega)
  replace HB11 := HB11.keep k109 (by intro h; (try dsimp only at h); first | omega)
  replace HR9 := HR9.keep k109 (by intro h; have h := h; (try dsimp only [NoK] at h); first | exact h | omega | (rcases h with h | h <;> omega)) (by intro i hi he; have hi0 := hi; have hi := hi; have he := he; (try dsimp only [NoK] at hi he); first | exact he.elim | omega | (have := hF i hi0; omega))
  replace HB5 := HX109
  clear HX109
  try simp only [List.set_cons_zero, List.set_cons_succ, setAt, List.take_zero, List.take_succ_cons, List.drop_zero, List.drop_succ_cons, List.nil_append, List.cons_append, List.append_nil, List.length_cons, List.length_nil, Nat.zero_add, Nat.reduceAdd, List.drop_nil] at HB5
  refine l_nil ?_
  refine n_then ?_
  refine r_cut 1 rfl (by decide +kernel) (by decide +kernel) (by decide +kernel) ?_
  refine r_one (by decide +kernel) rfl ?_
  refine l_v (v_fieldAddr (off := 3) (ft := 3) (by kernel_rfl) rfl) ?_
  refine l_nil ?_
  refine n_then ?_
  refine r_one (by decide +kernel) rfl ?_
  refine l_to (to_store rfl rfl (show _ = (Value.int _ _) from rfl) rfl (by kernel_rfl) HB5 (by first | exact of_decide_eq_true rfl | (simp; done) | decide) ?_)
  rintro w110 HX110 k110 z110
  have zs_k110 := k110.size
  replace E := E.step k110 (by intro i hi he; (try dsimp only [NoK] at hi he ⊢); first | exact he.elim | omega | exact he)
  replace HB2 := HB2.keep k110 (by intro h; (try dsimp only at h); first | omega)
  replace HB4 := HB4.keep k110 (by intro h; (try dsimp only at h); first | omega)
  replace HB6 := HB6.keep k110 (by intro h; (try dsimp only at h); first | omega)
  replace HB11 := HB11.keep k110 (by intro h; (try dsimp only at h); first | omega)
  replace HR9 := HR9.keep k110 (by intro h; have h := h; (try dsimp only [NoK] at h); first | exact h | omega | (rcases h with h | h <;> omega)) (by intro i hi he; have hi0 := hi; have hi := hi; have he := he; (try dsimp only [NoK] at hi he); first | exact he.elim | omega | (have := hF i hi0; omega))
  replace HB5 := HX110
  clear HX110
  try simp only [List.set_cons_zero, List.set_cons_succ, setAt, List.take_zero, List.take_succ_cons, List.drop_zero, List.drop_succ_cons, List.nil_append, List.cons_append, List.append_nil, List.length_cons, List.length_nil, Nat.zero_add, Nat.reduceAdd, List.drop_nil] at HB5
  refine l_nil ?_
  refine n_then ?_
  refine c_seq ?_
  refine wp_reg (by decide +kernel) ?_
  refine l_v (v_load (by kernel_rfl) rfl (by first | exact HB11.cell rfl | exact HB6.cell rfl | exact HB5.cell rfl | exact HB4.cell rfl | exact HB2.cell rfl | assumption)) ?_
  refine l_to (to_f3 (by kernel_rfl) (show _ = (Value.pointer _) from rfl) (show _ = (Value.bool _) from rfl) (show _ = (Value.int _ _) from rfl) (CallsR.mono (small_c HB11 HR9 hF hx (by decide)) ?_))
  rintro _ w29 ⟨rfl, ⟨HB11, HR9⟩, k29⟩
  have zs_k29 := k29.size
  replace HR9 : Rd nRd w29 b9 (fun k => w2.heap.size ≤ k ∧ k < b9) (rD l 0).1 := HR9
  replace HB11 : Blk w29 b11 [.pointer (some ⟨b9, 0, none⟩), .int .i64 (rD l 0).2] 113 := HB11
  replace E := E.step k29 (by intro i hi he; (try dsimp only [NoK] at hi he ⊢); first | exact he.elim | omega | exact he)
  replace HB2 := HB2.keep k29 (by intro h; (try dsimp only at h); first | omega)
  replace HB4 := HB4.keep k29 (by intro h; (try dsimp only at h); first | omega)
  replace HB5 := HB5.keep k29 (by intro h; (try dsimp only at h); first | omega)
  replace HB6 := HB6.keep k29 (by intro h; (try dsimp only at h); first | omega)
  refine l_v (v_fieldAddr (off := 4) (ft := 2) (by kernel_rfl) rfl) ?_
  refine l_to (to_store rfl rfl (show _ = (Value.int _ _) from rfl) rfl (by kernel_rfl) HB5 (by first | exact of_decide_eq_true rfl | (simp; done) | decide) ?_)
  rintro w111 HX111 k111 z111
  have zs_k111 := k111.size
  replace E := E.step k111 (by intro i hi he; (try dsimp only [NoK] at hi he ⊢); first | exact he.elim | omega | exact he)
  replace HB2 := HB2.keep k111 (by intro h; (try dsimp only at h); first | omega)
  replace HB4 := HB4.keep k111 (by intro h; (try dsimp only at h); first | omega)
  replace HB6 := HB6.keep k111 (by intro h; (try dsimp only at h); first | omega)
  replace HB11 := HB11.keep k111 (by intro h; (try dsimp only at h); first | omega)
  replace HR9 := HR9.keep k111 (by intro h; have h := h; (try dsimp only [NoK] at h); first | exact h | omega | (rcases h with h | h <;> omega)) (by intro i hi he; have hi0 := hi; have hi := hi; have he := he; (try dsimp only [NoK] at hi he); first | exact he.elim | omega | (have := hF i hi0; omega))
  replace HB5 := HX111
  clear HX111
  try simp only [List.set_cons_zero, List.set_cons_succ, setAt, List.take_zero, List.take_succ_cons, List.drop_zero, List.drop_succ_cons, List.nil_append, List.cons_append, List.append_nil, List.length_cons, List.length_nil, Nat.zero_add, Nat.reduceAdd, List.drop_nil] at HB5
  refine l_nil ?_
  refine n_then ?_
  refine c_seq ?_
  refine wp_any (by kernel_rfl) ?_
  have e112 : Ext w111 { w111 with drawn := w111.drawn + 1 } := Keep.drawn _ _
  generalize hw112 : ({ w111 with drawn := w111.drawn + 1 } : World) = w112 at e112 ⊢
  clear hw112
  have zs_e112 := e112.size
  replace E := E.trans (Ext.keep e112)
  replace HB2 := HB2.ext e112
  replace HB4 := HB4.ext e112
  replace HB5 := HB5.ext e112
  replace HB6 := HB6.ext e112
  replace HB11 := HB11.ext e112
  replace HR9 := HR9.ext e112
  refine r_cut 13 rfl (by decide +kernel) (by decide +kernel) (by decide +kernel) ?_
  refine wp_regJW (fun k => k = b11 ∨ k = b9) (ChJ 3 7 11 (fun n W => Blk W b11 [.pointer (some ⟨b9, 0, none⟩), .int .i64 (rD l n).2] 113 ∧ Rd nRd W b9 (fun k => w2.heap.size ≤ k ∧ k < b9) (rD l n).1)) (by decide +kernel) (by decide +kernel) (fun vals done hd => ChJ.start (⟨HB11, HR9⟩) (hd 3 (by decide)) (hd 7 (by decide)) (hd 11 (by decide))) ?_
  refine rj_vJ (fun done vals w hR hcl hdk hJ hdn hd => v_load (by kernel_rfl) rfl (by first | exact (HB6.keep hR (by intro h; (try dsimp only at h); first | omega)).cell rfl | exact (HB5.keep hR (by intro h; (try dsimp only at h); first | omega)).cell rfl | exact (HB4.keep hR (by intro h; (try dsimp only at h); first | omega)).cell rfl | exact (HB2.keep hR (by intro h; (try dsimp only at h); first | omega)).cell rfl | assumption)) (fun done vals w hdk hJ => hJ.src (by decide) (by decide) (by decide)) ?_
  refine rj_vJ (fun done vals w hR hcl hdk hJ hdn hd => v_fieldAddr (off := 0) (ft := 4) (by kernel_rfl) rfl) (fun done vals w hdk hJ => hJ.src (by decide) (by decide) (by decide)) ?_
  refine rj_vJ (fun done vals w hR hcl hdk hJ hdn hd => v_load (by kernel_rfl) (hd 1 rfl) (by first | exact (HB6.keep hR (by intro h; (try dsimp only at h); first | omega)).pv 0 _ rfl | exact (HB5.keep hR (by intro h; (try dsimp only at h); first | omega)).pv 0 _ rfl | exact (HB4.keep hR (by intro h; (try dsimp only at h); first | omega)).pv 0 _ rfl | exact (HB2.keep hR (by intro h; (try dsimp only at h); first | omega)).pv 0 _ rfl | assumption)) (fun done vals w hdk hJ => hJ.src (by decide) (by decide) (by decide)) ?_
  refine rj_to (fun v _ => v = (.int .i64 (smV (kNm (rK l) 0) 2147483647 (rD l 0)))) (fun _ _ _ h _ => h) (fun done vals w hR hcl hdk hJ hdn hd => by
      obtain ⟨h0, hn⟩ := hJ.st0 hcl hdk ⟨_, rfl, rfl⟩ ⟨_, rfl, rfl⟩ (by decide) (by decide)
      exact to_f3 (by kernel_rfl) (hd 0 rfl) (hd 2 rfl) (show _ = (Value.int _ _) from rfl) (CallsR.mono (small_c h0.1 h0.2 hF hx (by decide)) fun v w1 h => ⟨h.2.2, h.1, hn _ _ (h.2.1)⟩)) ?_
  refine rj_vJ (fun done vals w hR hcl hdk hJ hdn hd => v_load (by kernel_rfl) rfl (by first | exact (HB6.keep hR (by intro h; (try dsimp only at h); first | omega)).cell rfl | exact (HB5.keep hR (by intro h; (try dsimp only at h); first | omega)).cell rfl | exact (HB4.keep hR (by intro h; (try dsimp only at h); first | omega)).cell rfl | exact (HB2.keep hR (by intro h; (try dsimp only at h); first | omega)).cell rfl | assumption)) (fun done vals w hdk hJ => hJ.src (by decide) (by decide) (by decide)) ?_
  refine rj_vJ (fun done vals w hR hcl hdk hJ hdn hd => v_fieldAddr (off := 1) (ft := 4) (by kernel_rfl) rfl) (fun done vals w hdk hJ => hJ.src (by decide) (by decide) (by decide)) ?_
  refine rj_vJ (fun done vals w hR hcl hdk hJ hdn hd => v_load (by kernel_rfl) (hd 5 rfl) (by first | exact (HB6.keep hR (by intro h; (try dsimp only at h); first | omega)).pv 1 _ rfl | exact (HB5.keep hR (by intro h; (try dsimp only at h); first | omega)).pv 1 _ rfl | exact (HB4.keep hR (by intro h; (try dsimp only at h); first | omega)).pv 1 _ rfl | exact (HB2.keep hR (by intro h; (try dsimp only at h); first | omega)).pv 1 _ rfl | assumption)) (fun done vals w hdk hJ => hJ.src (by decide) (by decide) (by decide)) ?_
  refine rj_to (fun v _ => v = (.int .i64 (smV (kNm (rK l) 1) 2147483647 (rD l 1)))) (fun _ _ _ h _ => h) (fun done vals w hR hcl hdk hJ hdn hd => by
      obtain ⟨h0, hn⟩ := hJ.st1 hcl hdk (hdn 3 rfl) ⟨_, rfl, rfl⟩ (by decide) (by decide)
      exact to_f3 (by kernel_rfl) (hd 4 rfl) (hd 6 rfl) (show _ = (Value.int _ _) from rfl) (CallsR.mono (small_c h0.1 h0.2 hF hx (by decide)) fun v w1 h => ⟨h.2.2, h.1, hn _ _ (h.2.1)⟩)) ?_
  refine rj_vJ (fun done vals w hR hcl hdk hJ hdn hd => v_load (by kernel_rfl) rfl (by first | exact (HB6.keep hR (by intro h; (try dsimp only at h); first | omega)).cell rfl | exact (HB5.keep hR (by intro h; (try dsimp only at h); first | omega)).cell rfl | exact (HB4.keep hR (by intro h; (try dsimp only at h); first | omega)).cell rfl | exact (HB2.keep hR (by intro h; (try dsimp only at h); first | omega)).cell rfl | assumption)) (fun done vals w hdk hJ => hJ.src (by decide) (by decide) (by decide)) ?_
  refine rj_vJ (fun done vals w hR hcl hdk hJ hdn hd => v_fieldAddr (off := 2) (ft := 4) (by kernel_rfl) rfl) (fun done vals w hdk hJ => hJ.src (by decide) (by decide) (by decide)) ?_
  refine rj_vJ (fun done vals w hR hcl hdk hJ hdn hd => v_load (by kernel_rfl) (hd 9 rfl) (by first | exact (HB6.keep hR (by intro h; (try dsimp only at h); first | omega)).pv 2 _ rfl | exact (HB5.keep hR (by intro h; (try dsimp only at h); first | omega)).pv 2 _ rfl | exact (HB4.keep hR (by intro h; (try dsimp only at h); first | omega)).pv 2 _ rfl | exact (HB2.keep hR (by intro h; (try dsimp only at h); first | omega)).pv 2 _ rfl | assumption)) (fun done vals w hdk hJ => hJ.src (by decide) (by decide) (by decide)) ?_
  refine rj_to (fun v _ => v = (.int .i64 (smV (kNm (rK l) 2) 2147483647 (rD l 2)))) (fun _ _ _ h _ => h) (fun done vals w hR hcl hdk hJ hdn hd => by
      obtain ⟨h0, hn⟩ := hJ.st2 hdk (hdn 7 rfl)
      exact to_f3 (by kernel_rfl) (hd 8 rfl) (hd 10 rfl) (show _ = (Value.int _ _) from rfl) (CallsR.mono (small_c h0.1 h0.2 hF hx (by decide)) fun v w1 h => ⟨h.2.2, h.1, hn _ _ (h.2.1)⟩)) ?_
  obtain ⟨n6, hn6⟩ : ∃ n, n = w112.heap.size := ⟨_, rfl⟩
  refine rj_vJ (fun done vals w hR hcl hdk hJ hdn hd => v_fieldAddr (off := 5) (ft := 2) (by kernel_rfl) rfl) (fun done vals w hdk hJ => hJ.src (by decide) (by decide) (by decide)) ?_
  refine rj_nil (fun vals w113 k113 J113 => ?_)
  rintro _ - rfl _ - rfl _ - rfl _ - rfl _ - rfl _ - rfl _ - rfl _ - rfl _ - rfl _ - rfl _ - rfl _ - rfl _ - rfl
  have zs_k113 := k113.size
  obtain ⟨HB11, HR9⟩ := J113.fin
  replace E := E.step k113 (by intro i hi he; (try dsimp only [NoK] at hi he ⊢); first | exact he.elim | omega | exact he)
  replace HB2 := HB2.keep k113 (by intro h; (try dsimp only at h); first | omega)
  replace HB4 := HB4.keep k113 (by intro h; (try dsimp only at h); first | omega)
  replace HB5 := HB5.keep k113 (by intro h; (try dsimp only at h); first | omega)
  replace HB6 := HB6.keep k113 (by intro h; (try dsimp only at h); first | omega)
  refine fin_nilJ ?_
  refine n_then ?_
  refine r_cut 1 rfl (by decide +kernel) (by decide +kernel) (by decide +kernel) ?_
  refine r_one (by decide +kernel) rfl ?_
  refine l_to (to_store rfl rfl (show _ = (Value.int _ _) from rfl) rfl (by kernel_rfl) HB5 (by first | exact of_decide_eq_true rfl | (simp; done) | decide) ?_)
  rintro w114 HX114 k114 z114
  have zs_k114 := k114.size
  replace E := E.step k114 (by intro i hi he; (try dsimp only [NoK] at hi he ⊢); first | exact he.elim | omega | exact he)
  replace HB2 := HB2.keep k114 (by intro h; (try dsimp only at h); first | omega)
  replace HB4 := HB4.keep k114 (by intro h; (try dsimp only at h); first | omega)
  replace HB6 := HB6.keep k114 (by intro h; (try dsimp only at h); first | omega)
  replace HB11 := HB11.keep k114 (by intro h; (try dsimp only at h); first | omega)
  replace HR9 := HR9.keep k114 (by intro h; have h := h; (try dsimp only [NoK] at h); first | exact h | omega | (rcases h with h | h <;> omega)) (by intro i hi he; have hi0 := hi; have hi := hi; have he := he; (try dsimp only [NoK] at hi he); first | exact he.elim | omega | (have := hF i hi0; omega))
  replace HB5 := HX114
  clear HX114
  try simp only [List.set_cons_zero, List.set_cons_succ, setAt, List.take_zero, List.take_succ_cons, List.drop_zero, List.drop_succ_cons, List.nil_append, List.cons_append, List.append_nil, List.length_cons, List.length_nil, Nat.zero_add, Nat.reduceAdd, List.drop_nil] at HB5
  refine l_nil ?_
  refine n_then ?_
  refine r_cut 1 rfl (by decide +kernel) (by decide +kernel) (by decide +kernel) ?_
  refine r_one (by decide +kernel) rfl ?_
  refine l_v (v_fieldAddr (off := 6) (ft := 2) (by kernel_rfl) rfl) ?_
  refine l_nil ?_
  refine n_then ?_
  refine r_cut 1 rfl (by decide +kernel) (by decide +kernel) (by decide +kernel) ?_
  refine r_one (by decide +kernel) rfl ?_
  refine l_to (to_store rfl rfl (show _ = (Value.int _ _) from rfl) rfl (by kernel_rfl) HB5 (by first | exact of_decide_eq_true rfl | (simp; done) | decide) ?_)
  rintro w115 HX115 k115 z115
  have zs_k115 := k115.size
  replace E := E.step k115 (by intro i hi he; (try dsimp only [NoK] at hi he ⊢); first | exact he.elim | omega | exact he)
  replace HB2 := HB2.keep k115 (by intro h; (try dsimp only at h); first | omega)
  replace HB4 := HB4.keep k115 (by intro h; (try dsimp only at h); first | omega)
  replace HB6 := HB6.keep k115 (by intro h; (try dsimp only at h); first | omega)
  replace HB11 := HB11.keep k115 (by intro h; (try dsimp only at h); first | omega)
  replace HR9 := HR9.keep k115 (by intro h; have h := h; (try dsimp only [NoK] at h); first | exact h | omega | (rcases h with h | h <;> omega)) (by intro i hi he; have hi0 := hi; have hi := hi; have he := he; (try dsimp only [NoK] at hi he); first | exact he.elim | omega | (have := hF i hi0; omega))
  replace HB5 := HX115
  clear HX115
  try simp only [List.set_cons_zero, List.set_cons_succ, setAt, List.take_zero, List.take_succ_cons, List.drop_zero, List.drop_succ_cons, List.nil_append, List.cons_append, List.append_nil, List.length_cons, List.length_nil, Nat.zero_add, Nat.reduceAdd, List.drop_nil] at HB5
  refine l_nil ?_
  refine n_then ?_
  refine r_cut 1 rfl (by decide +kernel) (by decide +kernel) (by decide +kernel) ?_
  refine r_one (by decide +kernel) rfl ?_
  refine l_v (v_fieldAddr (off := 7) (ft := 2) (by kernel_rfl) rfl) ?_
  refine l_nil ?_
  refine n_then ?_
  refine r_one (by decide +kernel) rfl ?_
  refine l_to (to_store rfl rfl (show _ = (Value.int _ _) from rfl) rfl (by kernel_rfl) HB5 (by first | exact of_decide_eq_true rfl | (simp; done) | decide) ?_)
  rintro w116 HX116 k116 z116
  have zs_k116 := k116.size
  replace E := E.step k116 (by intro i hi he; (try dsimp only [NoK] at hi he ⊢); first | exact he.elim | omega | exact he)
  replace HB2 := HB2.keep k116 (by intro h; (try dsimp only at h); first | omega)
  replace HB4 := HB4.keep k116 (by intro h; (try dsimp only at h); first | omega)
  replace HB6 := HB6.keep k116 (by intro h; (try dsimp only at h); first | omega)
  replace HB11 := HB11.keep k116 (by intro h; (try dsimp only at h); first | omega)
  replace HR9 := HR9.keep k116 (by intro h; have h := h; (try dsimp only [NoK] at h); first | exact h | omega | (rcases h with h | h <;> omega)) (by intro i hi he; have hi0 := hi; have hi := hi; have he := he; (try dsimp only [NoK] at hi he); first | exact he.elim | omega | (have := hF i hi0; omega))
  replace HB5 := HX116
  clear HX116
  try simp only [List.set_cons_zero, List.set_cons_succ, setAt, List.take_zero, List.take_succ_cons, List.drop_zero, List.drop_succ_cons, List.nil_append, List.cons_append, List.append_nil, List.length_cons, List.length_nil, Nat.zero_add, Nat.reduceAdd, List.drop_nil] at HB5
  refine l_nil ?_
  refine n_then ?_
  refine c_seq ?_
  refine wp_reg (by decide +kernel) ?_
  refine l_v (v_makeFunc (by simp [ev]; rfl) (by simp [ev]; rfl)) ?_
  refine l_v (v_assign rfl) ?_
  refine l_nil ?_
  refine n_then ?_
  refine c_seq ?_
  refine wp_reg (by decide +kernel) ?_
  refine l_v (v_move rfl) ?_
  refine l_v (v_fieldAddr (off := 3) (ft := 4) (by kernel_rfl) rfl) ?_
  refine l_v (v_load (by kernel_rfl) rfl (by first | exact HB11.pv 3 _ rfl | exact HB6.pv 3 _ rfl | exact HB5.pv 3 _ rfl | exact HB4.pv 3 _ rfl | exact HB2.pv 3 _ rfl | assumption)) ?_
  refine l_v (v_makeFunc (by simp [ev]; rfl) (by simp [ev]; rfl)) ?_
  refine l_to (to_call2 (by kernel_rfl) rfl (show _ = (Value.bool _) from rfl) rfl (CallsR.mono (thenE_c (is := kNm (rK l) 3) (n6 := n6) HB4 HB11 HR9 HB5 (by refine ⟨?_, ?_, ?_, ?_, ?_⟩ <;> omega) (by omega) (by have := rD_le l; omega) (by refine ⟨?_, ?_, ?_⟩ <;> omega)) ?_))
  rintro r51 w51 ⟨⟨⟨HB11, HR9⟩, ae, ve, HB5, HS51⟩, k51⟩
  have zs_k51 := k51.size
  replace HB11 : Blk w51 b11 [.pointer (some ⟨b9, 0, none⟩), .int .i64 (rG l).2.2] 113 := HB11
  replace HR9 : Rd nRd w51 b9 (fun k => w2.heap.size ≤ k ∧ k < b9) (rG l).2.1 := HR9
  replace E := E.step k51 (by intro i hi he; (try dsimp only [NoK] at hi he ⊢); first | exact he.elim | omega | exact he)
  replace HB2 := HB2.keep k51 (by intro h; (try dsimp only at h); first | omega)
  replace HB4 := HB4.keep k51 (by intro h; (try dsimp only at h); first | omega)
  replace HB6 := HB6.keep k51 (by intro h; (try dsimp only at h); first | omega)
  refine l_nil ?_
  refine n_then ?_
  refine c_seq ?_
  refine wp_reg (by decide +kernel) ?_
  refine l_v (v_move rfl) ?_
  refine l_v (v_fieldAddr (off := 4) (ft := 4) (by kernel_rfl) rfl) ?_
  refine l_v (v_load (by kernel_rfl) rfl (by first | exact HB5.pv 4 _ rfl | exact HB11.pv 4 _ rfl | exact HB6.pv 4 _ rfl | exact HB4.pv 4 _ rfl | exact HB2.pv 4 _ rfl | assumption)) ?_
  refine l_v (v_makeFunc (by simp [ev]; rfl) (by simp [ev]; rfl)) ?_
  refine l_to (to_call2 (by kernel_rfl) rfl (show _ = (Value.bool _) from rfl) rfl (CallsR.mono (thenF_c (is := kNm (rK l) 4) (n6 := n6) HB4 HB11 HR9 HB5 (by refine ⟨?_, ?_, ?_, ?_, ?_⟩ <;> omega) (by omega) (by have := rG_le l; omega) (by refine ⟨?_, ?_, ?_⟩ <;> omega)) ?_))
  rintro r56 w56 ⟨⟨⟨HB11, HR9⟩, HB5⟩, k56⟩
  have zs_k56 := k56.size
  replace HB11 : Blk w56 b11 [.pointer (some ⟨b9, 0, none⟩), .int .i64 (rH l).2.2] 113 := HB11
  replace HR9 : Rd nRd w56 b9 (fun k => w2.heap.size ≤ k ∧ k < b9) (rH l).2.1 := HR9
  replace E := E.step k56 (by intro i hi he; (try dsimp only [NoK] at hi he ⊢); first | exact he.elim | omega | exact he)
  replace HB2 := HB2.keep k56 (by intro h; (try dsimp only at h); first | omega)
  replace HB4 := HB4.keep k56 (by intro h; (try dsimp only at h); first | omega)
  replace HB6 := HB6.keep k56 (by intro h; (try dsimp only at h); first | omega)
  replace HS51 := HS51.keep k56 (by intro i _ hi he; (try dsimp only [NoK, AllB] at hi he); first | exact hi.elim | exact he.elim | omega | (rcases hi with hi | hi <;> omega) | (rcases he with he | he <;> omega))
  refine l_nil ?_
  refine n_then ?_
  refine c_seq ?_
  refine wp_reg (by decide +kernel) ?_
  refine l_v (v_move rfl) ?_
  refine l_v (v_fieldAddr (off := 5) (ft := 4) (by kernel_rfl) rfl) ?_
  refine l_v (v_load (by kernel_rfl) rfl (by first | exact HB5.pv 5 _ rfl | exact HB11.pv 5 _ rfl | exact HB6.pv 5 _ rfl | exact HB4.pv 5 _ rfl | exact HB2.pv 5 _ rfl | assumption)) ?_
  refine l_v (v_makeFunc (by simp [ev]; rfl) (by simp [ev]; rfl)) ?_
  refine l_to (to_call2 (by kernel_rfl) rfl (show _ = (Value.bool _) from rfl) rfl (CallsR.mono (thenS_c (is := kNm (rK l) 5) (n6 := n6) HB4 HB11 HR9 HB5 (by refine ⟨?_, ?_, ?_, ?_, ?_⟩ <;> omega) (by omega) (by have := rH_le l; omega) (by refine ⟨?_, ?_, ?_⟩ <;> omega)) ?_))
  rintro r61 w61 ⟨⟨⟨HB11, HR9⟩, az, vz, HB5, HF61⟩, k61⟩
  have zs_k61 := k61.size
  replace HB11 : Blk w61 b11 [.pointer (some ⟨b9, 0, none⟩), .int .i64 (rJ l).2.2] 113 := HB11
  replace HR9 : Rd nRd w61 b9 (fun k => w2.heap.size ≤ k ∧ k < b9) (rJ l).2.1 := HR9
  replace E := E.step k61 (by intro i hi he; (try dsimp only [NoK] at hi he ⊢); first | exact he.elim | omega | exact he)
  replace HB2 := HB2.keep k61 (by intro h; (try dsimp only at h); first | omega)
  replace HB4 := HB4.keep k61 (by intro h; (try dsimp only at h); first | omega)
  replace HB6 := HB6.keep k61 (by intro h; (try dsimp only at h); first | omega)
  replace HS51 := HS51.keep k61 (by intro i _ hi he; (try dsimp only [NoK, AllB] at hi he); first | exact hi.elim | exact he.elim | omega | (rcases hi with hi | hi <;> omega) | (rcases he with he | he <;> omega))
  refine l_nil ?_
  refine n_then ?_
  refine c_seq ?_
  refine c_seq ?_
  have hwf := rW_wf l
  refine wp_reg (by decide +kernel) ?_
  refine l_v (v_load (by kernel_rfl) rfl (by first | exact HB5.cell rfl | exact HB11.cell rfl | exact HB6.cell rfl | exact HB4.cell rfl | exact HB2.cell rfl | assumption)) ?_
  refine l_v (v_nilCheck rfl) ?_
  refine l_v (v_fieldAddr (off := 1) (ft := 30) (by kernel_rfl) rfl) ?_
  refine l_v (v_load (by kernel_rfl) rfl (by first | exact HB5.pv 1 _ rfl | exact HB11.pv 1 _ rfl | exact HB6.pv 1 _ rfl | exact HB4.pv 1 _ rfl | exact HB2.pv 1 _ rfl | assumption)) ?_
  refine l_v (v_neq rfl rfl) ?_
  refine l_v (v_move (t := .bool _) rfl) ?_
  refine l_g1 rfl rfl (fun hG => v_load (by kernel_rfl) rfl (by first | exact HB5.cell rfl | exact HB11.cell rfl | exact HB6.cell rfl | exact HB4.cell rfl | exact HB2.cell rfl | assumption)) ?_
  refine l_g1 rfl rfl (fun hG => v_nilCheck (gd hG rfl)) ?_
  refine l_g1 rfl rfl (fun hG => v_fieldAddr (off := 0) (ft := 110) (by kernel_rfl) (gd hG rfl)) ?_
  refine l_g1 rfl rfl (fun hG => v_load (by kernel_rfl) (gd hG rfl) (by first | exact HB5.pv 0 _ rfl | exact HB11.pv 0 _ rfl | exact HB6.pv 0 _ rfl | exact HB4.pv 0 _ rfl | exact HB2.pv 0 _ rfl | assumption)) ?_
  refine l_g1f rfl rfl (fun hG => to_f1 (by kernel_rfl) (gd hG rfl) (End_c HR9)) ?_
  rintro w117 e117
  have zs_e117 := e117.size
  replace E := E.trans (Ext.keep e117)
  replace HB2 := HB2.ext e117
  replace HB4 := HB4.ext e117
  replace HB6 := HB6.ext e117
  replace HS51 := HS51.ext e117
  replace HB11 := HB11.ext e117
  replace HR9 := HR9.ext e117
  replace HB5 := HB5.ext e117
  replace HF61 := HF61.ext e117
  refine l_g1 rfl rfl (fun hG => v_neq (gd hG rfl) rfl) ?_
  refine l_v (v_or rfl rfl) ?_
  refine l_v (v_move (t := .bool _) rfl) ?_
  refine l_g1 rfl rfl (fun hG => v_loadA (by kernel_rfl) rfl (by first | exact HB5.pv | exact HB11.pv | exact HB6.pv | exact HB4.pv | exact HB2.pv | assumption) rfl) ?_
  refine l_g1f rfl rfl (fun hG => to_f1 (by kernel_rfl) (gd hG rfl) (May_c (AgV.mkMs (m := rW l) (imp_tEnF.sl HS51) HF61.bv hwf))) ?_
  rintro w118 e118
  have zs_e118 := e118.size
  replace E := E.trans (Ext.keep e118)
  replace HB2 := HB2.ext e118
  replace HB4 := HB4.ext e118
  replace HB6 := HB6.ext e118
  replace HS51 := HS51.ext e118
  replace HB11 := HB11.ext e118
  replace HR9 := HR9.ext e118
  replace HB5 := HB5.ext e118
  replace HF61 := HF61.ext e118
  refine l_g1 rfl rfl (fun hG => v_not (gd hG rfl)) ?_
  refine l_v (v_or rfl rfl) ?_
  refine l_nil ?_
  refine n_then ?_
  refine c_cond rfl rfl (fun hz => ?_) (fun hz => ?_)
  · skip
    refine c_seq ?_
    refine wp_reg (by decide +kernel) ?_
    refine l_v (v_build (pl := [(0, 1), (1, 1), (2, 1), (3, 1), (4, 1), (5, 1), (6, 1), (7, 1), (8, 1), (9, 1), (10, 1)]) (z := .agg #[.int .i64 0, .int .i64 0, .int .i64 0, .int .i64 0, .int .i64 0, .int .i64 0, .int .i64 0, .int .i64 0, .slice none 0 0, .bool false, .slice none 0 0]) (zl := [.int .i64 0, .int .i64 0, .int .i64 0, .int .i64 0, .int .i64 0, .int .i64 0, .int .i64 0, .int .i64 0, .slice none 0 0, .bool false, .slice none 0 0]) (by kernel_rfl) (by unfold kZero; kernel_rfl) rfl rfl (cells := [_, _, _, _, _, _, _, _, _, _, _]) rfl) ?_
    refine l_to (to_storeA (n := 11) rfl rfl (show _ = (Value.agg _) from rfl) (by kernel_rfl) rfl (by first | (simp [slice_one]; done) | (simp only [List.forall_mem_cons, List.cons_append, List.nil_append]; repeat' (first | exact rfl | apply And.intro | (intro u hu; cases hu; done)))) HB2 (by first | exact of_decide_eq_true rfl | (simp; done) | decide) ?_)
    rintro w119 HX119 k119 z119
    have zs_k119 := k119.size
    replace E := E.step k119 (by intro i hi he; (try dsimp only [NoK] at hi he ⊢); first | exact he.elim | omega | exact he)
    replace HB4 := HB4.keep k119 (by intro h; (try dsimp only at h); first | omega)
    replace HB6 := HB6.keep k119 (by intro h; (try dsimp only at h); first | omega)
    replace HS51 := HS51.keep k119 (by intro i _ hi he; (try dsimp only [NoK, AllB] at hi he); first | exact hi.elim | exact he.elim | omega | (rcases hi with hi | hi <;> omega) | (rcases he with he | he <;> omega))
    replace HB11 := HB11.keep k119 (by intro h; (try dsimp only at h); first | omega)
    replace HR9 := HR9.keep k119 (by intro h; have h := h; (try dsimp only [NoK] at h); first | exact h | omega | (rcases h with h | h <;> omega)) (by intro i hi he; have hi0 := hi; have hi := hi; have he := he; (try dsimp only [NoK] at hi he); first | exact he.elim | omega | (have := hF i hi0; omega))
    replace HB5 := HB5.keep k119 (by intro h; (try dsimp only at h); first | omega)
    replace HF61 := HF61.keep k119 (by first | exact fun h => h | (intro h; have he0 := h; have h := h; (try dsimp only at h); (try simp only [Value.ownBlock, Option.some.injEq] at h); (try simp only [add_block] at h); (try simp only [add_block] at he0); first | omega) | (intro i _ hi he; have he0 := he; have hi := hi; have he := he; (try dsimp only [NoK, AllB] at hi he); (try simp only [Value.ownBlock, Option.some.injEq] at he); first | exact hi.elim | exact he.elim | omega | (rcases hi with hi | hi <;> omega) | (rcases he with he | he <;> omega)))
    replace HB2 := HX119
    clear HX119
    try simp only [List.set_cons_zero, List.set_cons_succ, setAt, List.take_zero, List.take_succ_cons, List.drop_zero, List.drop_succ_cons, List.nil_append, List.cons_append, List.append_nil, List.length_cons, List.length_nil, Nat.zero_add, Nat.reduceAdd, List.drop_nil] at HB2
    refine l_v (v_assign rfl) ?_
    refine l_nil ?_
    refine n_then ?_
    refine c_ret ?_
    refine r_then ?_
    refine ret2cv (n := 11) rfl (by decide) (by decide) rfl (by kernel_rfl) HB2.pv rfl (show _ = (Value.int _ _) from rfl) ?_
    have hn : ¬ ((rJ l).2.2 = 0 ∧ (rJ l).2.1 = [] ∧ mayN (rW l) = true) := by
      rintro ⟨h1, h2, h3⟩
      rw [h1, h2, h3] at hz; simp at hz
    rw [readN, if_neg hn]
    exact ⟨⟨_, rfl, AgV.mkMsG (m := msZ) (SlV.nil _ _ _) (BvF.nil _ _) ⟨i64_0, i64_0, i64_0, i64_0, i64_0, i64_0, i64_0, i64_0⟩⟩, E⟩
  · skip
    refine c_skip ?_
    refine n_then ?_
    refine c_seq ?_
    refine wp_reg (by decide +kernel) ?_
    refine l_v (v_loadA (by kernel_rfl) rfl (by first | exact HB5.pv | exact HB11.pv | exact HB6.pv | exact HB4.pv | exact HB2.pv | assumption) rfl) ?_
    refine l_to (to_storeA (n := 11) rfl rfl (show _ = (Value.agg _) from rfl) (by kernel_rfl) rfl (by first | (simp [slice_one]; done) | (simp only [List.forall_mem_cons, List.cons_append, List.nil_append]; repeat' (first | exact rfl | apply And.intro | (intro u hu; cases hu; done)))) HB2 (by first | exact of_decide_eq_true rfl | (simp; done) | decide) ?_)
    rintro w120 HX120 k120 z120
    have zs_k120 := k120.size
    replace E := E.step k120 (by intro i hi he; (try dsimp only [NoK] at hi he ⊢); first | exact he.elim | omega | exact he)
    replace HB4 := HB4.keep k120 (by intro h; (try dsimp only at h); first | omega)
    replace HB6 := HB6.keep k120 (by intro h; (try dsimp only at h); first | omega)
    replace HS51 := HS51.keep k120 (by intro i _ hi he; (try dsimp only [NoK, AllB] at hi he); first | exact hi.elim | exact he.elim | omega | (rcases hi with hi | hi <;> omega) | (rcases he with he | he <;> omega))
    replace HB11 := HB11.keep k120 (by intro h; (try dsimp only at h); first | omega)
    replace HR9 := HR9.keep k120 (by intro h; have h := h; (try dsimp only [NoK] at h); first | exact h | omega | (rcases h with h | h <;> omega)) (by intro i hi he; have hi0 := hi; have hi := hi; have he := he; (try dsimp only [NoK] at hi he); first | exact he.elim | omega | (have := hF i hi0; omega))
    replace HB5 := HB5.keep k120 (by intro h; (try dsimp only at h); first | omega)
    replace HF61 := HF61.keep k120 (by first | exact fun h => h | (intro h; have he0 := h; have h := h; (try dsimp only at h); (try simp only [Value.ownBlock, Option.some.injEq] at h); (try simp only [add_block] at h); (try simp only [add_block] at he0); first | omega) | (intro i _ hi he; have he0 := he; have hi := hi; have he := he; (try dsimp only [NoK, AllB] at hi he); (try simp only [Value.ownBlock, Option.some.injEq] at he); first | exact hi.elim | exact he.elim | omega | (rcases hi with hi | hi <;> omega) | (rcases he with he | he <;> omega)))
    replace HB2 := HX120
    clear HX120
    try simp only [List.set_cons_zero, List.set_cons_succ, setAt, List.take_zero, List.take_succ_cons, List.drop_zero, List.drop_succ_cons, List.nil_append, List.cons_append, List.append_nil, List.length_cons, List.length_nil, Nat.zero_add, Nat.reduceAdd, List.drop_nil] at HB2
    refine l_v (v_assign rfl) ?_
    refine l_nil ?_
    refine n_then ?_
    refine c_ret ?_
    refine ret2cv (n := 11) rfl (by decide) (by decide) rfl (by kernel_rfl) HB2.pv rfl (show _ = (Value.int _ _) from rfl) ?_
    have hn : (rJ l).2.2 = 0 ∧ (rJ l).2.1 = [] ∧ mayN (rW l) = true := by
      simp only [Bool.or_eq_false_iff, Bool.not_eq_false', decide_eq_true_eq] at hz
      refine ⟨hz.1.1, ?_, hz.2⟩
      by_cases h : (rJ l).2.1 = []
      · exact h
      · have := hz.1.2; rw [if_neg h] at this; cases this
    rw [readN, if_pos hn]
    exact ⟨⟨_, rfl, AgV.mkMsG (m := rW l) (HS51.mono fun i _ h => by omega) (HF61.mono fun i _ h => by omega) hwf⟩, E⟩
end Go.Proofs.Ytaidpdjlchnonaa
