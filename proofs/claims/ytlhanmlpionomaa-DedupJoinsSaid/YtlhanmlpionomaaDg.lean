/- A part of the proof: steps and lemmas for the walks through the given program. -/
import Derived.Test.YtlhanmlpionomaaD24
import Derived.Test.YtlhanmlpionomaaGu
namespace Go.Proofs.Ytlhanmlpionomaa
open Go.Vc
set_option linter.unusedVariables false
set_option linter.unusedSimpArgs false
set_option maxRecDepth 100000

theorem rdBytes_le {m : Nat} {l : List UInt8} {x : List UInt8} {r : List UInt8} (h : rdBytes m l = .ok (x, r)) : r.length ≤ l.length ∧ x.length ≤ m ∧ l = wBytes x ++ r := by
  rw [rdBytes, tryRd] at h
  rcases hd : rdNum l with _ | ⟨n, l'⟩
  · rw [hd] at h; cases h
  · rw [hd] at h
    simp only [] at h
    have hf := rdNum_form hd
    by_cases hn : n ≤ m
    · rw [if_pos hn, rdSome] at h
      by_cases h2 : n ≤ l'.length
      · rw [if_pos h2] at h
        cases h
        have hl := congrArg List.length hf
        rw [List.length_append] at hl
        have e1 : (l'.take n).length = n := by rw [List.length_take]; omega
        refine ⟨by rw [List.length_drop]; omega, by omega, ?_⟩
        rw [wBytes, e1, List.append_assoc, List.take_append_drop]; exact hf
      · rw [if_neg h2] at h; cases h
    · rw [if_neg hn] at h; cases h
theorem rdPr_ok {l : List UInt8} {p : PrV} {r : List UInt8} (h : rdPr l = .ok (p, r)) : l = spPr p ++ r ∧ p.1.length ≤ 24 ∧ p.2.length ≤ 40 ∧ r.length < l.length := by
  rw [rdPr] at h
  rcases h1 : rdBytes 24 l with e | ⟨k, l1⟩
  · rw [h1] at h; cases h
  · rw [h1] at h; simp only [] at h
    rcases h2 : rdBytes 40 l1 with e | ⟨v, l2⟩
    · rw [h2] at h; cases h
    · rw [h2] at h; cases h
      obtain ⟨a1, a2, a3⟩ := rdBytes_le h1
      obtain ⟨b1, b2, b3⟩ := rdBytes_le h2
      refine ⟨by rw [a3, b3, spPr]; simp, a2, b2, ?_⟩
      have hp := wNum_pos k.length
      have := congrArg List.length a3
      rw [wBytes, List.length_append, List.length_append] at this
      omega
theorem rdPr_short : ∀ l x r, rdPr l = .ok (x, r) → r.length < l.length := fun l x r h => (rdPr_ok h).2.2.2
/-- what reading one thing hands back -/
def OneVPr (w1 w2 : World) (c : Nat) (F : Nat → Prop) : Except Int (PrV × List UInt8) → Value → Prop
  | .ok (x, l2), r => ∃ cs, r = .tuple #[.agg cs.toArray, .int .i64 0] ∧ (tPr).rep w2 (fun b => w1.heap.size ≤ b) cs x ∧ Rd nRd w2 c F l2
  | .error e, r => e ≠ 0 ∧ ∃ cs x, r = .tuple #[.agg cs.toArray, .int .i64 e] ∧ (tPr).rep w2 (fun b => w1.heap.size ≤ b) cs x
theorem OneVPr_any {w1 w2 : World} {c : Nat} {F : Nat → Prop} {q : Except Int (PrV × List UInt8)} {r : Value} (h : OneVPr w1 w2 c F q r) : ∃ (cs : List Value) (x : PrV) (er : Int), r = .tuple #[.agg cs.toArray, .int .i64 er] ∧ (tPr).rep w2 (fun b => w1.heap.size ≤ b) cs x ∧
    ((er = 0 ∧ ∃ l2, q = .ok (x, l2) ∧ Rd nRd w2 c F l2) ∨ (er ≠ 0 ∧ q = .error er)) := by
  match q, h with
  | .ok (x, l2), ⟨cs, hr, h1, h2⟩ => exact ⟨cs, x, 0, hr, h1, .inl ⟨rfl, l2, rfl, h2⟩⟩
  | .error e, ⟨he, cs, x, hr, h1⟩ => exact ⟨cs, x, e, hr, h1, .inr ⟨he, rfl⟩⟩

theorem takeInPr_c {w : World} {b pf : Nat} {pT : TypeId} {F : Nat → Prop} {l : List UInt8} {n fr : Nat} {cap : Array Value} (hr : Rd nRd w b F l) (hF : ∀ k, F k → k < w.heap.size) (hFb : ¬ F b) (hn : n ≤ 9223372036854775807) (hl : l.length ≤ 1000000000000) (hb : kBody Try.prog fr = true)
    (hpf : Blk w pf [.func (.func fr) #[] cap] pT) (hpb : pf ≠ b)
    (ρ : List UInt8 → Except Int (PrV × List UInt8)) (hρ : ∀ l x l2, ρ l = .ok (x, l2) → l2.length < l.length)
    (hone : ∀ (w1 : World) (l1 : List UInt8), Keep (fun k => k = b) w w1 → Rd nRd w1 b F l1 → l1.length ≤ l.length → CallsR Try.prog fr (#[.pointer (some ⟨b, 0, none⟩)] ++ cap) w1 (fun r w2 => OneVPr w1 w2 b F (ρ l1) r ∧ Keep (fun k => k = b) w1 w2)) :
    CallsR Try.prog 81 #[.pointer (some ⟨b, 0, none⟩), .int .i64 n, .pointer (some ⟨pf, 0, none⟩)] w (fun r w' => ReadV (tPr) 61 nRd w w' b F (rdList ρ n l) r ∧ Keep (fun k => k = b) w w') := by
  obtain ⟨w0, rfl⟩ : ∃ x, x = w := ⟨w, rfl⟩
  have hblt : b < w0.heap.size := by obtain ⟨_, _, h, _⟩ := hr; exact h.lt
  have hplt := hpf.lt
  refine enter 28 Try.func81 rfl rfl (by simp) ?_
  refine c_seq ?_
  refine wp_reg (by decide +kernel) ?_
  refine l_v (v_assign rfl) ?_
  refine l_v (v_assign rfl) ?_
  refine l_nil ?_
  refine n_then ?_
  refine c_seq ?_
  refine c_block ?_
  refine c_loop (τ := Option Addr × Nat × Int × List (PrV) × List UInt8) [5, 6, 7, 8, 9, 10, 11, 12, 13, 14, 15, 16, 17, 18, 19, 20, 21, 22, 23, 24, 25] (fun (a1, c1, er, xs, l1) => [(5, .slice a1 xs.length c1), (6, .int .i64 er)]) (fun (a1, c1, er, xs, l1) w => OwV (tPr) 61 w w0.heap.size (fun k => w0.heap.size ≤ k) (.slice a1 xs.length c1) xs ∧ Keep (fun k => k = b) w0 w ∧ xs.length ≤ n ∧ ((er = 0 ∧ Rd nRd w b F l1 ∧ xs.length + l1.length ≤ l.length ∧ rdList ρ n l = bindL xs (rdList ρ (n - xs.length) l1)) ∨ (er ≠ 0 ∧ rdList ρ n l = .error er))) (fun (a1, c1, er, xs, l1) => n - xs.length) (none, 0, 0, [], l) (by exact ⟨rfl, rfl, trivial⟩) (by exact ⟨OwV.nil _ _ _ _ _, Keep.refl _, Nat.zero_le _, .inl ⟨rfl, hr, by simp, by simp [bindL_nil]⟩⟩) ?_
  rintro ⟨a1, c1, er, xs, l1⟩ w1 j ⟨o1, k1, h1, h1c⟩
  refine c_seq ?_
  refine c_seq ?_
  refine wp_reg (by decide +kernel) ?_
  refine l_v (v_move (t := .slice _ _ _) rfl) ?_
  refine l_v (v_len (et := 61) (by kernel_rfl) rfl) ?_
  refine l_v (v_move (t := .int _ _) rfl) ?_
  refine l_v (v_lss rfl rfl) ?_
  refine l_v (v_move (t := .bool _) rfl) ?_
  refine l_g1 rfl rfl (fun hG => v_move (t := .int _ _) rfl) ?_
  refine l_g1 rfl rfl (fun hG => v_eql (gd hG rfl) rfl) ?_
  refine l_v (v_and rfl rfl) ?_
  refine l_nil ?_
  refine n_then ?_
  refine c_cond rfl rfl (fun hc => ?_) (fun hc => ?_)
  · skip
    have hcl : xs.length < n := by simp at hc; omega
    have hce : er = 0 := by simp at hc; omega
    obtain ⟨_, r1, hll, hrd⟩ := h1c.resolve_right (fun h => h.1 hce)
    have zs_k1 := k1.size
    refine c_skip ?_
    refine n_then ?_
    refine c_block ?_
    refine c_seq ?_
    refine wp_reg (by decide +kernel) ?_
    refine l_to (to_alloc (z := (.agg #[.slice none 0 0, .slice none 0 0])) (by unfold kZero; kernel_rfl) ?_)
    rintro b2 w2 rfl hb2 e2 z2
    have zs_e2 := e2.size
    refine l_nil ?_
    refine n_then ?_
    refine c_seq ?_
    refine wp_reg (by decide +kernel) ?_
    refine l_v (v_load (by kernel_rfl) rfl ((((hpf.keep k1 hpb)).ext e2).pv 0 _ rfl)) ?_
    refine l_v (v_move (t := .pointer _) rfl) ?_
    refine l_to (to_call1 hb rfl (show _ = (Value.pointer _) from rfl) (CallsR.mono ((hone w2 l1 (k1.trans (e2.mono fun _ _ h => h.elim)) (r1.ext e2) (by omega))) ?_))
    rintro r w3 ⟨hr3, k3⟩
    have zs_k3 := k3.size
    obtain ⟨cs, x, er2, hr3, hrep, hnx⟩ := OneVPr_any hr3
    subst hr3
    have hrep1 := hrep
    obtain ⟨a9, c9, a10, c10, rfl, _, _⟩ := tPr_cells hrep
    refine l_v (v_move (t := .tuple _) rfl) ?_
    refine l_v (v_extract (t := .agg _) rfl rfl) ?_
    refine l_v (v_extract (t := .int _ _) rfl rfl) ?_
    refine l_to (to_storeA (n := 2) rfl rfl (show _ = (Value.agg _) from rfl) (by kernel_rfl) rfl (by first | (simp [slice_one]; done) | (simp only [List.forall_mem_cons, List.cons_append, List.nil_append]; repeat' (first | exact rfl | apply And.intro | (intro u hu; cases hu; done)))) (hb2.keep k3 (by omega)) (by first | exact of_decide_eq_true rfl | (simp; done) | decide | (simp only [List.length_set, hlen]; exact of_decide_eq_true rfl)) ?_)
    rintro w4 h4 k4 z4
    have zs_k4 := k4.size
    have hrep4 := (tPr).keep hrep1 k4 (fun i hi h hk => by omega)
    have o4 := ((((o1.mono (F' := fun k => w0.heap.size ≤ k ∧ k < w1.heap.size) (fun i hi h => ⟨h, hi⟩)).ext e2).keep k3 (fun i hi h => by have := (o1.own_lt hi).1; omega) (fun i _ hi _ h => by omega)).keep k4 (fun i hi h => by have := (o1.own_lt hi).2; omega) (fun i _ hi _ h => by omega)).mono (F' := fun k => w0.heap.size ≤ k) (fun i _ h => h.1)
    have k46 : Keep (fun k => k = b) w0 w4 := (((k1.trans (e2.mono fun _ _ h => h.elim)).trans k3).step k4 (fun i hi h => by omega))
    have hnx4 : (er2 = 0 ∧ ∃ l2, ρ l1 = .ok (x, l2) ∧ Rd nRd w4 b F l2) ∨ (er2 ≠ 0 ∧ ρ l1 = .error er2) := by
      rcases hnx with ⟨he2, l2, hq, r3⟩ | h
      · exact .inl ⟨he2, l2, hq, r3.keep k4 (by omega) (fun i hi h => by have := hF i hi; omega)⟩
      · exact .inr h
    refine l_v (v_assign (t := .int _ _) rfl) ?_
    refine l_nil ?_
    refine n_then ?_
    refine wp_reg (by decide +kernel) ?_
    refine l_v (v_move (t := .slice _ _ _) rfl) ?_
    refine l_v (v_loadA (by kernel_rfl) rfl h4.pv rfl) ?_
    refine l_to (to_slice1 (t := tPr) (et := 61) (bytes := 48) (by kernel_rfl) (by decide) (show _ = (Value.agg _) from rfl) (hrep4) ?_)
    rintro b5 w5 rfl o5 e5 z5
    have zs_e5 := e5.size
    refine l_to (to_append (et := 61) (bytes := 48) (by kernel_rfl) (show _ = (Value.slice _ _ _) from rfl) (o4.ext e5) (show _ = (Value.slice _ _ _) from rfl) o5.view ((OwV_sep o1 (by intro i hi; omega) (by omega))) (by first | omega | (simp; done) | (simp; omega)) (by simp only [maxLen]; first | omega | (simp; done) | (simp; omega)) (by omega) ?_)
    rintro a6 n6 c6 w6 o6 hn6 k6 b6 i6
    have zs_k6 := k6.size
    subst hn6
    have k36 : Keep (fun k => k = b) w0 w6 := (k46.trans (e5.mono fun _ _ h => h.elim)).step k6 (fun i hi h => by have := (o1.own_lt h).1; omega)
    have hsub : n - xs.length = (n - (xs ++ [x]).length) + 1 := by simp only [List.length_append, List.length_singleton]; omega
    obtain ⟨l2, hinv⟩ : ∃ l2, ((er2 = 0 ∧ Rd nRd w6 b F l2 ∧ (xs ++ [x]).length + l2.length ≤ l.length ∧ rdList ρ n l = bindL (xs ++ [x]) (rdList ρ (n - (xs ++ [x]).length) l2)) ∨ (er2 ≠ 0 ∧ rdList ρ n l = .error er2)) := by
      rcases hnx4 with ⟨he2, l2, hq, r4⟩ | ⟨hne, hq⟩
      · refine ⟨l2, .inl ⟨he2, ?_, ?_, ?_⟩⟩
        · exact (r4.ext e5).keep k6 (fun h => by have := (o1.own_lt h).1; omega) (fun i hi h => by have := (o1.own_lt h).1; have := hF i hi; omega)
        · have := hρ _ _ _ hq; simp only [List.length_append, List.length_singleton]; omega
        · rw [hrd, hsub]; exact rdList_ok hq
      · exact ⟨[], .inr ⟨hne, by rw [hrd, hsub]; exact rdList_err hq⟩⟩
    refine l_v (v_assign (t := .slice _ _ _) rfl) ?_
    refine l_nil ?_
    refine n_blk ?_
    refine n_then ?_
    refine ⟨(a6, c6, er2, xs ++ [x], l2), _, rfl, by (repeat (first | exact Off.of_over _ _ _ | refine Off.upd ?_ (by decide) _ | refine Off.overs ?_ (by decide) _)), ⟨by first | rfl | exact congrArg (Value.int _) (by omega) | (simp; done), by first | rfl | exact congrArg (Value.int _) (by omega) | (simp; done), trivial⟩, ?_, ?_⟩
    · exact ⟨o6, k36, by simp only [List.length_append, List.length_singleton]; omega, hinv⟩
    · simp only [List.length_append, List.length_singleton]; omega
  · skip
    refine c_exit ?_
    refine x_then ?_
    refine x_then ?_
    refine x_hit ?_
    refine n_then ?_
    refine c_seq ?_
    refine wp_reg (by decide +kernel) ?_
    refine l_v (v_move (t := .slice _ _ _) rfl) ?_
    refine l_v (v_move (t := .int _ _) rfl) ?_
    refine l_v (v_assign (t := .slice _ _ _) rfl) ?_
    refine l_v (v_assign (t := .int _ _) rfl) ?_
    refine l_nil ?_
    refine n_then ?_
    refine c_ret ?_
    refine ret2 rfl (by decide) (by decide) ?_
    refine ⟨?_, k1⟩
    rcases h1c with ⟨he, r1, _, hrd⟩ | ⟨hne, hq⟩
    · have hcl : ¬ xs.length < n := by subst he; simpa using hc
      rw [hrd, show n - xs.length = 0 by omega]
      subst he
      show ReadV _ _ _ _ _ _ _ (.ok (xs ++ [], l1)) _
      rw [List.append_nil]
      exact ⟨a1, c1, rfl, o1, r1⟩
    · rw [hq]
      exact ⟨hne, _, _, _, rfl⟩

theorem tryPr_c {w : World} {b : Nat} {F : Nat → Prop} {l : List UInt8} {most : Int} {fr : Nat} {cap : Array Value} (hr : Rd nRd w b F l) (hF : ∀ k, F k → k < b) (hm : 0 ≤ most) (hm2 : most ≤ 9223372036854775807) (hb : kBody Try.prog fr = true)
    (ρ : Nat → List UInt8 → Except Int (List PrV × List UInt8))
    (hread : ∀ (w1 : World) (c : Nat) (l1 : List UInt8) (n : Nat), Ext w w1 → w.heap.size ≤ c → Rd nRd w1 c F l1 → l1.length ≤ l.length → (n : Int) ≤ most → CallsR Try.prog fr (#[.pointer (some ⟨c, 0, none⟩), .int .i64 n] ++ cap) w1 (fun r w2 => ReadV (tPr) 61 nRd w1 w2 c F (ρ n l1) r ∧ Keep (fun k => k = c) w1 w2)) :
    CallsR Try.prog 80 #[.pointer (some ⟨b, 0, none⟩), .int .i64 most, .func (.func fr) #[] cap] w (fun r w' => TryV (tPr) 61 nRd w w' b F l (tryRd ρ most.toNat l) r ∧ Keep (fun k => k = b) w w') := by
  have hnF : ¬ F b := fun h => absurd (hF b h) (Nat.lt_irrefl b)
  obtain ⟨a, c, hb0, hv⟩ := hr
  have hblt := hb0.lt
  rcases hd : rdNum l with _ | ⟨n, l'⟩
  · obtain ⟨er, her⟩ : ∃ er : Int, er = 4 := ⟨4, rfl⟩
    have htr : tryRd ρ most.toNat l = .error er := by rw [tryRd, hd, her]
    refine enter 56 Try.func80 rfl rfl (by simp) ?_
    refine c_seq ?_
    refine wp_reg (by decide +kernel) ?_
    refine l_v (v_assign rfl) ?_
    refine l_v (v_assign rfl) ?_
    refine l_nil ?_
    refine n_then ?_
    refine c_seq ?_
    refine wp_reg (by decide +kernel) ?_
    refine l_v (v_assign rfl) ?_
    refine l_nil ?_
    refine n_then ?_
    refine c_seq ?_
    refine c_seq ?_
    refine wp_reg (by decide +kernel) ?_
    refine l_v (v_move (t := .pointer _) rfl) ?_
    refine l_to (to_f1 (by kernel_rfl) (show _ = (Value.pointer _) from rfl) (CallsR.mono (closed_c hb0) ?_))
    rintro _ w1 ⟨rfl, e1⟩
    have zs_e1 := e1.size
    refine l_nil ?_
    refine n_then ?_
    refine c_cond rfl rfl (fun hc => ?_) (fun hc => ?_)
    · skip
      cases hc
    · skip
      refine c_skip ?_
      refine n_then ?_
      refine c_seq ?_
      refine c_seq ?_
      refine wp_reg (by decide +kernel) ?_
      refine l_v (v_move (t := .int _ _) rfl) ?_
      refine l_v (v_lss rfl rfl) ?_
      refine l_nil ?_
      refine n_then ?_
      refine c_cond rfl rfl (fun hc2 => ?_) (fun hc2 => ?_)
      · skip
        have := dtrue hc2; omega
      · skip
        refine c_skip ?_
        refine n_then ?_
        refine c_seq ?_
        refine wp_reg (by decide +kernel) ?_
        refine l_v (v_move (t := .pointer _) rfl) ?_
        refine l_v (v_nilCheck rfl) ?_
        refine l_v (v_fieldAddr (off := 0) (ft := 31) (by kernel_rfl) rfl) ?_
        refine l_v (v_load (by kernel_rfl) rfl ((hb0.ext e1).pv 0 _ rfl)) ?_
        refine l_v (v_build (pl := [(0, 1)]) (z := .agg #[.slice none 0 0]) (zl := [.slice none 0 0]) (by kernel_rfl) (by unfold kZero; kernel_rfl) rfl rfl (cells := [_]) rfl) ?_
        refine l_to (to_box (show _ = (Value.agg _) from rfl) ?_)
        rintro b2 w2 rfl hb2 e2 z2
        have zs_e2 := e2.size
        have e12 := e1.trans e2
        refine l_v (v_assign (t := .pointer _) rfl) ?_
        refine l_nil ?_
        refine n_then ?_
        refine c_seq ?_
        refine wp_reg (by decide +kernel) ?_
        refine l_v (v_move (t := .pointer _) rfl) ?_
        refine l_to (to_f1 (by kernel_rfl) (show _ = (Value.pointer _) from rfl) (CallsR.mono (rNumber_c (b := w1.heap.size) (l := l) (F := F) ⟨a, c, hb2, hv.ext e12⟩ (fun h => by have := hF _ h; omega)) ?_))
        rintro r w3 ⟨hr3, h3, k3⟩
        have zs_k3 := k3.size
        rw [numV, hd, ← her] at hr3
        subst hr3
        have e3 : Ext w w3 := e12.step k3 fun i hi h => by omega
        refine l_v (v_move (t := .tuple _) rfl) ?_
        refine l_v (v_extract (t := .int _ _) rfl rfl) ?_
        refine l_v (v_extract (t := .int _ _) rfl rfl) ?_
        refine l_v (v_assign (t := .int _ _) rfl) ?_
        refine l_v (v_assign (t := .int _ _) rfl) ?_
        refine l_nil ?_
        refine n_then ?_
        refine c_seq ?_
        refine c_seq ?_
        refine wp_reg (by decide +kernel) ?_
        refine l_v (v_move (t := .int _ _) rfl) ?_
        refine l_v (v_eql rfl rfl) ?_
        refine l_v (v_move (t := .bool _) rfl) ?_
        refine l_g1 rfl rfl (fun hG => v_move (t := .int _ _) rfl) ?_
        refine l_g1 rfl rfl (fun hG => v_move (t := .int _ _) rfl) ?_
        refine l_g1 rfl rfl (fun hG => v_conv (ds := .int .i64) (by kernel_rfl) (by kernel_rfl) (gd hG rfl) (by first | exact wr_u64 (by omega) (by omega) | rfl)) ?_
        refine l_g1 rfl rfl (fun hG => v_gtr (gd hG rfl) (gd hG rfl)) ?_
        refine l_v (v_and rfl rfl) ?_
        refine l_nil ?_
        refine n_then ?_
        refine c_cond rfl rfl (fun hc3 => ?_) (fun hc3 => ?_)
        · skip
          simp at hc3; omega
        · skip
          refine c_skip ?_
          refine n_then ?_
          refine c_seq ?_
          refine c_seq ?_
          refine wp_reg (by decide +kernel) ?_
          refine l_v (v_move (t := .int _ _) rfl) ?_
          refine l_v (v_eql rfl rfl) ?_
          refine l_nil ?_
          refine n_then ?_
          refine c_cond rfl rfl (fun hc4 => ?_) (fun hc4 => ?_)
          · skip
            have := dtrue hc4; omega
          · skip
            refine c_skip ?_
            refine n_then ?_
            refine c_seq ?_
            refine c_seq ?_
            refine wp_reg (by decide +kernel) ?_
            refine l_v (v_move (t := .int _ _) rfl) ?_
            refine l_v (v_neq rfl rfl) ?_
            refine l_nil ?_
            refine n_then ?_
            refine c_cond rfl rfl (fun hc5 => ?_) (fun hc5 => ?_)
            · skip
              refine c_seq ?_
              refine wp_reg (by decide +kernel) ?_
              refine l_v (v_move (t := .slice _ _ _) rfl) ?_
              refine l_v (v_move (t := .int _ _) rfl) ?_
              refine l_v (v_assign (t := .slice _ _ _) rfl) ?_
              refine l_v (v_assign (t := .int _ _) rfl) ?_
              refine l_nil ?_
              refine n_then ?_
              refine c_ret ?_
              refine r_then ?_
              refine ret2 rfl (by decide) (by decide) ?_
              refine ⟨?_, e3.keep⟩
              rw [htr]
              exact ⟨by omega, rfl, ⟨a, c, hb0.ext e3, hv.ext e3⟩⟩
            · skip
              simp at hc5; omega
  · have hlt := rdNum_lt hd
    have hll : l'.length ≤ l.length := by obtain ⟨k, _, _, h⟩ := rdGo_suffix l 0 hd; rw [h, List.length_drop]; omega
    obtain ⟨z, hz⟩ : ∃ z : Int, z = 0 := ⟨0, rfl⟩
    by_cases hnm : (n : Int) ≤ most
    · have htr : tryRd ρ most.toNat l = ρ n l' := by rw [tryRd, hd]; simp only []; rw [if_pos (by omega)]
      cases hρ : ρ n l' with
      | error er =>
        refine enter 56 Try.func80 rfl rfl (by simp) ?_
        refine c_seq ?_
        refine wp_reg (by decide +kernel) ?_
        refine l_v (v_assign rfl) ?_
        refine l_v (v_assign rfl) ?_
        refine l_nil ?_
        refine n_then ?_
        refine c_seq ?_
        refine wp_reg (by decide +kernel) ?_
        refine l_v (v_assign rfl) ?_
        refine l_nil ?_
        refine n_then ?_
        refine c_seq ?_
        refine c_seq ?_
        refine wp_reg (by decide +kernel) ?_
        refine l_v (v_move (t := .pointer _) rfl) ?_
        refine l_to (to_f1 (by kernel_rfl) (show _ = (Value.pointer _) from rfl) (CallsR.mono (closed_c hb0) ?_))
        rintro _ w1 ⟨rfl, e1⟩
        have zs_e1 := e1.size
        refine l_nil ?_
        refine n_then ?_
        refine c_cond rfl rfl (fun hc => ?_) (fun hc => ?_)
        · skip
          cases hc
        · skip
          refine c_skip ?_
          refine n_then ?_
          refine c_seq ?_
          refine c_seq ?_
          refine wp_reg (by decide +kernel) ?_
          refine l_v (v_move (t := .int _ _) rfl) ?_
          refine l_v (v_lss rfl rfl) ?_
          refine l_nil ?_
          refine n_then ?_
          refine c_cond rfl rfl (fun hc2 => ?_) (fun hc2 => ?_)
          · skip
            have := dtrue hc2; omega
          · skip
            refine c_skip ?_
            refine n_then ?_
            refine c_seq ?_
            refine wp_reg (by decide +kernel) ?_
            refine l_v (v_move (t := .pointer _) rfl) ?_
            refine l_v (v_nilCheck rfl) ?_
            refine l_v (v_fieldAddr (off := 0) (ft := 31) (by kernel_rfl) rfl) ?_
            refine l_v (v_load (by kernel_rfl) rfl ((hb0.ext e1).pv 0 _ rfl)) ?_
            refine l_v (v_build (pl := [(0, 1)]) (z := .agg #[.slice none 0 0]) (zl := [.slice none 0 0]) (by kernel_rfl) (by unfold kZero; kernel_rfl) rfl rfl (cells := [_]) rfl) ?_
            refine l_to (to_box (show _ = (Value.agg _) from rfl) ?_)
            rintro b2 w2 rfl hb2 e2 z2
            have zs_e2 := e2.size
            have e12 := e1.trans e2
            refine l_v (v_assign (t := .pointer _) rfl) ?_
            refine l_nil ?_
            refine n_then ?_
            refine c_seq ?_
            refine wp_reg (by decide +kernel) ?_
            refine l_v (v_move (t := .pointer _) rfl) ?_
            refine l_to (to_f1 (by kernel_rfl) (show _ = (Value.pointer _) from rfl) (CallsR.mono (rNumber_c (b := w1.heap.size) (l := l) (F := F) ⟨a, c, hb2, hv.ext e12⟩ (fun h => by have := hF _ h; omega)) ?_))
            rintro r w3 ⟨hr3, h3, k3⟩
            have zs_k3 := k3.size
            rw [numV, hd] at hr3
            simp only [] at hr3
            rw [← hz] at hr3
            subst hr3
            have e3 : Ext w w3 := e12.step k3 fun i hi h => by omega
            have hrest : rest l = l' := by rw [rest, hd]
            rw [hrest] at h3
            refine l_v (v_move (t := .tuple _) rfl) ?_
            refine l_v (v_extract (t := .int _ _) rfl rfl) ?_
            refine l_v (v_extract (t := .int _ _) rfl rfl) ?_
            refine l_v (v_assign (t := .int _ _) rfl) ?_
            refine l_v (v_assign (t := .int _ _) rfl) ?_
            refine l_nil ?_
            refine n_then ?_
            refine c_seq ?_
            refine c_seq ?_
            refine wp_reg (by decide +kernel) ?_
            refine l_v (v_move (t := .int _ _) rfl) ?_
            refine l_v (v_eql rfl rfl) ?_
            refine l_v (v_move (t := .bool _) rfl) ?_
            refine l_g1 rfl rfl (fun hG => v_move (t := .int _ _) rfl) ?_
            refine l_g1 rfl rfl (fun hG => v_move (t := .int _ _) rfl) ?_
            refine l_g1 rfl rfl (fun hG => v_conv (ds := .int .i64) (by kernel_rfl) (by kernel_rfl) (gd hG rfl) (by first | exact wr_u64 (by omega) (by omega) | rfl)) ?_
            refine l_g1 rfl rfl (fun hG => v_gtr (gd hG rfl) (gd hG rfl)) ?_
            refine l_v (v_and rfl rfl) ?_
            refine l_nil ?_
            refine n_then ?_
            refine c_cond rfl rfl (fun hc3 => ?_) (fun hc3 => ?_)
            · skip
              simp at hc3; omega
            · skip
              refine c_skip ?_
              refine n_then ?_
              refine c_seq ?_
              refine c_seq ?_
              refine wp_reg (by decide +kernel) ?_
              refine l_v (v_move (t := .int _ _) rfl) ?_
              refine l_v (v_eql rfl rfl) ?_
              refine l_nil ?_
              refine n_then ?_
              refine c_cond rfl rfl (fun hc4 => ?_) (fun hc4 => ?_)
              · skip
                refine wp_reg (by decide +kernel) ?_
                refine l_v (v_move (t := .func _ _ _) rfl) ?_
                refine l_v (v_move (t := .pointer _) rfl) ?_
                refine l_v (v_move (t := .int _ _) rfl) ?_
                refine l_v (v_conv (ds := .int .u64) (by kernel_rfl) (by kernel_rfl) rfl (by first | exact wr_i64 (by omega) (by omega) | rfl)) ?_
                refine l_to (to_call2 hb rfl (show _ = (Value.pointer _) from rfl) (show _ = (Value.int _ _) from rfl) (CallsR.mono (hread w3 _ l' n e3 (by omega) h3 hll hnm) ?_))
                rintro r4 w4 ⟨hr4, k4⟩
                have zs_k4 := k4.size
                rw [hρ] at hr4
                obtain ⟨her, va, vn, vc, hr4⟩ := hr4
                subst hr4
                have e4 : Ext w w4 := e3.step k4 fun i hi h => by omega
                refine l_v (v_move (t := .tuple _) rfl) ?_
                refine l_v (v_extract (t := .slice _ _ _) rfl rfl) ?_
                refine l_v (v_extract (t := .int _ _) rfl rfl) ?_
                refine l_v (v_assign (t := .slice _ _ _) rfl) ?_
                refine l_v (v_assign (t := .int _ _) rfl) ?_
                refine l_nil ?_
                refine n_then ?_
                refine c_seq ?_
                refine c_seq ?_
                refine wp_reg (by decide +kernel) ?_
                refine l_v (v_move (t := .int _ _) rfl) ?_
                refine l_v (v_neq rfl rfl) ?_
                refine l_nil ?_
                refine n_then ?_
                refine c_cond rfl rfl (fun hc5 => ?_) (fun hc5 => ?_)
                · skip
                  refine c_seq ?_
                  refine wp_reg (by decide +kernel) ?_
                  refine l_v (v_move (t := .slice _ _ _) rfl) ?_
                  refine l_v (v_move (t := .int _ _) rfl) ?_
                  refine l_v (v_assign (t := .slice _ _ _) rfl) ?_
                  refine l_v (v_assign (t := .int _ _) rfl) ?_
                  refine l_nil ?_
                  refine n_then ?_
                  refine c_ret ?_
                  refine r_then ?_
                  refine ret2 rfl (by decide) (by decide) ?_
                  refine ⟨?_, e4.keep⟩
                  rw [htr, hρ]
                  exact ⟨her, rfl, ⟨a, c, hb0.ext e4, hv.ext e4⟩⟩
                · skip
                  simp at hc5; omega
              · skip
                have := dfalse hc4; omega
      | ok xl =>
        obtain ⟨x, l2⟩ := xl
        refine enter 56 Try.func80 rfl rfl (by simp) ?_
        refine c_seq ?_
        refine wp_reg (by decide +kernel) ?_
        refine l_v (v_assign rfl) ?_
        refine l_v (v_assign rfl) ?_
        refine l_nil ?_
        refine n_then ?_
        refine c_seq ?_
        refine wp_reg (by decide +kernel) ?_
        refine l_v (v_assign rfl) ?_
        refine l_nil ?_
        refine n_then ?_
        refine c_seq ?_
        refine c_seq ?_
        refine wp_reg (by decide +kernel) ?_
        refine l_v (v_move (t := .pointer _) rfl) ?_
        refine l_to (to_f1 (by kernel_rfl) (show _ = (Value.pointer _) from rfl) (CallsR.mono (closed_c hb0) ?_))
        rintro _ w1 ⟨rfl, e1⟩
        have zs_e1 := e1.size
        refine l_nil ?_
        refine n_then ?_
        refine c_cond rfl rfl (fun hc => ?_) (fun hc => ?_)
        · skip
          cases hc
        · skip
          refine c_skip ?_
          refine n_then ?_
          refine c_seq ?_
          refine c_seq ?_
          refine wp_reg (by decide +kernel) ?_
          refine l_v (v_move (t := .int _ _) rfl) ?_
          refine l_v (v_lss rfl rfl) ?_
          refine l_nil ?_
          refine n_then ?_
          refine c_cond rfl rfl (fun hc2 => ?_) (fun hc2 => ?_)
          · skip
            have := dtrue hc2; omega
          · skip
            refine c_skip ?_
            refine n_then ?_
            refine c_seq ?_
            refine wp_reg (by decide +kernel) ?_
            refine l_v (v_move (t := .pointer _) rfl) ?_
            refine l_v (v_nilCheck rfl) ?_
            refine l_v (v_fieldAddr (off := 0) (ft := 31) (by kernel_rfl) rfl) ?_
            refine l_v (v_load (by kernel_rfl) rfl ((hb0.ext e1).pv 0 _ rfl)) ?_
            refine l_v (v_build (pl := [(0, 1)]) (z := .agg #[.slice none 0 0]) (zl := [.slice none 0 0]) (by kernel_rfl) (by unfold kZero; kernel_rfl) rfl rfl (cells := [_]) rfl) ?_
            refine l_to (to_box (show _ = (Value.agg _) from rfl) ?_)
            rintro b2 w2 rfl hb2 e2 z2
            have zs_e2 := e2.size
            have e12 := e1.trans e2
            refine l_v (v_assign (t := .pointer _) rfl) ?_
            refine l_nil ?_
            refine n_then ?_
            refine c_seq ?_
            refine wp_reg (by decide +kernel) ?_
            refine l_v (v_move (t := .pointer _) rfl) ?_
            refine l_to (to_f1 (by kernel_rfl) (show _ = (Value.pointer _) from rfl) (CallsR.mono (rNumber_c (b := w1.heap.size) (l := l) (F := F) ⟨a, c, hb2, hv.ext e12⟩ (fun h => by have := hF _ h; omega)) ?_))
            rintro r w3 ⟨hr3, h3, k3⟩
            have zs_k3 := k3.size
            rw [numV, hd] at hr3
            simp only [] at hr3
            rw [← hz] at hr3
            subst hr3
            have e3 : Ext w w3 := e12.step k3 fun i hi h => by omega
            have hrest : rest l = l' := by rw [rest, hd]
            rw [hrest] at h3
            refine l_v (v_move (t := .tuple _) rfl) ?_
            refine l_v (v_extract (t := .int _ _) rfl rfl) ?_
            refine l_v (v_extract (t := .int _ _) rfl rfl) ?_
            refine l_v (v_assign (t := .int _ _) rfl) ?_
            refine l_v (v_assign (t := .int _ _) rfl) ?_
            refine l_nil ?_
            refine n_then ?_
            refine c_seq ?_
            refine c_seq ?_
            refine wp_reg (by decide +kernel) ?_
            refine l_v (v_move (t := .int _ _) rfl) ?_
            refine l_v (v_eql rfl rfl) ?_
            refine l_v (v_move (t := .bool _) rfl) ?_
            refine l_g1 rfl rfl (fun hG => v_move (t := .int _ _) rfl) ?_
            refine l_g1 rfl rfl (fun hG => v_move (t := .int _ _) rfl) ?_
            refine l_g1 rfl rfl (fun hG => v_conv (ds := .int .i64) (by kernel_rfl) (by kernel_rfl) (gd hG rfl) (by first | exact wr_u64 (by omega) (by omega) | rfl)) ?_
            refine l_g1 rfl rfl (fun hG => v_gtr (gd hG rfl) (gd hG rfl)) ?_
            refine l_v (v_and rfl rfl) ?_
            refine l_nil ?_
            refine n_then ?_
            refine c_cond rfl rfl (fun hc3 => ?_) (fun hc3 => ?_)
            · skip
              simp at hc3; omega
            · skip
              refine c_skip ?_
              refine n_then ?_
              refine c_seq ?_
              refine c_seq ?_
              refine wp_reg (by decide +kernel) ?_
              refine l_v (v_move (t := .int _ _) rfl) ?_
              refine l_v (v_eql rfl rfl) ?_
              refine l_nil ?_
              refine n_then ?_
              refine c_cond rfl rfl (fun hc4 => ?_) (fun hc4 => ?_)
              · skip
                refine wp_reg (by decide +kernel) ?_
                refine l_v (v_move (t := .func _ _ _) rfl) ?_
                refine l_v (v_move (t := .pointer _) rfl) ?_
                refine l_v (v_move (t := .int _ _) rfl) ?_
                refine l_v (v_conv (ds := .int .u64) (by kernel_rfl) (by kernel_rfl) rfl (by first | exact wr_i64 (by omega) (by omega) | rfl)) ?_
                refine l_to (to_call2 hb rfl (show _ = (Value.pointer _) from rfl) (show _ = (Value.int _ _) from rfl) (CallsR.mono (hread w3 _ l' n e3 (by omega) h3 hll hnm) ?_))
                rintro r4 w4 ⟨hr4, k4⟩
                have zs_k4 := k4.size
                rw [hρ] at hr4
                obtain ⟨a4, c4, hr4, hx4, a5, c5, hb5, hv5⟩ := hr4
                subst hr4
                have e4 : Ext w w4 := e3.step k4 fun i hi h => by omega
                refine l_v (v_move (t := .tuple _) rfl) ?_
                refine l_v (v_extract (t := .slice _ _ _) rfl rfl) ?_
                refine l_v (v_extract (t := .int _ _) rfl rfl) ?_
                refine l_v (v_assign (t := .slice _ _ _) rfl) ?_
                refine l_v (v_assign (t := .int _ _) rfl) ?_
                refine l_nil ?_
                refine n_then ?_
                refine c_seq ?_
                refine c_seq ?_
                refine wp_reg (by decide +kernel) ?_
                refine l_v (v_move (t := .int _ _) rfl) ?_
                refine l_v (v_neq rfl rfl) ?_
                refine l_nil ?_
                refine n_then ?_
                refine c_cond rfl rfl (fun hc5 => ?_) (fun hc5 => ?_)
                · skip
                  simp at hc5
                · skip
                  refine c_skip ?_
                  refine n_then ?_
                  refine c_seq ?_
                  refine wp_reg (by decide +kernel) ?_
                  refine l_v (v_move (t := .pointer _) rfl) ?_
                  refine l_v (v_move (t := .pointer _) rfl) ?_
                  refine l_v (v_nilCheck rfl) ?_
                  refine l_v (v_loadA (by kernel_rfl) rfl hb5.pv rfl) ?_
                  refine l_v (v_nilCheck rfl) ?_
                  refine l_to (to_storeA (n := 1) rfl rfl (show _ = (Value.agg _) from rfl) (by kernel_rfl) rfl (by first | (simp [slice_one]; done) | (simp only [List.forall_mem_cons, List.cons_append, List.nil_append]; repeat' (first | exact rfl | apply And.intro | (intro u hu; cases hu; done)))) (hb0.ext e4) (by first | exact of_decide_eq_true rfl | (simp; done) | decide | (simp only [List.length_set, hlen]; exact of_decide_eq_true rfl)) ?_)
                  rintro w5 h5 k5 z5
                  have zs_k5 := k5.size
                  refine l_nil ?_
                  refine n_then ?_
                  refine c_seq ?_
                  refine wp_reg (by decide +kernel) ?_
                  refine l_v (v_move (t := .slice _ _ _) rfl) ?_
                  refine l_v (v_assign (t := .slice _ _ _) rfl) ?_
                  refine l_v (v_assign rfl) ?_
                  refine l_nil ?_
                  refine n_then ?_
                  refine c_ret ?_
                  refine ret2 rfl (by decide) (by decide) ?_
                  refine ⟨?_, e4.keep.trans k5⟩
                  rw [htr, hρ]
                  refine ⟨_, _, rfl, (hx4.base (by omega)).mono (F' := fun k => w.heap.size ≤ k) (fun i _ hi => by omega) |>.keep k5 (fun i hi h => ?_) (fun i _ hi _ h => by omega), a5, c5, h5, hv5.keep k5 fun i _ hi h => hnF (by subst h; exact hi)⟩
                  have := (hx4.own_lt hi).1
                  omega
              · skip
                have := dfalse hc4; omega
    · have htr : tryRd ρ most.toNat l = .error 3 := by rw [tryRd, hd]; simp only []; rw [if_neg (by omega)]
      refine enter 56 Try.func80 rfl rfl (by simp) ?_
      refine c_seq ?_
      refine wp_reg (by decide +kernel) ?_
      refine l_v (v_assign rfl) ?_
      refine l_v (v_assign rfl) ?_
      refine l_nil ?_
      refine n_then ?_
      refine c_seq ?_
      refine wp_reg (by decide +kernel) ?_
      refine l_v (v_assign rfl) ?_
      refine l_nil ?_
      refine n_then ?_
      refine c_seq ?_
      refine c_seq ?_
      refine wp_reg (by decide +kernel) ?_
      refine l_v (v_move (t := .pointer _) rfl) ?_
      refine l_to (to_f1 (by kernel_rfl) (show _ = (Value.pointer _) from rfl) (CallsR.mono (closed_c hb0) ?_))
      rintro _ w1 ⟨rfl, e1⟩
      have zs_e1 := e1.size
      refine l_nil ?_
      refine n_then ?_
      refine c_cond rfl rfl (fun hc => ?_) (fun hc => ?_)
      · skip
        cases hc
      · skip
        refine c_skip ?_
        refine n_then ?_
        refine c_seq ?_
        refine c_seq ?_
        refine wp_reg (by decide +kernel) ?_
        refine l_v (v_move (t := .int _ _) rfl) ?_
        refine l_v (v_lss rfl rfl) ?_
        refine l_nil ?_
        refine n_then ?_
        refine c_cond rfl rfl (fun hc2 => ?_) (fun hc2 => ?_)
        · skip
          have := dtrue hc2; omega
        · skip
          refine c_skip ?_
          refine n_then ?_
          refine c_seq ?_
          refine wp_reg (by decide +kernel) ?_
          refine l_v (v_move (t := .pointer _) rfl) ?_
          refine l_v (v_nilCheck rfl) ?_
          refine l_v (v_fieldAddr (off := 0) (ft := 31) (by kernel_rfl) rfl) ?_
          refine l_v (v_load (by kernel_rfl) rfl ((hb0.ext e1).pv 0 _ rfl)) ?_
          refine l_v (v_build (pl := [(0, 1)]) (z := .agg #[.slice none 0 0]) (zl := [.slice none 0 0]) (by kernel_rfl) (by unfold kZero; kernel_rfl) rfl rfl (cells := [_]) rfl) ?_
          refine l_to (to_box (show _ = (Value.agg _) from rfl) ?_)
          rintro b2 w2 rfl hb2 e2 z2
          have zs_e2 := e2.size
          have e12 := e1.trans e2
          refine l_v (v_assign (t := .pointer _) rfl) ?_
          refine l_nil ?_
          refine n_then ?_
          refine c_seq ?_
          refine wp_reg (by decide +kernel) ?_
          refine l_v (v_move (t := .pointer _) rfl) ?_
          refine l_to (to_f1 (by kernel_rfl) (show _ = (Value.pointer _) from rfl) (CallsR.mono (rNumber_c (b := w1.heap.size) (l := l) (F := F) ⟨a, c, hb2, hv.ext e12⟩ (fun h => by have := hF _ h; omega)) ?_))
          rintro r w3 ⟨hr3, h3, k3⟩
          have zs_k3 := k3.size
          rw [numV, hd] at hr3
          simp only [] at hr3
          rw [← hz] at hr3
          subst hr3
          have e3 : Ext w w3 := e12.step k3 fun i hi h => by omega
          refine l_v (v_move (t := .tuple _) rfl) ?_
          refine l_v (v_extract (t := .int _ _) rfl rfl) ?_
          refine l_v (v_extract (t := .int _ _) rfl rfl) ?_
          refine l_v (v_assign (t := .int _ _) rfl) ?_
          refine l_v (v_assign (t := .int _ _) rfl) ?_
          refine l_nil ?_
          refine n_then ?_
          refine c_seq ?_
          refine c_seq ?_
          refine wp_reg (by decide +kernel) ?_
          refine l_v (v_move (t := .int _ _) rfl) ?_
          refine l_v (v_eql rfl rfl) ?_
          refine l_v (v_move (t := .bool _) rfl) ?_
          refine l_g1 rfl rfl (fun hG => v_move (t := .int _ _) rfl) ?_
          refine l_g1 rfl rfl (fun hG => v_move (t := .int _ _) rfl) ?_
          refine l_g1 rfl rfl (fun hG => v_conv (ds := .int .i64) (by kernel_rfl) (by kernel_rfl) (gd hG rfl) (by first | exact wr_u64 (by omega) (by omega) | rfl)) ?_
          refine l_g1 rfl rfl (fun hG => v_gtr (gd hG rfl) (gd hG rfl)) ?_
          refine l_v (v_and rfl rfl) ?_
          refine l_nil ?_
          refine n_then ?_
          refine c_cond rfl rfl (fun hc3 => ?_) (fun hc3 => ?_)
          · skip
            refine wp_reg (by decide +kernel) ?_
            refine l_v (v_assign rfl) ?_
            refine l_nil ?_
            refine n_then ?_
            refine c_seq ?_
            refine c_seq ?_
            refine wp_reg (by decide +kernel) ?_
            refine l_v (v_move (t := .int _ _) rfl) ?_
            refine l_v (v_eql rfl rfl) ?_
            refine l_nil ?_
            refine n_then ?_
            refine c_cond rfl rfl (fun hc4 => ?_) (fun hc4 => ?_)
            · skip
              have := dtrue hc4; omega
            · skip
              refine c_skip ?_
              refine n_then ?_
              refine c_seq ?_
              refine c_seq ?_
              refine wp_reg (by decide +kernel) ?_
              refine l_v (v_move (t := .int _ _) rfl) ?_
              refine l_v (v_neq rfl rfl) ?_
              refine l_nil ?_
              refine n_then ?_
              refine c_cond rfl rfl (fun hc5 => ?_) (fun hc5 => ?_)
              · skip
                refine c_seq ?_
                refine wp_reg (by decide +kernel) ?_
                refine l_v (v_move (t := .slice _ _ _) rfl) ?_
                refine l_v (v_move (t := .int _ _) rfl) ?_
                refine l_v (v_assign (t := .slice _ _ _) rfl) ?_
                refine l_v (v_assign (t := .int _ _) rfl) ?_
                refine l_nil ?_
                refine n_then ?_
                refine c_ret ?_
                refine r_then ?_
                refine ret2 rfl (by decide) (by decide) ?_
                refine ⟨?_, e3.keep⟩
                rw [htr]
                exact ⟨by omega, rfl, ⟨a, c, hb0.ext e3, hv.ext e3⟩⟩
              · skip
                simp at hc5
          · skip
            simp at hc3; omega


theorem takePr_c {w : World} {b : Nat} {F : Nat → Prop} {l : List UInt8} {most : Int} {fr : Nat} {cap : Array Value} (hr : Rd nRd w b F l) (hF : ∀ k, F k → k < b) (hm : 0 ≤ most) (hm2 : most ≤ 9223372036854775807) (hl : l.length ≤ 1000000000000) (hb : kBody Try.prog fr = true)
    (ρ : List UInt8 → Except Int (PrV × List UInt8)) (hρ : ∀ l x l2, ρ l = .ok (x, l2) → l2.length < l.length)
    (hone : ∀ (w1 : World) (c : Nat) (l1 : List UInt8), Ext w w1 → w.heap.size ≤ c → Rd nRd w1 c F l1 → l1.length ≤ l.length → CallsR Try.prog fr (#[.pointer (some ⟨c, 0, none⟩)] ++ cap) w1 (fun r w2 => OneVPr w1 w2 c F (ρ l1) r ∧ Keep (fun k => k = c) w1 w2)) :
    CallsR Try.prog 73 #[.pointer (some ⟨b, 0, none⟩), .int .i64 most, .func (.func fr) #[] cap] w (fun r w' => TryV (tPr) 61 nRd w w' b F l (tryRd (rdList ρ) most.toNat l) r ∧ Keep (fun k => k = b) w w') := by
  have hblt : b < w.heap.size := by obtain ⟨_, _, h, _⟩ := hr; exact h.lt
  cases hq : tryRd (rdList ρ) most.toNat l with
  | error er =>
    refine enter 16 Try.func73 rfl rfl (by simp) ?_
    refine c_seq ?_
    refine wp_reg (by decide +kernel) ?_
    refine l_to (to_box (show _ = (Value.func _ _ _) from rfl) ?_)
    rintro b1 w1 rfl hb1 e1 z1
    have zs_e1 := e1.size
    refine l_v (v_assign rfl) ?_
    refine l_v (v_assign rfl) ?_
    refine l_nil ?_
    refine n_then ?_
    refine c_seq ?_
    refine c_seq ?_
    refine wp_reg (by decide +kernel) ?_
    refine l_v (v_load (by kernel_rfl) rfl (hb1.pv 0 _ rfl)) ?_
    refine l_v (v_feqlnil (ps := #[97]) (rs := #[61, 29]) (v := false) (by kernel_rfl) rfl rfl) ?_
    refine l_nil ?_
    refine n_then ?_
    refine c_cond rfl rfl (fun hc => ?_) (fun hc => ?_)
    · skip
      cases hc
    · skip
      refine c_skip ?_
      refine n_then ?_
      refine c_seq ?_
      refine wp_reg (by decide +kernel) ?_
      refine l_v (v_move (t := .pointer _) rfl) ?_
      refine l_v (v_move (t := .int _ _) rfl) ?_
      refine l_v (v_makeFunc (by simp [ev]; rfl) (by simp [ev]; rfl)) ?_
      refine l_to (to_f3 (by kernel_rfl) (show _ = (Value.pointer _) from rfl) (show _ = (Value.int _ _) from rfl) (show _ = (Value.func _ _ _) from rfl) (CallsR.mono (tryPr_c (cap := #[.pointer (some ⟨w.heap.size, 0, none⟩)]) (hr.ext e1) hF hm hm2 (by kernel_rfl) (rdList ρ) (fun w2 c l1 n e2 hc1 hr1 hl1 hn1 => by simpa using takeInPr_c hr1 (fun k hk => by have := hF k hk; have := e2.size; omega) (fun h => by have := hF _ h; omega) (by omega) (by omega) hb (hb1.ext e2) (by omega) ρ hρ (fun w3 l3 k3 hr3 hl3 => hone w3 c l3 ((e1.trans e2).step k3 (fun i hi h => by omega)) (by omega) hr3 (by omega)))) ?_))
      rintro r w2 ⟨h2, k2⟩
      have zs_k2 := k2.size
      rw [hq] at h2
      obtain ⟨her, rfl, h3⟩ := h2
      refine l_v (v_extract (t := .slice _ _ _) rfl rfl) ?_
      refine l_v (v_extract (t := .int _ _) rfl rfl) ?_
      refine l_v (v_assign (t := .slice _ _ _) rfl) ?_
      refine l_v (v_assign (t := .int _ _) rfl) ?_
      refine l_nil ?_
      refine n_then ?_
      refine c_ret ?_
      refine ret2 rfl (by decide) (by decide) ?_
      exact ⟨⟨her, rfl, h3⟩, (e1.mono fun _ _ h => h.elim).trans k2⟩
  | ok xl =>
    obtain ⟨x, l2⟩ := xl
    refine enter 16 Try.func73 rfl rfl (by simp) ?_
    refine c_seq ?_
    refine wp_reg (by decide +kernel) ?_
    refine l_to (to_box (show _ = (Value.func _ _ _) from rfl) ?_)
    rintro b1 w1 rfl hb1 e1 z1
    have zs_e1 := e1.size
    refine l_v (v_assign rfl) ?_
    refine l_v (v_assign rfl) ?_
    refine l_nil ?_
    refine n_then ?_
    refine c_seq ?_
    refine c_seq ?_
    refine wp_reg (by decide +kernel) ?_
    refine l_v (v_load (by kernel_rfl) rfl (hb1.pv 0 _ rfl)) ?_
    refine l_v (v_feqlnil (ps := #[97]) (rs := #[61, 29]) (v := false) (by kernel_rfl) rfl rfl) ?_
    refine l_nil ?_
    refine n_then ?_
    refine c_cond rfl rfl (fun hc => ?_) (fun hc => ?_)
    · skip
      cases hc
    · skip
      refine c_skip ?_
      refine n_then ?_
      refine c_seq ?_
      refine wp_reg (by decide +kernel) ?_
      refine l_v (v_move (t := .pointer _) rfl) ?_
      refine l_v (v_move (t := .int _ _) rfl) ?_
      refine l_v (v_makeFunc (by simp [ev]; rfl) (by simp [ev]; rfl)) ?_
      refine l_to (to_f3 (by kernel_rfl) (show _ = (Value.pointer _) from rfl) (show _ = (Value.int _ _) from rfl) (show _ = (Value.func _ _ _) from rfl) (CallsR.mono (tryPr_c (cap := #[.pointer (some ⟨w.heap.size, 0, none⟩)]) (hr.ext e1) hF hm hm2 (by kernel_rfl) (rdList ρ) (fun w2 c l1 n e2 hc1 hr1 hl1 hn1 => by simpa using takeInPr_c hr1 (fun k hk => by have := hF k hk; have := e2.size; omega) (fun h => by have := hF _ h; omega) (by omega) (by omega) hb (hb1.ext e2) (by omega) ρ hρ (fun w3 l3 k3 hr3 hl3 => hone w3 c l3 ((e1.trans e2).step k3 (fun i hi h => by omega)) (by omega) hr3 (by omega)))) ?_))
      rintro r w2 ⟨h2, k2⟩
      have zs_k2 := k2.size
      rw [hq] at h2
      obtain ⟨a4, c4, rfl, o4, h4⟩ := h2
      refine l_v (v_extract (t := .slice _ _ _) rfl rfl) ?_
      refine l_v (v_extract (t := .int _ _) rfl rfl) ?_
      refine l_v (v_assign (t := .slice _ _ _) rfl) ?_
      refine l_v (v_assign (t := .int _ _) rfl) ?_
      refine l_nil ?_
      refine n_then ?_
      refine c_ret ?_
      refine ret2 rfl (by decide) (by decide) ?_
      exact ⟨⟨a4, c4, rfl, (o4.base (by omega)).mono (fun i _ h => by omega), h4⟩, (e1.mono fun _ _ h => h.elim).trans k2⟩

end Go.Proofs.Ytlhanmlpionomaa

namespace Go.Proofs.Ytlhanmlpionomaa
open Go.Vc
set_option linter.unusedVariables false
set_option linter.unusedSimpArgs false
set_option maxRecDepth 100000

theorem onePr_c {w : World} {b : Nat} {F : Nat → Prop} {l : List UInt8} (HR : Rd nRd w b F l) (hF : ∀ k, F k → k < b) (hl : l.length ≤ 1000000) : CallsR Try.prog 74 (#[.pointer (some ⟨b, 0, none⟩)] ++ #[]) w (fun r w2 => OneVPr w w2 b F (rdPr l) r ∧ Keep (fun k => k = b) w w2) := by
  have hblt : b < w.heap.size := by obtain ⟨_, _, h, _⟩ := HR; exact h.lt
  have hnF : ¬ F b := fun h => absurd (hF b h) (Nat.lt_irrefl b)
  show CallsR _ _ #[_] _ _
  refine enter 28 Try.func74 rfl rfl (by simp) ?_
  refine c_seq ?_
  have E := Keep.refl (K := fun k => k = b) w
  refine wp_reg (by decide +kernel) ?_
  refine l_to (to_alloc (z := (.agg #[.slice none 0 0, .slice none 0 0])) (by unfold kZero; kernel_rfl) ?_)
  rintro b2 w2 zb2 HB2 e2 z2
  have zs_e2 := e2.size
  replace E := E.trans (Ext.keep e2)
  replace HR := HR.ext e2
  try simp only [Value.cells] at HB2
  refine l_v (v_assign rfl) ?_
  refine l_nil ?_
  refine n_then ?_
  refine c_seq ?_
  refine wp_reg (by decide +kernel) ?_
  refine l_v (v_move (t := .pointer _) rfl) ?_
  refine l_to (to_f2 (by kernel_rfl) (show _ = (Value.pointer _) from rfl) (show _ = (Value.int _ _) from rfl) (CallsR.mono (Bytes2_c (most := 24) HR hF (by decide) (by decide) (by omega)) ?_))
  rintro r w3 ⟨hr3, k3⟩
  have zs_k3 := k3.size
  obtain ⟨a3, c3, er3, fr, l1, rfl, HO3, HR3, hx3⟩ := TryV_any hr3
  have hl1 : l1.length ≤ l.length := by
    rcases hx3 with ⟨_, hq⟩ | ⟨_, _, h, _⟩
    · exact (rdBytes_le (m := 24) hq).1
    · rw [h]; omega
  replace E := E.step k3 (by intro i hi he; (try dsimp only [NoK] at hi he ⊢); first | exact he.elim | omega | exact he)
  replace HB2 := HB2.keep k3 (by intro h; (try dsimp only at h); first | omega)
  have zo_HO3 := fun (b : Nat) h => HO3.own_lt (b := b) h
  refine l_v (v_move (t := .tuple _) rfl) ?_
  refine l_v (v_extract (t := .slice _ _ _) rfl rfl) ?_
  refine l_v (v_extract (t := .int _ _) rfl rfl) ?_
  refine l_v (v_assign (t := .slice _ _ _) rfl) ?_
  refine l_v (v_assign (t := .int _ _) rfl) ?_
  refine l_nil ?_
  refine n_then ?_
  refine c_seq ?_
  refine wp_reg (by decide +kernel) ?_
  refine l_v (v_move (t := .pointer _) rfl) ?_
  refine l_to (to_f2 (by kernel_rfl) (show _ = (Value.pointer _) from rfl) (show _ = (Value.int _ _) from rfl) (CallsR.mono (Bytes2_c (most := 40) HR3 hF (by decide) (by decide) (by omega)) ?_))
  rintro r w4 ⟨hr4, k4⟩
  have zs_k4 := k4.size
  obtain ⟨a4, c4, er4, fv, l2, rfl, HO4, HR4, hx4⟩ := TryV_any hr4
  replace E := E.step k4 (by intro i hi he; (try dsimp only [NoK] at hi he ⊢); first | exact he.elim | omega | exact he)
  replace HB2 := HB2.keep k4 (by intro h; (try dsimp only at h); first | omega)
  replace HO3 := HO3.keep k4 (by intro i ho he; have he0 := he; have ho0 := ho; (try dsimp only [NoK] at he); (try simp only [Value.ownBlock, Option.some.injEq, reduceCtorEq] at ho); (try simp only [Value.ownBlock, Option.some.injEq, reduceCtorEq] at he); first | exact he.elim | exact ho.elim | omega | (have := zo_HO3 _ ho0; omega)) (by intro i _ hi _ he; have he0 := he; have hi := hi; have he := he; (try dsimp only [NoK, AllB] at hi he); (try simp only [Value.ownBlock, Option.some.injEq, reduceCtorEq] at he); all_goals first | exact hi.elim | exact hi.1.elim | exact he.elim | omega | (rcases hi with hi | hi <;> omega) | (rcases he with he | he <;> omega))
  have zo_HO4 := fun (b : Nat) h => HO4.own_lt (b := b) h
  refine l_v (v_move (t := .tuple _) rfl) ?_
  refine l_v (v_extract (t := .slice _ _ _) rfl rfl) ?_
  refine l_v (v_extract (t := .int _ _) rfl rfl) ?_
  refine l_v (v_assign (t := .slice _ _ _) rfl) ?_
  refine l_v (v_assign (t := .int _ _) rfl) ?_
  refine l_nil ?_
  refine n_then ?_
  refine c_seq ?_
  refine c_seq ?_
  refine wp_reg (by decide +kernel) ?_
  refine l_v (v_move (t := .int _ _) rfl) ?_
  refine l_v (v_neq rfl rfl) ?_
  refine l_v (v_move (t := .bool _) rfl) ?_
  refine l_g1 rfl rfl (fun hG => v_move (t := .int _ _) rfl) ?_
  refine l_g1 rfl rfl (fun hG => v_neq (gd hG rfl) rfl) ?_
  refine l_v (v_or rfl rfl) ?_
  refine l_nil ?_
  refine n_then ?_
  refine c_cond rfl rfl (fun hc => ?_) (fun hc => ?_)
  · skip
    refine c_seq ?_
    refine wp_reg (by decide +kernel) ?_
    refine l_v (v_build (pl := [(0, 1), (1, 1)]) (z := .agg #[.slice none 0 0, .slice none 0 0]) (zl := [.slice none 0 0, .slice none 0 0]) (by kernel_rfl) (by unfold kZero; kernel_rfl) rfl rfl (cells := [_, _]) rfl) ?_
    refine l_to (to_storeA (n := 2) rfl rfl (show _ = (Value.agg _) from rfl) (by kernel_rfl) rfl (by first | (simp [slice_one]; done) | (simp only [List.forall_mem_cons, List.cons_append, List.nil_append]; repeat' (first | exact rfl | apply And.intro | (intro u hu; cases hu; done)))) HB2 (by first | exact of_decide_eq_true rfl | (simp; done) | decide | (simp only [List.length_set, hlen]; exact of_decide_eq_true rfl)) ?_)
    rintro w101 HX101 k101 z101
    have zs_k101 := k101.size
    replace E := E.step k101 (by intro i hi he; (try dsimp only [NoK] at hi he ⊢); first | exact he.elim | omega | exact he)
    replace HO3 := HO3.keep k101 (by intro i ho he; have he0 := he; have ho0 := ho; (try dsimp only [NoK] at he); (try simp only [Value.ownBlock, Option.some.injEq, reduceCtorEq] at ho); (try simp only [Value.ownBlock, Option.some.injEq, reduceCtorEq] at he); first | exact he.elim | exact ho.elim | omega | (have := zo_HO3 _ ho0; omega)) (by intro i _ hi _ he; have he0 := he; have hi := hi; have he := he; (try dsimp only [NoK, AllB] at hi he); (try simp only [Value.ownBlock, Option.some.injEq, reduceCtorEq] at he); all_goals first | exact hi.elim | exact hi.1.elim | exact he.elim | omega | (rcases hi with hi | hi <;> omega) | (rcases he with he | he <;> omega))
    replace HO4 := HO4.keep k101 (by intro i ho he; have he0 := he; have ho0 := ho; (try dsimp only [NoK] at he); (try simp only [Value.ownBlock, Option.some.injEq, reduceCtorEq] at ho); (try simp only [Value.ownBlock, Option.some.injEq, reduceCtorEq] at he); first | exact he.elim | exact ho.elim | omega | (have := zo_HO4 _ ho0; omega)) (by intro i _ hi _ he; have he0 := he; have hi := hi; have he := he; (try dsimp only [NoK, AllB] at hi he); (try simp only [Value.ownBlock, Option.some.injEq, reduceCtorEq] at he); all_goals first | exact hi.elim | exact hi.1.elim | exact he.elim | omega | (rcases hi with hi | hi <;> omega) | (rcases he with he | he <;> omega))
    replace HR4 := HR4.keep k101 (by intro h; have h := h; (try dsimp only [NoK] at h); first | exact h | omega | (rcases h with h | h <;> omega)) (by intro i hi he; have hi0 := hi; have hi := hi; have he := he; (try dsimp only [NoK] at hi he); first | exact he.elim | omega | (have := hF i hi0; omega))
    replace HB2 := HX101
    clear HX101
    try simp only [List.set_cons_zero, List.set_cons_succ, setAt, List.take_zero, List.take_succ_cons, List.drop_zero, List.drop_succ_cons, List.nil_append, List.cons_append, List.append_nil, List.length_cons, List.length_nil, Nat.zero_add, Nat.reduceAdd, List.drop_nil] at HB2
    refine l_v (v_assign rfl) ?_
    refine l_nil ?_
    refine n_then ?_
    refine c_ret ?_
    refine r_then ?_
    refine ret2cv (n := 2) rfl (by decide) (by decide) rfl (by kernel_rfl) HB2.pv rfl (show _ = (Value.int _ _) from rfl) ?_
    refine ⟨?_, E⟩
    have h : rdPr l = .error 4 := by
      rw [rdPr]
      rcases hx3 with ⟨he, hq⟩ | ⟨_, _, _, _, _, hq⟩
      · rw [show rdBytes 24 l = _ from hq]
        rcases hx4 with ⟨he4, hq4⟩ | ⟨_, _, _, _, _, hq4⟩
        · subst he; subst he4; simp at hc
        · simp only [show rdBytes 40 l1 = _ from hq4]
      · rw [show rdBytes 24 l = _ from hq]
    rw [h]
    exact ⟨by decide, _, ([], []), rfl, tPr_mk (SlV.nil _ _ _) (SlV.nil _ _ _)⟩
  · skip
    refine c_skip ?_
    refine n_then ?_
    refine c_seq ?_
    refine wp_reg (by decide +kernel) ?_
    refine l_v (v_move (t := .slice _ _ _) rfl) ?_
    refine l_v (v_move (t := .slice _ _ _) rfl) ?_
    refine l_v (v_build (pl := [(0, 1), (1, 1)]) (z := .agg #[.slice none 0 0, .slice none 0 0]) (zl := [.slice none 0 0, .slice none 0 0]) (by kernel_rfl) (by unfold kZero; kernel_rfl) rfl rfl (cells := [_, _]) rfl) ?_
    refine l_to (to_storeA (n := 2) rfl rfl (show _ = (Value.agg _) from rfl) (by kernel_rfl) rfl (by first | (simp [slice_one]; done) | (simp only [List.forall_mem_cons, List.cons_append, List.nil_append]; repeat' (first | exact rfl | apply And.intro | (intro u hu; cases hu; done)))) HB2 (by first | exact of_decide_eq_true rfl | (simp; done) | decide | (simp only [List.length_set, hlen]; exact of_decide_eq_true rfl)) ?_)
    rintro w102 HX102 k102 z102
    have zs_k102 := k102.size
    replace E := E.step k102 (by intro i hi he; (try dsimp only [NoK] at hi he ⊢); first | exact he.elim | omega | exact he)
    replace HO3 := HO3.keep k102 (by intro i ho he; have he0 := he; have ho0 := ho; (try dsimp only [NoK] at he); (try simp only [Value.ownBlock, Option.some.injEq, reduceCtorEq] at ho); (try simp only [Value.ownBlock, Option.some.injEq, reduceCtorEq] at he); first | exact he.elim | exact ho.elim | omega | (have := zo_HO3 _ ho0; omega)) (by intro i _ hi _ he; have he0 := he; have hi := hi; have he := he; (try dsimp only [NoK, AllB] at hi he); (try simp only [Value.ownBlock, Option.some.injEq, reduceCtorEq] at he); all_goals first | exact hi.elim | exact hi.1.elim | exact he.elim | omega | (rcases hi with hi | hi <;> omega) | (rcases he with he | he <;> omega))
    replace HO4 := HO4.keep k102 (by intro i ho he; have he0 := he; have ho0 := ho; (try dsimp only [NoK] at he); (try simp only [Value.ownBlock, Option.some.injEq, reduceCtorEq] at ho); (try simp only [Value.ownBlock, Option.some.injEq, reduceCtorEq] at he); first | exact he.elim | exact ho.elim | omega | (have := zo_HO4 _ ho0; omega)) (by intro i _ hi _ he; have he0 := he; have hi := hi; have he := he; (try dsimp only [NoK, AllB] at hi he); (try simp only [Value.ownBlock, Option.some.injEq, reduceCtorEq] at he); all_goals first | exact hi.elim | exact hi.1.elim | exact he.elim | omega | (rcases hi with hi | hi <;> omega) | (rcases he with he | he <;> omega))
    replace HR4 := HR4.keep k102 (by intro h; have h := h; (try dsimp only [NoK] at h); first | exact h | omega | (rcases h with h | h <;> omega)) (by intro i hi he; have hi0 := hi; have hi := hi; have he := he; (try dsimp only [NoK] at hi he); first | exact he.elim | omega | (have := hF i hi0; omega))
    replace HB2 := HX102
    clear HX102
    try simp only [List.set_cons_zero, List.set_cons_succ, setAt, List.take_zero, List.take_succ_cons, List.drop_zero, List.drop_succ_cons, List.nil_append, List.cons_append, List.append_nil, List.length_cons, List.length_nil, Nat.zero_add, Nat.reduceAdd, List.drop_nil] at HB2
    refine l_v (v_assign rfl) ?_
    refine l_nil ?_
    refine n_then ?_
    refine c_ret ?_
    refine ret2cv (n := 2) rfl (by decide) (by decide) rfl (by kernel_rfl) HB2.pv rfl (show _ = (Value.int _ _) from rfl) ?_
    refine ⟨?_, E⟩
    simp only [Bool.or_eq_false_iff, decide_eq_false_iff_not, Bool.not_eq_false', decide_eq_true_eq, ne_eq, Decidable.not_not] at hc
    rcases hx3 with ⟨he, hq⟩ | ⟨he, _, _, _, _, hq⟩
    · rcases hx4 with ⟨he4, hq4⟩ | ⟨he4, _, _, _, _, hq4⟩
      · have h : rdPr l = .ok ((fr, fv), l2) := by
          rw [rdPr, show rdBytes 24 l = _ from hq]
          simp only [show rdBytes 40 l1 = _ from hq4]
        rw [h]
        exact ⟨_, rfl, tPr_mk (HO3.view.mono fun b _ h => by rcases h with h | h <;> omega) (HO4.view.mono fun b _ h => by rcases h with h | h <;> omega), HR4⟩
      · omega
    · omega
end Go.Proofs.Ytlhanmlpionomaa

namespace Go.Proofs.Ytlhanmlpionomaa
open Go.Vc
set_option linter.unusedVariables false
set_option linter.unusedSimpArgs false
set_option maxRecDepth 100000

theorem rdList_all {α : Type} {p : α → Prop} {ρ : List UInt8 → Except Int (α × List UInt8)} (h : ∀ l x r, ρ l = .ok (x, r) → p x) : ∀ (n : Nat) (l : List UInt8) (xs : List α) (r : List UInt8), rdList ρ n l = .ok (xs, r) → ∀ x ∈ xs, p x
  | 0, l, xs, r, h1 => by cases h1; simp
  | n + 1, l, xs, r, h1 => by
    rw [rdList] at h1
    cases hq : ρ l with
    | error e => rw [hq] at h1; cases h1
    | ok q =>
      obtain ⟨x, l2⟩ := q
      rw [hq] at h1; simp only [] at h1
      cases hq2 : rdList ρ n l2 with
      | error e => rw [hq2] at h1; cases h1
      | ok q2 =>
        obtain ⟨ys, l3⟩ := q2
        rw [hq2] at h1; simp only [] at h1
        cases h1
        have h2 := rdList_all h n l2 ys _ hq2
        intro y hy
        rcases List.mem_cons.1 hy with rfl | hy
        · exact h _ _ _ hq
        · exact h2 y hy
theorem tryList_ok {α : Type} {ρ : List UInt8 → Except Int (α × List UInt8)} {sp : α → List UInt8} (h : ∀ l x r, ρ l = .ok (x, r) → l = sp x ++ r) {m : Nat} {l : List UInt8} {xs : List α} {r : List UInt8} (h1 : tryRd (rdList ρ) m l = .ok (xs, r)) : l = wList sp xs ++ r ∧ xs.length ≤ m ∧ r.length ≤ l.length ∧ ∃ l', rdList ρ xs.length l' = .ok (xs, r) := by
  rw [tryRd] at h1
  rcases hd : rdNum l with _ | ⟨n, l'⟩
  · rw [hd] at h1; cases h1
  · rw [hd] at h1; simp only [] at h1
    by_cases hn : n ≤ m
    · rw [if_pos hn] at h1
      obtain ⟨h2, h3⟩ := rdList_form h _ _ _ _ h1
      have h4 := rdNum_form hd
      have h5 : l = wList sp xs ++ r := by rw [wList, h2, h4, h3]; simp
      refine ⟨h5, by omega, ?_, l', by rw [h2]; exact h1⟩
      have := congrArg List.length h5
      rw [List.length_append] at this
      omega
    · rw [if_neg hn] at h1; cases h1
theorem rest_len (l : List UInt8) : (rest l).length ≤ l.length := by
  obtain ⟨n, e, _, _, h⟩ := numV_any l
  rcases h with ⟨_, h, _⟩ | ⟨_, _, h, _⟩
  · have := congrArg List.length h; rw [List.length_append] at this; omega
  · rw [h]; omega
theorem tryPr_ok {l : List UInt8} {ps : List PrV} {r : List UInt8} (h : tryRd (rdList rdPr) 32 l = .ok (ps, r)) : l = wList spPr ps ++ r ∧ ps.length ≤ 32 ∧ r.length ≤ l.length ∧ ∀ p ∈ ps, p.1.length ≤ 24 ∧ p.2.length ≤ 40 := by
  obtain ⟨h1, h2, h3, l', h4⟩ := tryList_ok (sp := spPr) (fun l x r h => (rdPr_ok h).1) h
  exact ⟨h1, h2, h3, rdList_all (fun l x r h => ⟨(rdPr_ok h).2.1, (rdPr_ok h).2.2.1⟩) _ _ _ _ h4⟩
theorem rdLn_ok {l : List UInt8} {x : LnV} {r : List UInt8} (h : rdLn l = .ok (x, r)) : l = spLn x ++ r ∧ okLn x ∧ r.length < l.length := by
  rw [rdLn] at h
  rcases h1 : rdNum l with _ | ⟨c, l1⟩
  · rw [h1] at h; cases h
  rw [h1] at h; simp only [] at h
  rcases h2 : rdNum l1 with _ | ⟨n, l2⟩
  · rw [h2] at h; cases h
  rw [h2] at h; simp only [] at h
  rcases h3 : rdNum l2 with _ | ⟨e, l3⟩
  · rw [h3] at h; cases h
  rw [h3] at h; simp only [] at h
  rcases h4 : tryRd (rdList rdPr) 32 l3 with e | ⟨ps, l4⟩
  · rw [h4] at h; cases h
  rw [h4] at h; simp only [] at h
  rcases h5 : rdBytes 25 l4 with e | ⟨nx, l5⟩
  · rw [h5] at h; cases h
  rw [h5] at h; simp only [] at h
  split at h
  · next hc =>
    cases h
    have f1 := rdNum_form h1
    have f2 := rdNum_form h2
    have f3 := rdNum_form h3
    obtain ⟨f4, g1, g2, g3⟩ := tryPr_ok h4
    obtain ⟨g4, g5, f5⟩ := rdBytes_le h5
    have e1 : l = spLn ((c : Int), (n : Int), (e : Int), ps, nx) ++ r := by
      rw [f1, f2, f3, f4, f5]; simp [spLn]
    refine ⟨e1, ⟨⟨by simp, by simp; omega⟩, ⟨by simp, by simp; omega⟩, ⟨by simp, by simp; omega⟩, g1, g5, g3⟩, ?_⟩
    have := congrArg List.length f1
    have := congrArg List.length f2
    have := congrArg List.length f3
    have hp := wNum_pos c
    simp only [List.length_append] at *
    omega
  · cases h
theorem rdLn_inv {l : List UInt8} {x : LnV} {r : List UInt8} (h : rdLn l = .ok (x, r)) : ∃ c l1 n l2 e l3 ps l4 nx, rdNum l = some (c, l1) ∧ rdNum l1 = some (n, l2) ∧ rdNum l2 = some (e, l3) ∧ tryRd (rdList rdPr) 32 l3 = .ok (ps, l4) ∧ rdBytes 25 l4 = .ok (nx, r) ∧ c ≤ 4 ∧ n ≤ 2147483647 ∧ e ≤ 13 := by
  rw [rdLn] at h
  rcases h1 : rdNum l with _ | ⟨c, l1⟩
  · rw [h1] at h; cases h
  rw [h1] at h; simp only [] at h
  rcases h2 : rdNum l1 with _ | ⟨n, l2⟩
  · rw [h2] at h; cases h
  rw [h2] at h; simp only [] at h
  rcases h3 : rdNum l2 with _ | ⟨e, l3⟩
  · rw [h3] at h; cases h
  rw [h3] at h; simp only [] at h
  rcases h4 : tryRd (rdList rdPr) 32 l3 with e | ⟨ps, l4⟩
  · rw [h4] at h; cases h
  rw [h4] at h; simp only [] at h
  rcases h5 : rdBytes 25 l4 with e | ⟨nx, l5⟩
  · rw [h5] at h; cases h
  rw [h5] at h; simp only [] at h
  split at h
  · next hc =>
    cases h
    exact ⟨c, l1, n, l2, e, l3, ps, l4, nx, rfl, h2, h3, h4, h5, hc⟩
  · cases h
theorem rdLn_err {l : List UInt8} {e : Int} (h : rdLn l = .error e) : e = 4 := by
  rw [rdLn] at h
  repeat' (split at h)
  all_goals first | (cases h; rfl) | (cases h; done)
theorem rdLn_short : ∀ l x r, rdLn l = .ok (x, r) → r.length < l.length := fun l x r h => (rdLn_ok h).2.2
abbrev tLn : Ty LnV := tPair (tInt .i64) tAd
theorem tLn_cells {w : World} {F : Nat → Prop} {cs : List Value} {x : LnV} (h : tLn.rep w F cs x) : ∃ a1 c1 a2 c2, cs = [.int .i64 x.1, .int .i64 x.2.1, .int .i64 x.2.2.1, .slice a1 x.2.2.2.1.length c1, .slice a2 x.2.2.2.2.length c2] ∧
    SlV tPr w F (.slice a1 x.2.2.2.1.length c1) x.2.2.2.1 ∧ Bv w F (.slice a2 x.2.2.2.2.length c2) x.2.2.2.2 ∧ I64 x.1 ∧ I64 x.2.1 ∧ I64 x.2.2.1 := by
  obtain ⟨_, _, rfl, ⟨rfl, h0⟩, h1⟩ := h
  obtain ⟨a1, c1, a2, c2, rfl, g1, g2, g3, g4⟩ := tAd_cells h1
  exact ⟨a1, c1, a2, c2, rfl, g1, g2, wf_i64 h0, g3, g4⟩
theorem tLn_mk {w : World} {F : Nat → Prop} {v1 v2 : Value} {c n e : Int} {ps : List PrV} {nx : List UInt8} (h1 : SlV tPr w F v1 ps) (h2 : Bv w F v2 nx) (hc : I64 c) (hn : I64 n) (he : I64 e) : tLn.rep w F [.int .i64 c, .int .i64 n, .int .i64 e, v1, v2] (c, n, e, ps, nx) := ⟨[_], _, rfl, ⟨rfl, wf_of_i64 hc⟩, [_], _, rfl, ⟨rfl, wf_of_i64 hn⟩, tAn_mk h1 h2 he⟩
/-- what reading one thing hands back -/
def OneVLn (w1 w2 : World) (c : Nat) (F : Nat → Prop) : Except Int (LnV × List UInt8) → Value → Prop
  | .ok (x, l2), r => ∃ cs, r = .tuple #[.agg cs.toArray, .int .i64 0] ∧ (tLn).rep w2 (fun b => w1.heap.size ≤ b) cs x ∧ Rd nRd w2 c F l2
  | .error e, r => e ≠ 0 ∧ ∃ cs x, r = .tuple #[.agg cs.toArray, .int .i64 e] ∧ (tLn).rep w2 (fun b => w1.heap.size ≤ b) cs x
theorem OneVLn_any {w1 w2 : World} {c : Nat} {F : Nat → Prop} {q : Except Int (LnV × List UInt8)} {r : Value} (h : OneVLn w1 w2 c F q r) : ∃ (cs : List Value) (x : LnV) (er : Int), r = .tuple #[.agg cs.toArray, .int .i64 er] ∧ (tLn).rep w2 (fun b => w1.heap.size ≤ b) cs x ∧
    ((er = 0 ∧ ∃ l2, q = .ok (x, l2) ∧ Rd nRd w2 c F l2) ∨ (er ≠ 0 ∧ q = .error er)) := by
  match q, h with
  | .ok (x, l2), ⟨cs, hr, h1, h2⟩ => exact ⟨cs, x, 0, hr, h1, .inl ⟨rfl, l2, rfl, h2⟩⟩
  | .error e, ⟨he, cs, x, hr, h1⟩ => exact ⟨cs, x, e, hr, h1, .inr ⟨he, rfl⟩⟩

theorem takeInLn_c {w : World} {b pf : Nat} {pT : TypeId} {F : Nat → Prop} {l : List UInt8} {n fr : Nat} {cap : Array Value} (hr : Rd nRd w b F l) (hF : ∀ k, F k → k < w.heap.size) (hFb : ¬ F b) (hn : n ≤ 9223372036854775807) (hl : l.length ≤ 1000000000000) (hb : kBody Try.prog fr = true)
    (hpf : Blk w pf [.func (.func fr) #[] cap] pT) (hpb : pf ≠ b)
    (ρ : List UInt8 → Except Int (LnV × List UInt8)) (hρ : ∀ l x l2, ρ l = .ok (x, l2) → l2.length < l.length)
    (hone : ∀ (w1 : World) (l1 : List UInt8), Keep (fun k => k = b) w w1 → Rd nRd w1 b F l1 → l1.length ≤ l.length → CallsR Try.prog fr (#[.pointer (some ⟨b, 0, none⟩)] ++ cap) w1 (fun r w2 => OneVLn w1 w2 b F (ρ l1) r ∧ Keep (fun k => k = b) w1 w2)) :
    CallsR Try.prog 71 #[.pointer (some ⟨b, 0, none⟩), .int .i64 n, .pointer (some ⟨pf, 0, none⟩)] w (fun r w' => ReadV (tLn) 103 nRd w w' b F (rdList ρ n l) r ∧ Keep (fun k => k = b) w w') := by
  obtain ⟨w0, rfl⟩ : ∃ x, x = w := ⟨w, rfl⟩
  have hblt : b < w0.heap.size := by obtain ⟨_, _, h, _⟩ := hr; exact h.lt
  have hplt := hpf.lt
  refine enter 28 Try.func71 rfl rfl (by simp) ?_
  refine c_seq ?_
  refine wp_reg (by decide +kernel) ?_
  refine l_v (v_assign rfl) ?_
  refine l_v (v_assign rfl) ?_
  refine l_nil ?_
  refine n_then ?_
  refine c_seq ?_
  refine c_block ?_
  refine c_loop (τ := Option Addr × Nat × Int × List (LnV) × List UInt8) [5, 6, 7, 8, 9, 10, 11, 12, 13, 14, 15, 16, 17, 18, 19, 20, 21, 22, 23, 24, 25] (fun (a1, c1, er, xs, l1) => [(5, .slice a1 xs.length c1), (6, .int .i64 er)]) (fun (a1, c1, er, xs, l1) w => OwV (tLn) 103 w w0.heap.size (fun k => w0.heap.size ≤ k) (.slice a1 xs.length c1) xs ∧ Keep (fun k => k = b) w0 w ∧ xs.length ≤ n ∧ ((er = 0 ∧ Rd nRd w b F l1 ∧ xs.length + l1.length ≤ l.length ∧ rdList ρ n l = bindL xs (rdList ρ (n - xs.length) l1)) ∨ (er ≠ 0 ∧ rdList ρ n l = .error er))) (fun (a1, c1, er, xs, l1) => n - xs.length) (none, 0, 0, [], l) (by exact ⟨rfl, rfl, trivial⟩) (by exact ⟨OwV.nil _ _ _ _ _, Keep.refl _, Nat.zero_le _, .inl ⟨rfl, hr, by simp, by simp [bindL_nil]⟩⟩) ?_
  rintro ⟨a1, c1, er, xs, l1⟩ w1 j ⟨o1, k1, h1, h1c⟩
  refine c_seq ?_
  refine c_seq ?_
  refine wp_reg (by decide +kernel) ?_
  refine l_v (v_move (t := .slice _ _ _) rfl) ?_
  refine l_v (v_len (et := 103) (by kernel_rfl) rfl) ?_
  refine l_v (v_move (t := .int _ _) rfl) ?_
  refine l_v (v_lss rfl rfl) ?_
  refine l_v (v_move (t := .bool _) rfl) ?_
  refine l_g1 rfl rfl (fun hG => v_move (t := .int _ _) rfl) ?_
  refine l_g1 rfl rfl (fun hG => v_eql (gd hG rfl) rfl) ?_
  refine l_v (v_and rfl rfl) ?_
  refine l_nil ?_
  refine n_then ?_
  refine c_cond rfl rfl (fun hc => ?_) (fun hc => ?_)
  · skip
    have hcl : xs.length < n := by simp at hc; omega
    have hce : er = 0 := by simp at hc; omega
    obtain ⟨_, r1, hll, hrd⟩ := h1c.resolve_right (fun h => h.1 hce)
    have zs_k1 := k1.size
    refine c_skip ?_
    refine n_then ?_
    refine c_block ?_
    refine c_seq ?_
    refine wp_reg (by decide +kernel) ?_
    refine l_to (to_alloc (z := (.agg #[.int .i64 0, .int .i64 0, .int .i64 0, .slice none 0 0, .slice none 0 0])) (by unfold kZero; kernel_rfl) ?_)
    rintro b2 w2 rfl hb2 e2 z2
    have zs_e2 := e2.size
    refine l_nil ?_
    refine n_then ?_
    refine c_seq ?_
    refine wp_reg (by decide +kernel) ?_
    refine l_v (v_load (by kernel_rfl) rfl ((((hpf.keep k1 hpb)).ext e2).pv 0 _ rfl)) ?_
    refine l_v (v_move (t := .pointer _) rfl) ?_
    refine l_to (to_call1 hb rfl (show _ = (Value.pointer _) from rfl) (CallsR.mono ((hone w2 l1 (k1.trans (e2.mono fun _ _ h => h.elim)) (r1.ext e2) (by omega))) ?_))
    rintro r w3 ⟨hr3, k3⟩
    have zs_k3 := k3.size
    obtain ⟨cs, x, er2, hr3, hrep, hnx⟩ := OneVLn_any hr3
    subst hr3
    have hrep1 := hrep
    obtain ⟨a9, c9, a10, c10, rfl, _⟩ := tLn_cells hrep
    refine l_v (v_move (t := .tuple _) rfl) ?_
    refine l_v (v_extract (t := .agg _) rfl rfl) ?_
    refine l_v (v_extract (t := .int _ _) rfl rfl) ?_
    refine l_to (to_storeA (n := 5) rfl rfl (show _ = (Value.agg _) from rfl) (by kernel_rfl) rfl (by first | (simp [slice_one]; done) | (simp only [List.forall_mem_cons, List.cons_append, List.nil_append]; repeat' (first | exact rfl | apply And.intro | (intro u hu; cases hu; done)))) (hb2.keep k3 (by omega)) (by first | exact of_decide_eq_true rfl | (simp; done) | decide | (simp only [List.length_set, hlen]; exact of_decide_eq_true rfl)) ?_)
    rintro w4 h4 k4 z4
    have zs_k4 := k4.size
    have hrep4 := (tLn).keep hrep1 k4 (fun i hi h hk => by omega)
    have o4 := ((((o1.mono (F' := fun k => w0.heap.size ≤ k ∧ k < w1.heap.size) (fun i hi h => ⟨h, hi⟩)).ext e2).keep k3 (fun i hi h => by have := (o1.own_lt hi).1; omega) (fun i _ hi _ h => by omega)).keep k4 (fun i hi h => by have := (o1.own_lt hi).2; omega) (fun i _ hi _ h => by omega)).mono (F' := fun k => w0.heap.size ≤ k) (fun i _ h => h.1)
    have k46 : Keep (fun k => k = b) w0 w4 := (((k1.trans (e2.mono fun _ _ h => h.elim)).trans k3).step k4 (fun i hi h => by omega))
    have hnx4 : (er2 = 0 ∧ ∃ l2, ρ l1 = .ok (x, l2) ∧ Rd nRd w4 b F l2) ∨ (er2 ≠ 0 ∧ ρ l1 = .error er2) := by
      rcases hnx with ⟨he2, l2, hq, r3⟩ | h
      · exact .inl ⟨he2, l2, hq, r3.keep k4 (by omega) (fun i hi h => by have := hF i hi; omega)⟩
      · exact .inr h
    refine l_v (v_assign (t := .int _ _) rfl) ?_
    refine l_nil ?_
    refine n_then ?_
    refine wp_reg (by decide +kernel) ?_
    refine l_v (v_move (t := .slice _ _ _) rfl) ?_
    refine l_v (v_loadA (by kernel_rfl) rfl h4.pv rfl) ?_
    refine l_to (to_slice1 (t := tLn) (et := 103) (bytes := 72) (by kernel_rfl) (by decide) (show _ = (Value.agg _) from rfl) (hrep4) ?_)
    rintro b5 w5 rfl o5 e5 z5
    have zs_e5 := e5.size
    refine l_to (to_append (et := 103) (bytes := 72) (by kernel_rfl) (show _ = (Value.slice _ _ _) from rfl) (o4.ext e5) (show _ = (Value.slice _ _ _) from rfl) o5.view ((OwV_sep o1 (by intro i hi; omega) (by omega))) (by first | omega | (simp; done) | (simp; omega)) (by simp only [maxLen]; first | omega | (simp; done) | (simp; omega)) (by omega) ?_)
    rintro a6 n6 c6 w6 o6 hn6 k6 b6 i6
    have zs_k6 := k6.size
    subst hn6
    have k36 : Keep (fun k => k = b) w0 w6 := (k46.trans (e5.mono fun _ _ h => h.elim)).step k6 (fun i hi h => by have := (o1.own_lt h).1; omega)
    have hsub : n - xs.length = (n - (xs ++ [x]).length) + 1 := by simp only [List.length_append, List.length_singleton]; omega
    obtain ⟨l2, hinv⟩ : ∃ l2, ((er2 = 0 ∧ Rd nRd w6 b F l2 ∧ (xs ++ [x]).length + l2.length ≤ l.length ∧ rdList ρ n l = bindL (xs ++ [x]) (rdList ρ (n - (xs ++ [x]).length) l2)) ∨ (er2 ≠ 0 ∧ rdList ρ n l = .error er2)) := by
      rcases hnx4 with ⟨he2, l2, hq, r4⟩ | ⟨hne, hq⟩
      · refine ⟨l2, .inl ⟨he2, ?_, ?_, ?_⟩⟩
        · exact (r4.ext e5).keep k6 (fun h => by have := (o1.own_lt h).1; omega) (fun i hi h => by have := (o1.own_lt h).1; have := hF i hi; omega)
        · have := hρ _ _ _ hq; simp only [List.length_append, List.length_singleton]; omega
        · rw [hrd, hsub]; exact rdList_ok hq
      · exact ⟨[], .inr ⟨hne, by rw [hrd, hsub]; exact rdList_err hq⟩⟩
    refine l_v (v_assign (t := .slice _ _ _) rfl) ?_
    refine l_nil ?_
    refine n_blk ?_
    refine n_then ?_
    refine ⟨(a6, c6, er2, xs ++ [x], l2), _, rfl, by (repeat (first | exact Off.of_over _ _ _ | refine Off.upd ?_ (by decide) _ | refine Off.overs ?_ (by decide) _)), ⟨by first | rfl | exact congrArg (Value.int _) (by omega) | (simp; done), by first | rfl | exact congrArg (Value.int _) (by omega) | (simp; done), trivial⟩, ?_, ?_⟩
    · exact ⟨o6, k36, by simp only [List.length_append, List.length_singleton]; omega, hinv⟩
    · simp only [List.length_append, List.length_singleton]; omega
  · skip
    refine c_exit ?_
    refine x_then ?_
    refine x_then ?_
    refine x_hit ?_
    refine n_then ?_
    refine c_seq ?_
    refine wp_reg (by decide +kernel) ?_
    refine l_v (v_move (t := .slice _ _ _) rfl) ?_
    refine l_v (v_move (t := .int _ _) rfl) ?_
    refine l_v (v_assign (t := .slice _ _ _) rfl) ?_
    refine l_v (v_assign (t := .int _ _) rfl) ?_
    refine l_nil ?_
    refine n_then ?_
    refine c_ret ?_
    refine ret2 rfl (by decide) (by decide) ?_
    refine ⟨?_, k1⟩
    rcases h1c with ⟨he, r1, _, hrd⟩ | ⟨hne, hq⟩
    · have hcl : ¬ xs.length < n := by subst he; simpa using hc
      rw [hrd, show n - xs.length = 0 by omega]
      subst he
      show ReadV _ _ _ _ _ _ _ (.ok (xs ++ [], l1)) _
      rw [List.append_nil]
      exact ⟨a1, c1, rfl, o1, r1⟩
    · rw [hq]
      exact ⟨hne, _, _, _, rfl⟩

theorem tryLn_c {w : World} {b : Nat} {F : Nat → Prop} {l : List UInt8} {most : Int} {fr : Nat} {cap : Array Value} (hr : Rd nRd w b F l) (hF : ∀ k, F k → k < b) (hm : 0 ≤ most) (hm2 : most ≤ 9223372036854775807) (hb : kBody Try.prog fr = true)
    (ρ : Nat → List UInt8 → Except Int (List LnV × List UInt8))
    (hread : ∀ (w1 : World) (c : Nat) (l1 : List UInt8) (n : Nat), Ext w w1 → w.heap.size ≤ c → Rd nRd w1 c F l1 → l1.length ≤ l.length → (n : Int) ≤ most → CallsR Try.prog fr (#[.pointer (some ⟨c, 0, none⟩), .int .i64 n] ++ cap) w1 (fun r w2 => ReadV (tLn) 103 nRd w1 w2 c F (ρ n l1) r ∧ Keep (fun k => k = c) w1 w2)) :
    CallsR Try.prog 70 #[.pointer (some ⟨b, 0, none⟩), .int .i64 most, .func (.func fr) #[] cap] w (fun r w' => TryV (tLn) 103 nRd w w' b F l (tryRd ρ most.toNat l) r ∧ Keep (fun k => k = b) w w') := by
  have hnF : ¬ F b := fun h => absurd (hF b h) (Nat.lt_irrefl b)
  obtain ⟨a, c, hb0, hv⟩ := hr
  have hblt := hb0.lt
  rcases hd : rdNum l with _ | ⟨n, l'⟩
  · obtain ⟨er, her⟩ : ∃ er : Int, er = 4 := ⟨4, rfl⟩
    have htr : tryRd ρ most.toNat l = .error er := by rw [tryRd, hd, her]
    refine enter 56 Try.func70 rfl rfl (by simp) ?_
    refine c_seq ?_
    refine wp_reg (by decide +kernel) ?_
    refine l_v (v_assign rfl) ?_
    refine l_v (v_assign rfl) ?_
    refine l_nil ?_
    refine n_then ?_
    refine c_seq ?_
    refine wp_reg (by decide +kernel) ?_
    refine l_v (v_assign rfl) ?_
    refine l_nil ?_
    refine n_then ?_
    refine c_seq ?_
    refine c_seq ?_
    refine wp_reg (by decide +kernel) ?_
    refine l_v (v_move (t := .pointer _) rfl) ?_
    refine l_to (to_f1 (by kernel_rfl) (show _ = (Value.pointer _) from rfl) (CallsR.mono (closed_c hb0) ?_))
    rintro _ w1 ⟨rfl, e1⟩
    have zs_e1 := e1.size
    refine l_nil ?_
    refine n_then ?_
    refine c_cond rfl rfl (fun hc => ?_) (fun hc => ?_)
    · skip
      cases hc
    · skip
      refine c_skip ?_
      refine n_then ?_
      refine c_seq ?_
      refine c_seq ?_
      refine wp_reg (by decide +kernel) ?_
      refine l_v (v_move (t := .int _ _) rfl) ?_
      refine l_v (v_lss rfl rfl) ?_
      refine l_nil ?_
      refine n_then ?_
      refine c_cond rfl rfl (fun hc2 => ?_) (fun hc2 => ?_)
      · skip
        have := dtrue hc2; omega
      · skip
        refine c_skip ?_
        refine n_then ?_
        refine c_seq ?_
        refine wp_reg (by decide +kernel) ?_
        refine l_v (v_move (t := .pointer _) rfl) ?_
        refine l_v (v_nilCheck rfl) ?_
        refine l_v (v_fieldAddr (off := 0) (ft := 31) (by kernel_rfl) rfl) ?_
        refine l_v (v_load (by kernel_rfl) rfl ((hb0.ext e1).pv 0 _ rfl)) ?_
        refine l_v (v_build (pl := [(0, 1)]) (z := .agg #[.slice none 0 0]) (zl := [.slice none 0 0]) (by kernel_rfl) (by unfold kZero; kernel_rfl) rfl rfl (cells := [_]) rfl) ?_
        refine l_to (to_box (show _ = (Value.agg _) from rfl) ?_)
        rintro b2 w2 rfl hb2 e2 z2
        have zs_e2 := e2.size
        have e12 := e1.trans e2
        refine l_v (v_assign (t := .pointer _) rfl) ?_
        refine l_nil ?_
        refine n_then ?_
        refine c_seq ?_
        refine wp_reg (by decide +kernel) ?_
        refine l_v (v_move (t := .pointer _) rfl) ?_
        refine l_to (to_f1 (by kernel_rfl) (show _ = (Value.pointer _) from rfl) (CallsR.mono (rNumber_c (b := w1.heap.size) (l := l) (F := F) ⟨a, c, hb2, hv.ext e12⟩ (fun h => by have := hF _ h; omega)) ?_))
        rintro r w3 ⟨hr3, h3, k3⟩
        have zs_k3 := k3.size
        rw [numV, hd, ← her] at hr3
        subst hr3
        have e3 : Ext w w3 := e12.step k3 fun i hi h => by omega
        refine l_v (v_move (t := .tuple _) rfl) ?_
        refine l_v (v_extract (t := .int _ _) rfl rfl) ?_
        refine l_v (v_extract (t := .int _ _) rfl rfl) ?_
        refine l_v (v_assign (t := .int _ _) rfl) ?_
        refine l_v (v_assign (t := .int _ _) rfl) ?_
        refine l_nil ?_
        refine n_then ?_
        refine c_seq ?_
        refine c_seq ?_
        refine wp_reg (by decide +kernel) ?_
        refine l_v (v_move (t := .int _ _) rfl) ?_
        refine l_v (v_eql rfl rfl) ?_
        refine l_v (v_move (t := .bool _) rfl) ?_
        refine l_g1 rfl rfl (fun hG => v_move (t := .int _ _) rfl) ?_
        refine l_g1 rfl rfl (fun hG => v_move (t := .int _ _) rfl) ?_
        refine l_g1 rfl rfl (fun hG => v_conv (ds := .int .i64) (by kernel_rfl) (by kernel_rfl) (gd hG rfl) (by first | exact wr_u64 (by omega) (by omega) | rfl)) ?_
        refine l_g1 rfl rfl (fun hG => v_gtr (gd hG rfl) (gd hG rfl)) ?_
        refine l_v (v_and rfl rfl) ?_
        refine l_nil ?_
        refine n_then ?_
        refine c_cond rfl rfl (fun hc3 => ?_) (fun hc3 => ?_)
        · skip
          simp at hc3; omega
        · skip
          refine c_skip ?_
          refine n_then ?_
          refine c_seq ?_
          refine c_seq ?_
          refine wp_reg (by decide +kernel) ?_
          refine l_v (v_move (t := .int _ _) rfl) ?_
          refine l_v (v_eql rfl rfl) ?_
          refine l_nil ?_
          refine n_then ?_
          refine c_cond rfl rfl (fun hc4 => ?_) (fun hc4 => ?_)
          · skip
            have := dtrue hc4; omega
          · skip
            refine c_skip ?_
            refine n_then ?_
            refine c_seq ?_
            refine c_seq ?_
            refine wp_reg (by decide +kernel) ?_
            refine l_v (v_move (t := .int _ _) rfl) ?_
            refine l_v (v_neq rfl rfl) ?_
            refine l_nil ?_
            refine n_then ?_
            refine c_cond rfl rfl (fun hc5 => ?_) (fun hc5 => ?_)
            · skip
              refine c_seq ?_
              refine wp_reg (by decide +kernel) ?_
              refine l_v (v_move (t := .slice _ _ _) rfl) ?_
              refine l_v (v_move (t := .int _ _) rfl) ?_
              refine l_v (v_assign (t := .slice _ _ _) rfl) ?_
              refine l_v (v_assign (t := .int _ _) rfl) ?_
              refine l_nil ?_
              refine n_then ?_
              refine c_ret ?_
              refine r_then ?_
              refine ret2 rfl (by decide) (by decide) ?_
              refine ⟨?_, e3.keep⟩
              rw [htr]
              exact ⟨by omega, rfl, ⟨a, c, hb0.ext e3, hv.ext e3⟩⟩
            · skip
              simp at hc5; omega
  · have hlt := rdNum_lt hd
    have hll : l'.length ≤ l.length := by obtain ⟨k, _, _, h⟩ := rdGo_suffix l 0 hd; rw [h, List.length_drop]; omega
    obtain ⟨z, hz⟩ : ∃ z : Int, z = 0 := ⟨0, rfl⟩
    by_cases hnm : (n : Int) ≤ most
    · have htr : tryRd ρ most.toNat l = ρ n l' := by rw [tryRd, hd]; simp only []; rw [if_pos (by omega)]
      cases hρ : ρ n l' with
      | error er =>
        refine enter 56 Try.func70 rfl rfl (by simp) ?_
        refine c_seq ?_
        refine wp_reg (by decide +kernel) ?_
        refine l_v (v_assign rfl) ?_
        refine l_v (v_assign rfl) ?_
        refine l_nil ?_
        refine n_then ?_
        refine c_seq ?_
        refine wp_reg (by decide +kernel) ?_
        refine l_v (v_assign rfl) ?_
        refine l_nil ?_
        refine n_then ?_
        refine c_seq ?_
        refine c_seq ?_
        refine wp_reg (by decide +kernel) ?_
        refine l_v (v_move (t := .pointer _) rfl) ?_
        refine l_to (to_f1 (by kernel_rfl) (show _ = (Value.pointer _) from rfl) (CallsR.mono (closed_c hb0) ?_))
        rintro _ w1 ⟨rfl, e1⟩
        have zs_e1 := e1.size
        refine l_nil ?_
        refine n_then ?_
        refine c_cond rfl rfl (fun hc => ?_) (fun hc => ?_)
        · skip
          cases hc
        · skip
          refine c_skip ?_
          refine n_then ?_
          refine c_seq ?_
          refine c_seq ?_
          refine wp_reg (by decide +kernel) ?_
          refine l_v (v_move (t := .int _ _) rfl) ?_
          refine l_v (v_lss rfl rfl) ?_
          refine l_nil ?_
          refine n_then ?_
          refine c_cond rfl rfl (fun hc2 => ?_) (fun hc2 => ?_)
          · skip
            have := dtrue hc2; omega
          · skip
            refine c_skip ?_
            refine n_then ?_
            refine c_seq ?_
            refine wp_reg (by decide +kernel) ?_
            refine l_v (v_move (t := .pointer _) rfl) ?_
            refine l_v (v_nilCheck rfl) ?_
            refine l_v (v_fieldAddr (off := 0) (ft := 31) (by kernel_rfl) rfl) ?_
            refine l_v (v_load (by kernel_rfl) rfl ((hb0.ext e1).pv 0 _ rfl)) ?_
            refine l_v (v_build (pl := [(0, 1)]) (z := .agg #[.slice none 0 0]) (zl := [.slice none 0 0]) (by kernel_rfl) (by unfold kZero; kernel_rfl) rfl rfl (cells := [_]) rfl) ?_
            refine l_to (to_box (show _ = (Value.agg _) from rfl) ?_)
            rintro b2 w2 rfl hb2 e2 z2
            have zs_e2 := e2.size
            have e12 := e1.trans e2
            refine l_v (v_assign (t := .pointer _) rfl) ?_
            refine l_nil ?_
            refine n_then ?_
            refine c_seq ?_
            refine wp_reg (by decide +kernel) ?_
            refine l_v (v_move (t := .pointer _) rfl) ?_
            refine l_to (to_f1 (by kernel_rfl) (show _ = (Value.pointer _) from rfl) (CallsR.mono (rNumber_c (b := w1.heap.size) (l := l) (F := F) ⟨a, c, hb2, hv.ext e12⟩ (fun h => by have := hF _ h; omega)) ?_))
            rintro r w3 ⟨hr3, h3, k3⟩
            have zs_k3 := k3.size
            rw [numV, hd] at hr3
            simp only [] at hr3
            rw [← hz] at hr3
            subst hr3
            have e3 : Ext w w3 := e12.step k3 fun i hi h => by omega
            have hrest : rest l = l' := by rw [rest, hd]
            rw [hrest] at h3
            refine l_v (v_move (t := .tuple _) rfl) ?_
            refine l_v (v_extract (t := .int _ _) rfl rfl) ?_
            refine l_v (v_extract (t := .int _ _) rfl rfl) ?_
            refine l_v (v_assign (t := .int _ _) rfl) ?_
            refine l_v (v_assign (t := .int _ _) rfl) ?_
            refine l_nil ?_
            refine n_then ?_
            refine c_seq ?_
            refine c_seq ?_
            refine wp_reg (by decide +kernel) ?_
            refine l_v (v_move (t := .int _ _) rfl) ?_
            refine l_v (v_eql rfl rfl) ?_
            refine l_v (v_move (t := .bool _) rfl) ?_
            refine l_g1 rfl rfl (fun hG => v_move (t := .int _ _) rfl) ?_
            refine l_g1 rfl rfl (fun hG => v_move (t := .int _ _) rfl) ?_
            refine l_g1 rfl rfl (fun hG => v_conv (ds := .int .i64) (by kernel_rfl) (by kernel_rfl) (gd hG rfl) (by first | exact wr_u64 (by omega) (by omega) | rfl)) ?_
            refine l_g1 rfl rfl (fun hG => v_gtr (gd hG rfl) (gd hG rfl)) ?_
            refine l_v (v_and rfl rfl) ?_
            refine l_nil ?_
            refine n_then ?_
            refine c_cond rfl rfl (fun hc3 => ?_) (fun hc3 => ?_)
            · skip
              simp at hc3; omega
            · skip
              refine c_skip ?_
              refine n_then ?_
              refine c_seq ?_
              refine c_seq ?_
              refine wp_reg (by decide +kernel) ?_
              refine l_v (v_move (t := .int _ _) rfl) ?_
              refine l_v (v_eql rfl rfl) ?_
              refine l_nil ?_
              refine n_then ?_
              refine c_cond rfl rfl (fun hc4 => ?_) (fun hc4 => ?_)
              · skip
                refine wp_reg (by decide +kernel) ?_
                refine l_v (v_move (t := .func _ _ _) rfl) ?_
                refine l_v (v_move (t := .pointer _) rfl) ?_
                refine l_v (v_move (t := .int _ _) rfl) ?_
                refine l_v (v_conv (ds := .int .u64) (by kernel_rfl) (by kernel_rfl) rfl (by first | exact wr_i64 (by omega) (by omega) | rfl)) ?_
                refine l_to (to_call2 hb rfl (show _ = (Value.pointer _) from rfl) (show _ = (Value.int _ _) from rfl) (CallsR.mono (hread w3 _ l' n e3 (by omega) h3 hll hnm) ?_))
                rintro r4 w4 ⟨hr4, k4⟩
                have zs_k4 := k4.size
                rw [hρ] at hr4
                obtain ⟨her, va, vn, vc, hr4⟩ := hr4
                subst hr4
                have e4 : Ext w w4 := e3.step k4 fun i hi h => by omega
                refine l_v (v_move (t := .tuple _) rfl) ?_
                refine l_v (v_extract (t := .slice _ _ _) rfl rfl) ?_
                refine l_v (v_extract (t := .int _ _) rfl rfl) ?_
                refine l_v (v_assign (t := .slice _ _ _) rfl) ?_
                refine l_v (v_assign (t := .int _ _) rfl) ?_
                refine l_nil ?_
                refine n_then ?_
                refine c_seq ?_
                refine c_seq ?_
                refine wp_reg (by decide +kernel) ?_
                refine l_v (v_move (t := .int _ _) rfl) ?_
                refine l_v (v_neq rfl rfl) ?_
                refine l_nil ?_
                refine n_then ?_
                refine c_cond rfl rfl (fun hc5 => ?_) (fun hc5 => ?_)
                · skip
                  refine c_seq ?_
                  refine wp_reg (by decide +kernel) ?_
                  refine l_v (v_move (t := .slice _ _ _) rfl) ?_
                  refine l_v (v_move (t := .int _ _) rfl) ?_
                  refine l_v (v_assign (t := .slice _ _ _) rfl) ?_
                  refine l_v (v_assign (t := .int _ _) rfl) ?_
                  refine l_nil ?_
                  refine n_then ?_
                  refine c_ret ?_
                  refine r_then ?_
                  refine ret2 rfl (by decide) (by decide) ?_
                  refine ⟨?_, e4.keep⟩
                  rw [htr, hρ]
                  exact ⟨her, rfl, ⟨a, c, hb0.ext e4, hv.ext e4⟩⟩
                · skip
                  simp at hc5; omega
              · skip
                have := dfalse hc4; omega
      | ok xl =>
        obtain ⟨x, l2⟩ := xl
        refine enter 56 Try.func70 rfl rfl (by simp) ?_
        refine c_seq ?_
        refine wp_reg (by decide +kernel) ?_
        refine l_v (v_assign rfl) ?_
        refine l_v (v_assign rfl) ?_
        refine l_nil ?_
        refine n_then ?_
        refine c_seq ?_
        refine wp_reg (by decide +kernel) ?_
        refine l_v (v_assign rfl) ?_
        refine l_nil ?_
        refine n_then ?_
        refine c_seq ?_
        refine c_seq ?_
        refine wp_reg (by decide +kernel) ?_
        refine l_v (v_move (t := .pointer _) rfl) ?_
        refine l_to (to_f1 (by kernel_rfl) (show _ = (Value.pointer _) from rfl) (CallsR.mono (closed_c hb0) ?_))
        rintro _ w1 ⟨rfl, e1⟩
        have zs_e1 := e1.size
        refine l_nil ?_
        refine n_then ?_
        refine c_cond rfl rfl (fun hc => ?_) (fun hc => ?_)
        · skip
          cases hc
        · skip
          refine c_skip ?_
          refine n_then ?_
          refine c_seq ?_
          refine c_seq ?_
          refine wp_reg (by decide +kernel) ?_
          refine l_v (v_move (t := .int _ _) rfl) ?_
          refine l_v (v_lss rfl rfl) ?_
          refine l_nil ?_
          refine n_then ?_
          refine c_cond rfl rfl (fun hc2 => ?_) (fun hc2 => ?_)
          · skip
            have := dtrue hc2; omega
          · skip
            refine c_skip ?_
            refine n_then ?_
            refine c_seq ?_
            refine wp_reg (by decide +kernel) ?_
            refine l_v (v_move (t := .pointer _) rfl) ?_
            refine l_v (v_nilCheck rfl) ?_
            refine l_v (v_fieldAddr (off := 0) (ft := 31) (by kernel_rfl) rfl) ?_
            refine l_v (v_load (by kernel_rfl) rfl ((hb0.ext e1).pv 0 _ rfl)) ?_
            refine l_v (v_build (pl := [(0, 1)]) (z := .agg #[.slice none 0 0]) (zl := [.slice none 0 0]) (by kernel_rfl) (by unfold kZero; kernel_rfl) rfl rfl (cells := [_]) rfl) ?_
            refine l_to (to_box (show _ = (Value.agg _) from rfl) ?_)
            rintro b2 w2 rfl hb2 e2 z2
            have zs_e2 := e2.size
            have e12 := e1.trans e2
            refine l_v (v_assign (t := .pointer _) rfl) ?_
            refine l_nil ?_
            refine n_then ?_
            refine c_seq ?_
            refine wp_reg (by decide +kernel) ?_
            refine l_v (v_move (t := .pointer _) rfl) ?_
            refine l_to (to_f1 (by kernel_rfl) (show _ = (Value.pointer _) from rfl) (CallsR.mono (rNumber_c (b := w1.heap.size) (l := l) (F := F) ⟨a, c, hb2, hv.ext e12⟩ (fun h => by have := hF _ h; omega)) ?_))
            rintro r w3 ⟨hr3, h3, k3⟩
            have zs_k3 := k3.size
            rw [numV, hd] at hr3
            simp only [] at hr3
            rw [← hz] at hr3
            subst hr3
            have e3 : Ext w w3 := e12.step k3 fun i hi h => by omega
            have hrest : rest l = l' := by rw [rest, hd]
            rw [hrest] at h3
            refine l_v (v_move (t := .tuple _) rfl) ?_
            refine l_v (v_extract (t := .int _ _) rfl rfl) ?_
            refine l_v (v_extract (t := .int _ _) rfl rfl) ?_
            refine l_v (v_assign (t := .int _ _) rfl) ?_
            refine l_v (v_assign (t := .int _ _) rfl) ?_
            refine l_nil ?_
            refine n_then ?_
            refine c_seq ?_
            refine c_seq ?_
            refine wp_reg (by decide +kernel) ?_
            refine l_v (v_move (t := .int _ _) rfl) ?_
            refine l_v (v_eql rfl rfl) ?_
            refine l_v (v_move (t := .bool _) rfl) ?_
            refine l_g1 rfl rfl (fun hG => v_move (t := .int _ _) rfl) ?_
            refine l_g1 rfl rfl (fun hG => v_move (t := .int _ _) rfl) ?_
            refine l_g1 rfl rfl (fun hG => v_conv (ds := .int .i64) (by kernel_rfl) (by kernel_rfl) (gd hG rfl) (by first | exact wr_u64 (by omega) (by omega) | rfl)) ?_
            refine l_g1 rfl rfl (fun hG => v_gtr (gd hG rfl) (gd hG rfl)) ?_
            refine l_v (v_and rfl rfl) ?_
            refine l_nil ?_
            refine n_then ?_
            refine c_cond rfl rfl (fun hc3 => ?_) (fun hc3 => ?_)
            · skip
              simp at hc3; omega
            · skip
              refine c_skip ?_
              refine n_then ?_
              refine c_seq ?_
              refine c_seq ?_
              refine wp_reg (by decide +kernel) ?_
              refine l_v (v_move (t := .int _ _) rfl) ?_
              refine l_v (v_eql rfl rfl) ?_
              refine l_nil ?_
              refine n_then ?_
              refine c_cond rfl rfl (fun hc4 => ?_) (fun hc4 => ?_)
              · skip
                refine wp_reg (by decide +kernel) ?_
                refine l_v (v_move (t := .func _ _ _) rfl) ?_
                refine l_v (v_move (t := .pointer _) rfl) ?_
                refine l_v (v_move (t := .int _ _) rfl) ?_
                refine l_v (v_conv (ds := .int .u64) (by kernel_rfl) (by kernel_rfl) rfl (by first | exact wr_i64 (by omega) (by omega) | rfl)) ?_
                refine l_to (to_call2 hb rfl (show _ = (Value.pointer _) from rfl) (show _ = (Value.int _ _) from rfl) (CallsR.mono (hread w3 _ l' n e3 (by omega) h3 hll hnm) ?_))
                rintro r4 w4 ⟨hr4, k4⟩
                have zs_k4 := k4.size
                rw [hρ] at hr4
                obtain ⟨a4, c4, hr4, hx4, a5, c5, hb5, hv5⟩ := hr4
                subst hr4
                have e4 : Ext w w4 := e3.step k4 fun i hi h => by omega
                refine l_v (v_move (t := .tuple _) rfl) ?_
                refine l_v (v_extract (t := .slice _ _ _) rfl rfl) ?_
                refine l_v (v_extract (t := .int _ _) rfl rfl) ?_
                refine l_v (v_assign (t := .slice _ _ _) rfl) ?_
                refine l_v (v_assign (t := .int _ _) rfl) ?_
                refine l_nil ?_
                refine n_then ?_
                refine c_seq ?_
                refine c_seq ?_
                refine wp_reg (by decide +kernel) ?_
                refine l_v (v_move (t := .int _ _) rfl) ?_
                refine l_v (v_neq rfl rfl) ?_
                refine l_nil ?_
                refine n_then ?_
                refine c_cond rfl rfl (fun hc5 => ?_) (fun hc5 => ?_)
                · skip
                  simp at hc5
                · skip
                  refine c_skip ?_
                  refine n_then ?_
                  refine c_seq ?_
                  refine wp_reg (by decide +kernel) ?_
                  refine l_v (v_move (t := .pointer _) rfl) ?_
                  refine l_v (v_move (t := .pointer _) rfl) ?_
                  refine l_v (v_nilCheck rfl) ?_
                  refine l_v (v_loadA (by kernel_rfl) rfl hb5.pv rfl) ?_
                  refine l_v (v_nilCheck rfl) ?_
                  refine l_to (to_storeA (n := 1) rfl rfl (show _ = (Value.agg _) from rfl) (by kernel_rfl) rfl (by first | (simp [slice_one]; done) | (simp only [List.forall_mem_cons, List.cons_append, List.nil_append]; repeat' (first | exact rfl | apply And.intro | (intro u hu; cases hu; done)))) (hb0.ext e4) (by first | exact of_decide_eq_true rfl | (simp; done) | decide | (simp only [List.length_set, hlen]; exact of_decide_eq_true rfl)) ?_)
                  rintro w5 h5 k5 z5
                  have zs_k5 := k5.size
                  refine l_nil ?_
                  refine n_then ?_
                  refine c_seq ?_
                  refine wp_reg (by decide +kernel) ?_
                  refine l_v (v_move (t := .slice _ _ _) rfl) ?_
                  refine l_v (v_assign (t := .slice _ _ _) rfl) ?_
                  refine l_v (v_assign rfl) ?_
                  refine l_nil ?_
                  refine n_then ?_
                  refine c_ret ?_
                  refine ret2 rfl (by decide) (by decide) ?_
                  refine ⟨?_, e4.keep.trans k5⟩
                  rw [htr, hρ]
                  refine ⟨_, _, rfl, (hx4.base (by omega)).mono (F' := fun k => w.heap.size ≤ k) (fun i _ hi => by omega) |>.keep k5 (fun i hi h => ?_) (fun i _ hi _ h => by omega), a5, c5, h5, hv5.keep k5 fun i _ hi h => hnF (by subst h; exact hi)⟩
                  have := (hx4.own_lt hi).1
                  omega
              · skip
                have := dfalse hc4; omega
    · have htr : tryRd ρ most.toNat l = .error 3 := by rw [tryRd, hd]; simp only []; rw [if_neg (by omega)]
      refine enter 56 Try.func70 rfl rfl (by simp) ?_
      refine c_seq ?_
      refine wp_reg (by decide +kernel) ?_
      refine l_v (v_assign rfl) ?_
      refine l_v (v_assign rfl) ?_
      refine l_nil ?_
      refine n_then ?_
      refine c_seq ?_
      refine wp_reg (by decide +kernel) ?_
      refine l_v (v_assign rfl) ?_
      refine l_nil ?_
      refine n_then ?_
      refine c_seq ?_
      refine c_seq ?_
      refine wp_reg (by decide +kernel) ?_
      refine l_v (v_move (t := .pointer _) rfl) ?_
      refine l_to (to_f1 (by kernel_rfl) (show _ = (Value.pointer _) from rfl) (CallsR.mono (closed_c hb0) ?_))
      rintro _ w1 ⟨rfl, e1⟩
      have zs_e1 := e1.size
      refine l_nil ?_
      refine n_then ?_
      refine c_cond rfl rfl (fun hc => ?_) (fun hc => ?_)
      · skip
        cases hc
      · skip
        refine c_skip ?_
        refine n_then ?_
        refine c_seq ?_
        refine c_seq ?_
        refine wp_reg (by decide +kernel) ?_
        refine l_v (v_move (t := .int _ _) rfl) ?_
        refine l_v (v_lss rfl rfl) ?_
        refine l_nil ?_
        refine n_then ?_
        refine c_cond rfl rfl (fun hc2 => ?_) (fun hc2 => ?_)
        · skip
          have := dtrue hc2; omega
        · skip
          refine c_skip ?_
          refine n_then ?_
          refine c_seq ?_
          refine wp_reg (by decide +kernel) ?_
          refine l_v (v_move (t := .pointer _) rfl) ?_
          refine l_v (v_nilCheck rfl) ?_
          refine l_v (v_fieldAddr (off := 0) (ft := 31) (by kernel_rfl) rfl) ?_
          refine l_v (v_load (by kernel_rfl) rfl ((hb0.ext e1).pv 0 _ rfl)) ?_
          refine l_v (v_build (pl := [(0, 1)]) (z := .agg #[.slice none 0 0]) (zl := [.slice none 0 0]) (by kernel_rfl) (by unfold kZero; kernel_rfl) rfl rfl (cells := [_]) rfl) ?_
          refine l_to (to_box (show _ = (Value.agg _) from rfl) ?_)
          rintro b2 w2 rfl hb2 e2 z2
          have zs_e2 := e2.size
          have e12 := e1.trans e2
          refine l_v (v_assign (t := .pointer _) rfl) ?_
          refine l_nil ?_
          refine n_then ?_
          refine c_seq ?_
          refine wp_reg (by decide +kernel) ?_
          refine l_v (v_move (t := .pointer _) rfl) ?_
          refine l_to (to_f1 (by kernel_rfl) (show _ = (Value.pointer _) from rfl) (CallsR.mono (rNumber_c (b := w1.heap.size) (l := l) (F := F) ⟨a, c, hb2, hv.ext e12⟩ (fun h => by have := hF _ h; omega)) ?_))
          rintro r w3 ⟨hr3, h3, k3⟩
          have zs_k3 := k3.size
          rw [numV, hd] at hr3
          simp only [] at hr3
          rw [← hz] at hr3
          subst hr3
          have e3 : Ext w w3 := e12.step k3 fun i hi h => by omega
          refine l_v (v_move (t := .tuple _) rfl) ?_
          refine l_v (v_extract (t := .int _ _) rfl rfl) ?_
          refine l_v (v_extract (t := .int _ _) rfl rfl) ?_
          refine l_v (v_assign (t := .int _ _) rfl) ?_
          refine l_v (v_assign (t := .int _ _) rfl) ?_
          refine l_nil ?_
          refine n_then ?_
          refine c_seq ?_
          refine c_seq ?_
          refine wp_reg (by decide +kernel) ?_
          refine l_v (v_move (t := .int _ _) rfl) ?_
          refine l_v (v_eql rfl rfl) ?_
          refine l_v (v_move (t := .bool _) rfl) ?_
          refine l_g1 rfl rfl (fun hG => v_move (t := .int _ _) rfl) ?_
          refine l_g1 rfl rfl (fun hG => v_move (t := .int _ _) rfl) ?_
          refine l_g1 rfl rfl (fun hG => v_conv (ds := .int .i64) (by kernel_rfl) (by kernel_rfl) (gd hG rfl) (by first | exact wr_u64 (by omega) (by omega) | rfl)) ?_
          refine l_g1 rfl rfl (fun hG => v_gtr (gd hG rfl) (gd hG rfl)) ?_
          refine l_v (v_and rfl rfl) ?_
          refine l_nil ?_
          refine n_then ?_
          refine c_cond rfl rfl (fun hc3 => ?_) (fun hc3 => ?_)
          · skip
            refine wp_reg (by decide +kernel) ?_
            refine l_v (v_assign rfl) ?_
            refine l_nil ?_
            refine n_then ?_
            refine c_seq ?_
            refine c_seq ?_
            refine wp_reg (by decide +kernel) ?_
            refine l_v (v_move (t := .int _ _) rfl) ?_
            refine l_v (v_eql rfl rfl) ?_
            refine l_nil ?_
            refine n_then ?_
            refine c_cond rfl rfl (fun hc4 => ?_) (fun hc4 => ?_)
            · skip
              have := dtrue hc4; omega
            · skip
              refine c_skip ?_
              refine n_then ?_
              refine c_seq ?_
              refine c_seq ?_
              refine wp_reg (by decide +kernel) ?_
              refine l_v (v_move (t := .int _ _) rfl) ?_
              refine l_v (v_neq rfl rfl) ?_
              refine l_nil ?_
              refine n_then ?_
              refine c_cond rfl rfl (fun hc5 => ?_) (fun hc5 => ?_)
              · skip
                refine c_seq ?_
                refine wp_reg (by decide +kernel) ?_
                refine l_v (v_move (t := .slice _ _ _) rfl) ?_
                refine l_v (v_move (t := .int _ _) rfl) ?_
                refine l_v (v_assign (t := .slice _ _ _) rfl) ?_
                refine l_v (v_assign (t := .int _ _) rfl) ?_
                refine l_nil ?_
                refine n_then ?_
                refine c_ret ?_
                refine r_then ?_
                refine ret2 rfl (by decide) (by decide) ?_
                refine ⟨?_, e3.keep⟩
                rw [htr]
                exact ⟨by omega, rfl, ⟨a, c, hb0.ext e3, hv.ext e3⟩⟩
              · skip
                simp at hc5
          · skip
            simp at hc3; omega


theorem takeLn_c {w : World} {b : Nat} {F : Nat → Prop} {l : List UInt8} {most : Int} {fr : Nat} {cap : Array Value} (hr : Rd nRd w b F l) (hF : ∀ k, F k → k < b) (hm : 0 ≤ most) (hm2 : most ≤ 9223372036854775807) (hl : l.length ≤ 1000000000000) (hb : kBody Try.prog fr = true)
    (ρ : List UInt8 → Except Int (LnV × List UInt8)) (hρ : ∀ l x l2, ρ l = .ok (x, l2) → l2.length < l.length)
    (hone : ∀ (w1 : World) (c : Nat) (l1 : List UInt8), Ext w w1 → w.heap.size ≤ c → Rd nRd w1 c F l1 → l1.length ≤ l.length → CallsR Try.prog fr (#[.pointer (some ⟨c, 0, none⟩)] ++ cap) w1 (fun r w2 => OneVLn w1 w2 c F (ρ l1) r ∧ Keep (fun k => k = c) w1 w2)) :
    CallsR Try.prog 60 #[.pointer (some ⟨b, 0, none⟩), .int .i64 most, .func (.func fr) #[] cap] w (fun r w' => TryV (tLn) 103 nRd w w' b F l (tryRd (rdList ρ) most.toNat l) r ∧ Keep (fun k => k = b) w w') := by
  have hblt : b < w.heap.size := by obtain ⟨_, _, h, _⟩ := hr; exact h.lt
  cases hq : tryRd (rdList ρ) most.toNat l with
  | error er =>
    refine enter 16 Try.func60 rfl rfl (by simp) ?_
    refine c_seq ?_
    refine wp_reg (by decide +kernel) ?_
    refine l_to (to_box (show _ = (Value.func _ _ _) from rfl) ?_)
    rintro b1 w1 rfl hb1 e1 z1
    have zs_e1 := e1.size
    refine l_v (v_assign rfl) ?_
    refine l_v (v_assign rfl) ?_
    refine l_nil ?_
    refine n_then ?_
    refine c_seq ?_
    refine c_seq ?_
    refine wp_reg (by decide +kernel) ?_
    refine l_v (v_load (by kernel_rfl) rfl (hb1.pv 0 _ rfl)) ?_
    refine l_v (v_feqlnil (ps := #[97]) (rs := #[103, 29]) (v := false) (by kernel_rfl) rfl rfl) ?_
    refine l_nil ?_
    refine n_then ?_
    refine c_cond rfl rfl (fun hc => ?_) (fun hc => ?_)
    · skip
      cases hc
    · skip
      refine c_skip ?_
      refine n_then ?_
      refine c_seq ?_
      refine wp_reg (by decide +kernel) ?_
      refine l_v (v_move (t := .pointer _) rfl) ?_
      refine l_v (v_move (t := .int _ _) rfl) ?_
      refine l_v (v_makeFunc (by simp [ev]; rfl) (by simp [ev]; rfl)) ?_
      refine l_to (to_f3 (by kernel_rfl) (show _ = (Value.pointer _) from rfl) (show _ = (Value.int _ _) from rfl) (show _ = (Value.func _ _ _) from rfl) (CallsR.mono (tryLn_c (cap := #[.pointer (some ⟨w.heap.size, 0, none⟩)]) (hr.ext e1) hF hm hm2 (by kernel_rfl) (rdList ρ) (fun w2 c l1 n e2 hc1 hr1 hl1 hn1 => by simpa using takeInLn_c hr1 (fun k hk => by have := hF k hk; have := e2.size; omega) (fun h => by have := hF _ h; omega) (by omega) (by omega) hb (hb1.ext e2) (by omega) ρ hρ (fun w3 l3 k3 hr3 hl3 => hone w3 c l3 ((e1.trans e2).step k3 (fun i hi h => by omega)) (by omega) hr3 (by omega)))) ?_))
      rintro r w2 ⟨h2, k2⟩
      have zs_k2 := k2.size
      rw [hq] at h2
      obtain ⟨her, rfl, h3⟩ := h2
      refine l_v (v_extract (t := .slice _ _ _) rfl rfl) ?_
      refine l_v (v_extract (t := .int _ _) rfl rfl) ?_
      refine l_v (v_assign (t := .slice _ _ _) rfl) ?_
      refine l_v (v_assign (t := .int _ _) rfl) ?_
      refine l_nil ?_
      refine n_then ?_
      refine c_ret ?_
      refine ret2 rfl (by decide) (by decide) ?_
      exact ⟨⟨her, rfl, h3⟩, (e1.mono fun _ _ h => h.elim).trans k2⟩
  | ok xl =>
    obtain ⟨x, l2⟩ := xl
    refine enter 16 Try.func60 rfl rfl (by simp) ?_
    refine c_seq ?_
    refine wp_reg (by decide +kernel) ?_
    refine l_to (to_box (show _ = (Value.func _ _ _) from rfl) ?_)
    rintro b1 w1 rfl hb1 e1 z1
    have zs_e1 := e1.size
    refine l_v (v_assign rfl) ?_
    refine l_v (v_assign rfl) ?_
    refine l_nil ?_
    refine n_then ?_
    refine c_seq ?_
    refine c_seq ?_
    refine wp_reg (by decide +kernel) ?_
    refine l_v (v_load (by kernel_rfl) rfl (hb1.pv 0 _ rfl)) ?_
    refine l_v (v_feqlnil (ps := #[97]) (rs := #[103, 29]) (v := false) (by kernel_rfl) rfl rfl) ?_
    refine l_nil ?_
    refine n_then ?_
    refine c_cond rfl rfl (fun hc => ?_) (fun hc => ?_)
    · skip
      cases hc
    · skip
      refine c_skip ?_
      refine n_then ?_
      refine c_seq ?_
      refine wp_reg (by decide +kernel) ?_
      refine l_v (v_move (t := .pointer _) rfl) ?_
      refine l_v (v_move (t := .int _ _) rfl) ?_
      refine l_v (v_makeFunc (by simp [ev]; rfl) (by simp [ev]; rfl)) ?_
      refine l_to (to_f3 (by kernel_rfl) (show _ = (Value.pointer _) from rfl) (show _ = (Value.int _ _) from rfl) (show _ = (Value.func _ _ _) from rfl) (CallsR.mono (tryLn_c (cap := #[.pointer (some ⟨w.heap.size, 0, none⟩)]) (hr.ext e1) hF hm hm2 (by kernel_rfl) (rdList ρ) (fun w2 c l1 n e2 hc1 hr1 hl1 hn1 => by simpa using takeInLn_c hr1 (fun k hk => by have := hF k hk; have := e2.size; omega) (fun h => by have := hF _ h; omega) (by omega) (by omega) hb (hb1.ext e2) (by omega) ρ hρ (fun w3 l3 k3 hr3 hl3 => hone w3 c l3 ((e1.trans e2).step k3 (fun i hi h => by omega)) (by omega) hr3 (by omega)))) ?_))
      rintro r w2 ⟨h2, k2⟩
      have zs_k2 := k2.size
      rw [hq] at h2
      obtain ⟨a4, c4, rfl, o4, h4⟩ := h2
      refine l_v (v_extract (t := .slice _ _ _) rfl rfl) ?_
      refine l_v (v_extract (t := .int _ _) rfl rfl) ?_
      refine l_v (v_assign (t := .slice _ _ _) rfl) ?_
      refine l_v (v_assign (t := .int _ _) rfl) ?_
      refine l_nil ?_
      refine n_then ?_
      refine c_ret ?_
      refine ret2 rfl (by decide) (by decide) ?_
      exact ⟨⟨a4, c4, rfl, (o4.base (by omega)).mono (fun i _ h => by omega), h4⟩, (e1.mono fun _ _ h => h.elim).trans k2⟩

set_option maxHeartbeats 4000000 in
theorem oneLn_c {w : World} {b : Nat} {F : Nat → Prop} {l : List UInt8} (HR : Rd nRd w b F l) (hF : ∀ k, F k → k < b) (hl : l.length ≤ 1000000) : CallsR Try.prog 61 (#[.pointer (some ⟨b, 0, none⟩)] ++ #[]) w (fun r w2 => OneVLn w w2 b F (rdLn l) r ∧ Keep (fun k => k = b) w w2) := by
  have hblt : b < w.heap.size := by obtain ⟨_, _, h, _⟩ := HR; exact h.lt
  have hnF : ¬ F b := fun h => absurd (hF b h) (Nat.lt_irrefl b)
  have q1 := rest_len l
  have q2 := rest_len (rest l)
  have q3 := rest_len (rest (rest l))
  show CallsR _ _ #[_] _ _
  refine enter 81 Try.func61 rfl rfl (by simp) ?_
  refine c_seq ?_
  have E := Keep.refl (K := fun k => k = b) w
  refine wp_reg (by decide +kernel) ?_
  refine l_to (to_alloc (z := (.agg #[.int .i64 0, .int .i64 0, .int .i64 0, .slice none 0 0, .slice none 0 0])) (by unfold kZero; kernel_rfl) ?_)
  rintro b2 w2 zb2 HB2 e2 z2
  have zs_e2 := e2.size
  replace E := E.trans (Ext.keep e2)
  replace HR := HR.ext e2
  try simp only [Value.cells] at HB2
  refine l_v (v_assign rfl) ?_
  refine l_nil ?_
  refine n_then ?_
  refine c_seq ?_
  refine wp_reg (by decide +kernel) ?_
  refine l_v (v_move (t := .pointer _) rfl) ?_
  refine l_to (to_f1 (by kernel_rfl) (show _ = (Value.pointer _) from rfl) (CallsR.mono (rNumber_c HR hnF) ?_))
  rintro r w4 ⟨hr4, HR4, k4⟩
  have zs_k4 := k4.size
  obtain ⟨n1, f1, hn1, hb1, hx1⟩ := numV_any l
  rw [hn1] at hr4
  subst hr4
  replace E := E.step k4 (by intro i hi he; (try dsimp only [NoK] at hi he ⊢); first | exact he.elim | omega | exact he)
  replace HB2 := HB2.keep k4 (by intro h; (try dsimp only at h); first | omega)
  refine l_v (v_move (t := .tuple _) rfl) ?_
  refine l_v (v_extract (t := .int _ _) rfl rfl) ?_
  refine l_v (v_extract (t := .int _ _) rfl rfl) ?_
  refine l_v (v_assign (t := .int _ _) rfl) ?_
  refine l_v (v_assign (t := .int _ _) rfl) ?_
  refine l_nil ?_
  refine n_then ?_
  refine c_seq ?_
  refine wp_reg (by decide +kernel) ?_
  refine l_v (v_move (t := .pointer _) rfl) ?_
  refine l_to (to_f1 (by kernel_rfl) (show _ = (Value.pointer _) from rfl) (CallsR.mono (rNumber_c HR4 hnF) ?_))
  rintro r w5 ⟨hr5, HR5, k5⟩
  have zs_k5 := k5.size
  obtain ⟨n2, f2, hn2, hb2, hx2⟩ := numV_any (rest l)
  rw [hn2] at hr5
  subst hr5
  replace E := E.step k5 (by intro i hi he; (try dsimp only [NoK] at hi he ⊢); first | exact he.elim | omega | exact he)
  replace HB2 := HB2.keep k5 (by intro h; (try dsimp only at h); first | omega)
  refine l_v (v_move (t := .tuple _) rfl) ?_
  refine l_v (v_extract (t := .int _ _) rfl rfl) ?_
  refine l_v (v_extract (t := .int _ _) rfl rfl) ?_
  refine l_v (v_assign (t := .int _ _) rfl) ?_
  refine l_v (v_assign (t := .int _ _) rfl) ?_
  refine l_nil ?_
  refine n_then ?_
  refine c_seq ?_
  refine wp_reg (by decide +kernel) ?_
  refine l_v (v_move (t := .pointer _) rfl) ?_
  refine l_to (to_f1 (by kernel_rfl) (show _ = (Value.pointer _) from rfl) (CallsR.mono (rNumber_c HR5 hnF) ?_))
  rintro r w6 ⟨hr6, HR6, k6⟩
  have zs_k6 := k6.size
  obtain ⟨n3, f3, hn3, hb3, hx3⟩ := numV_any (rest (rest l))
  rw [hn3] at hr6
  subst hr6
  replace E := E.step k6 (by intro i hi he; (try dsimp only [NoK] at hi he ⊢); first | exact he.elim | omega | exact he)
  replace HB2 := HB2.keep k6 (by intro h; (try dsimp only at h); first | omega)
  refine l_v (v_move (t := .tuple _) rfl) ?_
  refine l_v (v_extract (t := .int _ _) rfl rfl) ?_
  refine l_v (v_extract (t := .int _ _) rfl rfl) ?_
  refine l_v (v_assign (t := .int _ _) rfl) ?_
  refine l_v (v_assign (t := .int _ _) rfl) ?_
  refine l_nil ?_
  refine n_then ?_
  refine c_seq ?_
  refine wp_reg (by decide +kernel) ?_
  refine l_v (v_move (t := .pointer _) rfl) ?_
  refine l_to (to_f3 (by kernel_rfl) (show _ = (Value.pointer _) from rfl) (show _ = (Value.int _ _) from rfl) rfl (CallsR.mono (takePr_c (cap := #[]) HR6 hF (by decide) (by decide) (by omega) (by kernel_rfl) rdPr rdPr_short (fun w1 c l1 e hc r hl => onePr_c r (fun k hk => by have := hF k hk; omega) (by omega))) ?_))
  rintro r w7 ⟨hr7, k7⟩
  have zs_k7 := k7.size
  obtain ⟨a7, c7, er7, ps, l4, rfl, HO7, HR7, hx7⟩ := TryV_any hr7
  have hl4 : l4.length ≤ l.length := by
    rcases hx7 with ⟨_, hq⟩ | ⟨_, _, h, _⟩
    · have := (tryPr_ok (show tryRd (rdList rdPr) 32 _ = _ from hq)).2.2.1; omega
    · rw [h]; omega
  replace E := E.step k7 (by intro i hi he; (try dsimp only [NoK] at hi he ⊢); first | exact he.elim | omega | exact he)
  replace HB2 := HB2.keep k7 (by intro h; (try dsimp only at h); first | omega)
  have zo_HO7 := fun (b : Nat) h => HO7.own_lt (b := b) h
  refine l_v (v_move (t := .tuple _) rfl) ?_
  refine l_v (v_extract (t := .slice _ _ _) rfl rfl) ?_
  refine l_v (v_extract (t := .int _ _) rfl rfl) ?_
  refine l_v (v_assign (t := .slice _ _ _) rfl) ?_
  refine l_v (v_assign (t := .int _ _) rfl) ?_
  refine l_nil ?_
  refine n_then ?_
  refine c_seq ?_
  refine wp_reg (by decide +kernel) ?_
  refine l_v (v_move (t := .pointer _) rfl) ?_
  refine l_to (to_f2 (by kernel_rfl) (show _ = (Value.pointer _) from rfl) (show _ = (Value.int _ _) from rfl) (CallsR.mono (Bytes2_c (most := 25) HR7 hF (by decide) (by decide) (by omega)) ?_))
  rintro r w8 ⟨hr8, k8⟩
  have zs_k8 := k8.size
  obtain ⟨a8, c8, er8, nx, l5, rfl, HO8, HR8, hx8⟩ := TryV_any hr8
  replace E := E.step k8 (by intro i hi he; (try dsimp only [NoK] at hi he ⊢); first | exact he.elim | omega | exact he)
  replace HB2 := HB2.keep k8 (by intro h; (try dsimp only at h); first | omega)
  replace HO7 := HO7.keep k8 (by intro i ho he; have he0 := he; have ho0 := ho; (try dsimp only [NoK] at he); (try simp only [Value.ownBlock, Option.some.injEq, reduceCtorEq] at ho); (try simp only [Value.ownBlock, Option.some.injEq, reduceCtorEq] at he); first | exact he.elim | exact ho.elim | omega | (have := zo_HO7 _ ho0; omega)) (by intro i _ hi _ he; have he0 := he; have hi := hi; have he := he; (try dsimp only [NoK, AllB] at hi he); (try simp only [Value.ownBlock, Option.some.injEq, reduceCtorEq] at he); all_goals first | exact hi.elim | exact hi.1.elim | exact he.elim | omega | (rcases hi with hi | hi <;> omega) | (rcases he with he | he <;> omega))
  have zo_HO8 := fun (b : Nat) h => HO8.own_lt (b := b) h
  refine l_v (v_move (t := .tuple _) rfl) ?_
  refine l_v (v_extract (t := .slice _ _ _) rfl rfl) ?_
  refine l_v (v_extract (t := .int _ _) rfl rfl) ?_
  refine l_v (v_assign (t := .slice _ _ _) rfl) ?_
  refine l_v (v_assign (t := .int _ _) rfl) ?_
  refine l_nil ?_
  refine n_then ?_
  refine c_seq ?_
  refine c_seq ?_
  refine wp_reg (by decide +kernel) ?_
  refine l_v (v_move (t := .int _ _) rfl) ?_
  refine l_v (v_neq rfl rfl) ?_
  refine l_v (v_move (t := .bool _) rfl) ?_
  refine l_g1 rfl rfl (fun hG => v_move (t := .int _ _) rfl) ?_
  refine l_g1 rfl rfl (fun hG => v_neq (gd hG rfl) rfl) ?_
  refine l_v (v_or rfl rfl) ?_
  refine l_v (v_move (t := .bool _) rfl) ?_
  refine l_g1 rfl rfl (fun hG => v_move (t := .int _ _) rfl) ?_
  refine l_g1 rfl rfl (fun hG => v_neq (gd hG rfl) rfl) ?_
  refine l_v (v_or rfl rfl) ?_
  refine l_v (v_move (t := .bool _) rfl) ?_
  refine l_g1 rfl rfl (fun hG => v_move (t := .int _ _) rfl) ?_
  refine l_g1 rfl rfl (fun hG => v_neq (gd hG rfl) rfl) ?_
  refine l_v (v_or rfl rfl) ?_
  refine l_v (v_move (t := .bool _) rfl) ?_
  refine l_g1 rfl rfl (fun hG => v_move (t := .int _ _) rfl) ?_
  refine l_g1 rfl rfl (fun hG => v_neq (gd hG rfl) rfl) ?_
  refine l_v (v_or rfl rfl) ?_
  refine l_v (v_move (t := .bool _) rfl) ?_
  refine l_g1 rfl rfl (fun hG => v_move (t := .int _ _) rfl) ?_
  refine l_g1 rfl rfl (fun hG => v_gtr (gd hG rfl) rfl) ?_
  refine l_v (v_or rfl rfl) ?_
  refine l_v (v_move (t := .bool _) rfl) ?_
  refine l_g1 rfl rfl (fun hG => v_move (t := .int _ _) rfl) ?_
  refine l_g1 rfl rfl (fun hG => v_gtr (gd hG rfl) rfl) ?_
  refine l_v (v_or rfl rfl) ?_
  refine l_v (v_move (t := .bool _) rfl) ?_
  refine l_g1 rfl rfl (fun hG => v_move (t := .int _ _) rfl) ?_
  refine l_g1 rfl rfl (fun hG => v_gtr (gd hG rfl) rfl) ?_
  refine l_v (v_or rfl rfl) ?_
  refine l_nil ?_
  refine n_then ?_
  refine c_cond rfl rfl (fun hc => ?_) (fun hc => ?_)
  · skip
    refine c_seq ?_
    refine wp_reg (by decide +kernel) ?_
    refine l_v (v_build (pl := [(0, 1), (1, 4)]) (z := .agg #[.int .i64 0, .int .i64 0, .int .i64 0, .slice none 0 0, .slice none 0 0]) (zl := [.int .i64 0, .int .i64 0, .int .i64 0, .slice none 0 0, .slice none 0 0]) (by kernel_rfl) (by unfold kZero; kernel_rfl) rfl rfl (cells := [_, _, _, _, _]) rfl) ?_
    refine l_to (to_storeA (n := 5) rfl rfl (show _ = (Value.agg _) from rfl) (by kernel_rfl) rfl (by first | (simp [slice_one]; done) | (simp only [List.forall_mem_cons, List.cons_append, List.nil_append]; repeat' (first | exact rfl | apply And.intro | (intro u hu; cases hu; done)))) HB2 (by first | exact of_decide_eq_true rfl | (simp; done) | decide | (simp only [List.length_set, hlen]; exact of_decide_eq_true rfl)) ?_)
    rintro w101 HX101 k101 z101
    have zs_k101 := k101.size
    replace E := E.step k101 (by intro i hi he; (try dsimp only [NoK] at hi he ⊢); first | exact he.elim | omega | exact he)
    replace HO7 := HO7.keep k101 (by intro i ho he; have he0 := he; have ho0 := ho; (try dsimp only [NoK] at he); (try simp only [Value.ownBlock, Option.some.injEq, reduceCtorEq] at ho); (try simp only [Value.ownBlock, Option.some.injEq, reduceCtorEq] at he); first | exact he.elim | exact ho.elim | omega | (have := zo_HO7 _ ho0; omega)) (by intro i _ hi _ he; have he0 := he; have hi := hi; have he := he; (try dsimp only [NoK, AllB] at hi he); (try simp only [Value.ownBlock, Option.some.injEq, reduceCtorEq] at he); all_goals first | exact hi.elim | exact hi.1.elim | exact he.elim | omega | (rcases hi with hi | hi <;> omega) | (rcases he with he | he <;> omega))
    replace HO8 := HO8.keep k101 (by intro i ho he; have he0 := he; have ho0 := ho; (try dsimp only [NoK] at he); (try simp only [Value.ownBlock, Option.some.injEq, reduceCtorEq] at ho); (try simp only [Value.ownBlock, Option.some.injEq, reduceCtorEq] at he); first | exact he.elim | exact ho.elim | omega | (have := zo_HO8 _ ho0; omega)) (by intro i _ hi _ he; have he0 := he; have hi := hi; have he := he; (try dsimp only [NoK, AllB] at hi he); (try simp only [Value.ownBlock, Option.some.injEq, reduceCtorEq] at he); all_goals first | exact hi.elim | exact hi.1.elim | exact he.elim | omega | (rcases hi with hi | hi <;> omega) | (rcases he with he | he <;> omega))
    replace HR8 := HR8.keep k101 (by intro h; have h := h; (try dsimp only [NoK] at h); first | exact h | omega | (rcases h with h | h <;> omega)) (by intro i hi he; have hi0 := hi; have hi := hi; have he := he; (try dsimp only [NoK] at hi he); first | exact he.elim | omega | (have := hF i hi0; omega))
    replace HB2 := HX101
    clear HX101
    try simp only [List.set_cons_zero, List.set_cons_succ, setAt, List.take_zero, List.take_succ_cons, List.drop_zero, List.drop_succ_cons, List.nil_append, List.cons_append, List.append_nil, List.length_cons, List.length_nil, Nat.zero_add, Nat.reduceAdd, List.drop_nil] at HB2
    refine l_v (v_assign rfl) ?_
    refine l_nil ?_
    refine n_then ?_
    refine c_ret ?_
    refine r_then ?_
    refine ret2cv (n := 5) rfl (by decide) (by decide) rfl (by kernel_rfl) HB2.pv rfl (show _ = (Value.int _ _) from rfl) ?_
    refine ⟨?_, E⟩
    have h : rdLn l = .error 4 := by
      rcases hq : rdLn l with e | ⟨x, r⟩
      · rw [rdLn_err hq]
      · exfalso
        obtain ⟨c, l1, n, l2, e, l3, ps', l4', nx', g1, g2, g3, g4, g5, g6, g7, g8⟩ := rdLn_inv hq
        rcases hx1 with ⟨z1, _, d1⟩ | ⟨_, _, _, d1⟩
        · rw [d1] at g1; cases g1
          rcases hx2 with ⟨z2, _, d2⟩ | ⟨_, _, _, d2⟩
          · rw [d2] at g2; cases g2
            rcases hx3 with ⟨z3, _, d3⟩ | ⟨_, _, _, d3⟩
            · rw [d3] at g3; cases g3
              rcases hx7 with ⟨z7, d7⟩ | ⟨_, _, _, _, _, d7⟩
              · rw [show tryRd (rdList rdPr) 32 _ = _ from d7] at g4; cases g4
                rcases hx8 with ⟨z8, d8⟩ | ⟨_, _, _, _, _, d8⟩
                · subst z1; subst z2; subst z3; subst z7; subst z8
                  simp only [Bool.or_eq_true, decide_eq_true_eq, Bool.not_eq_true', decide_eq_false_iff_not, ne_eq, not_true_eq_false, false_or] at hc
                  omega
                · rw [show rdBytes 25 _ = _ from d8] at g5; cases g5
              · rw [show tryRd (rdList rdPr) 32 _ = _ from d7] at g4; cases g4
            · rw [d3] at g3; cases g3
          · rw [d2] at g2; cases g2
        · rw [d1] at g1; cases g1
    rw [h]
    exact ⟨by decide, _, (0, 0, 0, [], []), rfl, tLn_mk (SlV.nil _ _ _) (SlV.nil _ _ _) ⟨by decide, by decide⟩ ⟨by decide, by decide⟩ ⟨by decide, by decide⟩⟩
  · skip
    simp only [Bool.or_eq_false_iff, decide_eq_false_iff_not, Bool.not_eq_false', decide_eq_true_eq, ne_eq, Decidable.not_not] at hc
    obtain ⟨⟨⟨⟨⟨⟨⟨z1, z2⟩, z3⟩, z7⟩, z8⟩, y1⟩, y2⟩, y3⟩ := hc
    refine c_skip ?_
    refine n_then ?_
    refine c_seq ?_
    refine wp_reg (by decide +kernel) ?_
    refine l_v (v_move (t := .int _ _) rfl) ?_
    refine l_v (v_conv (ds := .int .u64) (by kernel_rfl) (by kernel_rfl) rfl (by first | exact wr_i64 (by omega) (by omega) | rfl)) ?_
    refine l_v (v_move (t := .int _ _) rfl) ?_
    refine l_v (v_conv (ds := .int .u64) (by kernel_rfl) (by kernel_rfl) rfl (by first | exact wr_i64 (by omega) (by omega) | rfl)) ?_
    refine l_v (v_move (t := .int _ _) rfl) ?_
    refine l_v (v_conv (ds := .int .u64) (by kernel_rfl) (by kernel_rfl) rfl (by first | exact wr_i64 (by omega) (by omega) | rfl)) ?_
    refine l_v (v_move (t := .slice _ _ _) rfl) ?_
    refine l_v (v_move (t := .slice _ _ _) rfl) ?_
    refine l_v (v_build (pl := [(0, 1), (1, 1), (2, 1)]) (z := .agg #[.int .i64 0, .slice none 0 0, .slice none 0 0]) (zl := [.int .i64 0, .slice none 0 0, .slice none 0 0]) (by kernel_rfl) (by unfold kZero; kernel_rfl) rfl rfl (cells := [_, _, _]) rfl) ?_
    refine l_v (v_build (pl := [(0, 1), (1, 3)]) (z := .agg #[.int .i64 0, .int .i64 0, .slice none 0 0, .slice none 0 0]) (zl := [.int .i64 0, .int .i64 0, .slice none 0 0, .slice none 0 0]) (by kernel_rfl) (by unfold kZero; kernel_rfl) rfl rfl (cells := [_, _, _, _]) rfl) ?_
    refine l_v (v_build (pl := [(0, 1), (1, 4)]) (z := .agg #[.int .i64 0, .int .i64 0, .int .i64 0, .slice none 0 0, .slice none 0 0]) (zl := [.int .i64 0, .int .i64 0, .int .i64 0, .slice none 0 0, .slice none 0 0]) (by kernel_rfl) (by unfold kZero; kernel_rfl) rfl rfl (cells := [_, _, _, _, _]) rfl) ?_
    refine l_to (to_storeA (n := 5) rfl rfl (show _ = (Value.agg _) from rfl) (by kernel_rfl) rfl (by first | (simp [slice_one]; done) | (simp only [List.forall_mem_cons, List.cons_append, List.nil_append]; repeat' (first | exact rfl | apply And.intro | (intro u hu; cases hu; done)))) HB2 (by first | exact of_decide_eq_true rfl | (simp; done) | decide | (simp only [List.length_set, hlen]; exact of_decide_eq_true rfl)) ?_)
    rintro w102 HX102 k102 z102
    have zs_k102 := k102.size
    replace E := E.step k102 (by intro i hi he; (try dsimp only [NoK] at hi he ⊢); first | exact he.elim | omega | exact he)
    replace HO7 := HO7.keep k102 (by intro i ho he; have he0 := he; have ho0 := ho; (try dsimp only [NoK] at he); (try simp only [Value.ownBlock, Option.some.injEq, reduceCtorEq] at ho); (try simp only [Value.ownBlock, Option.some.injEq, reduceCtorEq] at he); first | exact he.elim | exact ho.elim | omega | (have := zo_HO7 _ ho0; omega)) (by intro i _ hi _ he; have he0 := he; have hi := hi; have he := he; (try dsimp only [NoK, AllB] at hi he); (try simp only [Value.ownBlock, Option.some.injEq, reduceCtorEq] at he); all_goals first | exact hi.elim | exact hi.1.elim | exact he.elim | omega | (rcases hi with hi | hi <;> omega) | (rcases he with he | he <;> omega))
    replace HO8 := HO8.keep k102 (by intro i ho he; have he0 := he; have ho0 := ho; (try dsimp only [NoK] at he); (try simp only [Value.ownBlock, Option.some.injEq, reduceCtorEq] at ho); (try simp only [Value.ownBlock, Option.some.injEq, reduceCtorEq] at he); first | exact he.elim | exact ho.elim | omega | (have := zo_HO8 _ ho0; omega)) (by intro i _ hi _ he; have he0 := he; have hi := hi; have he := he; (try dsimp only [NoK, AllB] at hi he); (try simp only [Value.ownBlock, Option.some.injEq, reduceCtorEq] at he); all_goals first | exact hi.elim | exact hi.1.elim | exact he.elim | omega | (rcases hi with hi | hi <;> omega) | (rcases he with he | he <;> omega))
    replace HR8 := HR8.keep k102 (by intro h; have h := h; (try dsimp only [NoK] at h); first | exact h | omega | (rcases h with h | h <;> omega)) (by intro i hi he; have hi0 := hi; have hi := hi; have he := he; (try dsimp only [NoK] at hi he); first | exact he.elim | omega | (have := hF i hi0; omega))
    replace HB2 := HX102
    clear HX102
    try simp only [List.set_cons_zero, List.set_cons_succ, setAt, List.take_zero, List.take_succ_cons, List.drop_zero, List.drop_succ_cons, List.nil_append, List.cons_append, List.append_nil, List.length_cons, List.length_nil, Nat.zero_add, Nat.reduceAdd, List.drop_nil] at HB2
    refine l_v (v_assign rfl) ?_
    refine l_nil ?_
    refine n_then ?_
    refine c_ret ?_
    refine ret2cv (n := 5) rfl (by decide) (by decide) rfl (by kernel_rfl) HB2.pv rfl (show _ = (Value.int _ _) from rfl) ?_
    refine ⟨?_, E⟩
    rcases hx1 with ⟨_, _, d1⟩ | ⟨z, _⟩
    · rcases hx2 with ⟨_, _, d2⟩ | ⟨z, _⟩
      · rcases hx3 with ⟨_, _, d3⟩ | ⟨z, _⟩
        · rcases hx7 with ⟨_, d7⟩ | ⟨z, _⟩
          · rcases hx8 with ⟨_, d8⟩ | ⟨z, _⟩
            · have h : rdLn l = .ok (((n1 : Int), (n2 : Int), (n3 : Int), ps, nx), l5) := by
                rw [rdLn, d1]; simp only []
                rw [d2]; simp only []
                rw [d3]; simp only []
                rw [show tryRd (rdList rdPr) 32 _ = _ from d7]; simp only []
                rw [show rdBytes 25 _ = _ from d8]; simp only []
                rw [if_pos (by omega)]
              rw [h]
              exact ⟨_, rfl, tLn_mk (HO7.view.mono fun b _ h => by rcases h with h | h <;> omega) (HO8.view.mono fun b _ h => by rcases h with h | h <;> omega) ⟨by omega, by omega⟩ ⟨by omega, by omega⟩ ⟨by omega, by omega⟩, HR8⟩
            · omega
          · omega
        · omega
      · omega
    · omega
end Go.Proofs.Ytlhanmlpionomaa
