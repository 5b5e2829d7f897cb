/- A part of the proof: steps and lemmas for the walks through the given program. -/
import Derived.Test.YthnpnniiejcnbaaW13
import Derived.Test.YthnpnniiejcnbaaVc16
namespace Go.Proofs.Ythnpnniiejcnbaa
open Go.Vc
set_option linter.unusedVariables false
set_option linter.unusedSimpArgs false
set_option maxRecDepth 100000

/-- two numbers' forms -/
def sP (x : Int × Int) : List UInt8 := wNum x.1.toNat ++ wNum x.2.toNat
theorem formP_c {w : World} {F : Nat → Prop} {cs : List Value} {x : Int × Int} (hr : tP2.rep w F cs x) : CallsR Try.prog 30 (#[.agg cs.toArray] ++ #[]) w (fun r w2 => OwV tU8 nU8 w2 w.heap.size NoK r (sP x) ∧ Ext w w2) := by
  obtain ⟨x1, x2⟩ := x
  obtain ⟨_, _, rfl, ⟨rfl, hw1⟩, ⟨rfl, hw2⟩⟩ := hr
  obtain ⟨h1, h2⟩ := wf_u64 hw1
  obtain ⟨h3, h4⟩ := wf_u64 hw2
  simp only [] at h1 h2 h3 h4
  obtain ⟨n, rfl⟩ := Int.eq_ofNat_of_zero_le h1
  obtain ⟨m, rfl⟩ := Int.eq_ofNat_of_zero_le h3
  have hn := wNum_len10 (n := n) (by omega)
  have hm := wNum_len10 (n := m) (by omega)
  show CallsR _ _ #[_] _ _
  refine enter 10 Try.func30 rfl rfl (by simp) ?_
  refine c_seq ?_
  refine wp_reg (by decide +kernel) ?_
  refine l_to (to_box (show _ = (Value.agg _) from rfl) ?_)
  rintro b1 w1 rfl hb1 e1 z1
  have zs_e1 := e1.size
  refine l_v (v_assign rfl) ?_
  refine l_nil ?_
  refine n_then ?_
  refine c_seq ?_
  refine wp_regJ (fun b => (.slice none 0 0 : Value).ownBlock = some b ∨ w1.heap.size ≤ b) (EqJ [(7, 6)] (ChainJ (tU8) (nU8) w1.heap.size (w1.heap.size) (NoK) (AllB) (.slice none 0 0 : Value) ([]) [2, 6] [none, some 5] [wNum n, wNum m])) (by kernel_rfl) (by decide +kernel) (by decide +kernel) (fun vals done hd => EqJ.start (ChainJ.start ((OwV.nil _ _ _ _ _).ext (Keep.drawn _ _)) (Nat.le_refl _) (Nat.le_refl _) (fun i hi => hd i (dOf_lt (by decide) hi))) (fun k j hq => hd k (dQ_lt (by decide) k j hq))) ?_
  refine rj_v (EqJ.on ChainJ.on) (by decide) (fun done vals w hR hJ hdn hd => v_arrAddr (et := 29) (n := 2) (sz := 1) (k := 0) (by kernel_rfl) rfl rfl rfl (by decide)) ?_
  refine rj_v (EqJ.on ChainJ.on) (by decide) (fun done vals w hR hJ hdn hd => v_load (by kernel_rfl) (hd 0 rfl) ((hb1.keep hR (fun h => by rcases h with h | h; cases h; omega)).cell rfl)) ?_
  refine rj_d (fun done vals w hR hcl hdk hJ hdn hd => by
      have zs_R := hR.size
      exact to_f1 (by kernel_rfl) (hd 1 rfl) (CallsR.mono (Number_c (n := n) (by omega)) fun v w1 h => ⟨Keep.mono (h.2.2) (fun b _ h => h.elim), hJ.step hdk (by decide) (hJ.1.app (n := 0) rfl hdk (fun m h => by cases h) rfl (once_as (by decide)) (ps_ne (by decide)) (by simpa using (h.1).base (by omega)) (Keep.mono (h.2.2) (fun b _ h => h.elim)) (fun b hb => .inr ((h.1).own_lt hb).1))⟩)) ?_
  refine rj_v (EqJ.on ChainJ.on) (by decide) (fun done vals w hR hJ hdn hd => v_arrAddr (et := 29) (n := 2) (sz := 1) (k := 1) (by kernel_rfl) rfl rfl rfl (by decide)) ?_
  refine rj_v (EqJ.on ChainJ.on) (by decide) (fun done vals w hR hJ hdn hd => v_load (by kernel_rfl) (hd 3 rfl) ((hb1.keep hR (fun h => by rcases h with h | h; cases h; omega)).cell rfl)) ?_
  refine rj_d (fun done vals w hR hcl hdk hJ hdn hd => by
      have zs_R := hR.size
      exact to_f1 (by kernel_rfl) (hd 4 rfl) (CallsR.mono (Number_c (n := m) (by omega)) fun v w1 h => ⟨Keep.mono (h.2.2) (fun b _ h => h.elim), hJ.step hdk (by decide) (hJ.1.prod (n := 1) (h.2.2) rfl rfl (once_ps (by decide)) (by decide) (h.1.view.mono (fun b _ h => ⟨trivial, h.resolve_right (fun x => x)⟩)))⟩)) ?_
  refine rj_d (fun done vals w hR hcl hdk hJ hdn hd => by
      have zs_R := hR.size
      obtain ⟨hacc, hown, hsrc⟩ := hJ.1.at (n := 1) rfl hdk (fun m h => ⟨2, by cases h; rfl, hdn 2 rfl⟩)
      exact to_append (et := 5) (bytes := 1) (by kernel_rfl) rfl hacc rfl (hsrc _ _ rfl rfl (hdn 5 rfl)) (fun _ _ h => h) (by (simp; omega)) (by simp only [maxLen]; (simp; omega)) (by omega) (fun a n cc w1 o hn kk ho _ => ⟨kk.mono (fun b _ h => hown b h), hJ.step hdk (by decide) (hJ.1.app (n := 1) rfl hdk (fun m h => ⟨2, by cases h; rfl, hdn 2 rfl⟩) rfl (once_as (by decide)) (ps_ne (by decide)) o kk ho)⟩)) ?_
  refine rj_d (fun done vals w hR hcl hdk hJ hdn hd => OpTo.of_v (v_assign rfl) ⟨Keep.refl _, hJ.mv ChainJ.on (by decide) hdk (hdn 6 rfl) (by decide)⟩) ?_
  refine rj_nil (fun vals w2 k2 hJ => ?_)
  rintro _ _ rfl _ _ rfl _ rfl _ _ _ rfl _ _ rfl _ rfl _ _ rfl _ _ rfl _
  have zs_k2 := k2.size
  have o_hJ := hJ.1.fin (by exact Nat.le_refl _)
  refine fin_nilJ ?_
  refine n_then ?_
  refine wp_ret ?_
  refine ret1 rfl (by decide) ?_
  have hv := hJ.2 7 6 (by decide) rfl
  exact ⟨by show OwV _ _ _ _ _ (vals 7) _; rw [hv.2]; simpa [accV, sP] using o_hJ.base (by omega), e1.trans (k2.mono fun b hb h => by rcases h with h | h; cases h; omega)⟩

def rdP (l : List UInt8) : Except Int ((Int × Int) × List UInt8) := match rdNum l with
  | none => .error 4
  | some (a, l1) => match rdNum l1 with
    | none => .error 4
    | some (b, l2) => .ok (((a : Int), (b : Int)), l2)
theorem rdP_form : ∀ l x r, rdP l = .ok (x, r) → l = sP x ++ r := by
  intro l x r h
  rw [rdP] at h
  rcases hd : rdNum l with _ | ⟨n, l'⟩
  · rw [hd] at h; cases h
  · rw [hd] at h; simp only [] at h
    rcases hd2 : rdNum l' with _ | ⟨m, l2⟩
    · rw [hd2] at h; cases h
    · rw [hd2] at h; cases h
      rw [rdNum_form hd, rdNum_form hd2, sP]; simp
theorem rdP_short : ∀ l x r, rdP l = .ok (x, r) → r.length < l.length := by
  intro l x r h
  have h1 := rdP_form l x r h
  have := wNum_pos x.1.toNat
  rw [h1, List.length_append, sP, List.length_append]; omega
theorem wfu {n : Nat} (h : n < 18446744073709551616) : (Lit.int .u64 (n : Int)).wf = true := by
  simp [Lit.wf, IntKind.min, IntKind.max, IntKind.signed, IntKind.bits]; omega
theorem pairP_c {w : World} {b : Nat} {F : Nat → Prop} {l : List UInt8} (hr : Rd nRd w b F l) (hF : ∀ k, F k → k < w.heap.size) (hFb : ¬ F b) : CallsR Try.prog 32 (#[.pointer (some ⟨b, 0, none⟩)] ++ #[]) w (fun r w' => OneVP w w' b F (rdP l) r ∧ Keep (fun k => k = b) w w') := by
  have hblt : b < w.heap.size := by obtain ⟨_, _, h, _⟩ := hr; exact h.lt
  show CallsR _ _ #[_] _ _
  refine enter 25 Try.func32 rfl rfl (by simp) ?_
  refine c_seq ?_
  refine wp_reg (by decide +kernel) ?_
  refine l_to (to_alloc (z := (.agg #[.int .u64 0, .int .u64 0])) (by unfold kZero; kernel_rfl) ?_)
  rintro b1 w1 rfl hb1 e1 z1
  have zs_e1 := e1.size
  refine l_v (v_assign rfl) ?_
  refine l_nil ?_
  refine n_then ?_
  refine c_seq ?_
  refine wp_reg (by decide +kernel) ?_
  refine l_v (v_move (t := .pointer _) rfl) ?_
  refine l_to (to_f1 (by kernel_rfl) (show _ = (Value.pointer _) from rfl) (CallsR.mono (rNumber_c (hr.ext e1) hFb) ?_))
  rintro r w2 ⟨hr2, s2, k2⟩
  have zs_k2 := k2.size
  obtain ⟨n, ne, hn, hnl, hnx⟩ := numV_any l
  rw [hn] at hr2
  subst hr2
  refine l_v (v_move (t := .tuple _) rfl) ?_
  refine l_v (v_extract (t := .int _ _) rfl rfl) ?_
  refine l_v (v_extract (t := .int _ _) rfl rfl) ?_
  refine l_v (v_assign (t := .int _ _) rfl) ?_
  refine l_v (v_assign (t := .int _ _) rfl) ?_
  refine l_nil ?_
  refine n_then ?_
  refine c_seq ?_
  refine c_seq ?_
  refine wp_reg (by decide +kernel) ?_
  refine l_v (v_move (t := .int _ _) rfl) ?_
  refine l_v (v_neq rfl rfl) ?_
  refine l_nil ?_
  refine n_then ?_
  refine c_cond rfl rfl (fun hc => ?_) (fun hc => ?_)
  · skip
    have hc : ne ≠ 0 := by simpa using hc
    obtain ⟨he, _, hrest, hd⟩ := hnx.resolve_left (fun h => hc h.1)
    refine c_seq ?_
    refine wp_reg (by decide +kernel) ?_
    refine l_v (v_buildArr (et := 29) (n := 2) (sz := 1) (z := .agg #[.int .u64 0, .int .u64 0]) (zl := [.int .u64 0, .int .u64 0]) (by kernel_rfl) (by unfold kZero; kernel_rfl) rfl rfl (cells := [_, _]) rfl) ?_
    refine l_v (v_move (t := .int _ _) rfl) ?_
    refine l_to (to_storeA (n := 2) rfl rfl (show _ = (Value.agg _) from rfl) (by kernel_rfl) rfl (by first | (simp [slice_one]; done) | (simp only [List.forall_mem_cons, List.cons_append, List.nil_append]; repeat' (first | exact rfl | apply And.intro | (intro u hu; cases hu; done)))) (hb1.keep k2 (by omega)) (by first | (simp; done) | decide) ?_)
    rintro w3 h3 k3 z3
    have zs_k3 := k3.size
    refine l_v (v_assign (t := .int _ _) rfl) ?_
    refine l_nil ?_
    refine n_then ?_
    refine wp_ret ?_
    refine r_then ?_
    refine ret2c (n := 2) rfl (by decide) (by decide) rfl (by kernel_rfl) h3.pv (rfl) ?_
    refine ⟨?_, ((e1.mono fun _ _ h => h.elim).trans k2).step k3 (fun i hi h => by omega)⟩
    rw [rdP, hd]
    subst he
    exact ⟨by decide, [.int .u64 0, .int .u64 0], (0, 0), rfl, ⟨[.int .u64 0], [.int .u64 0], rfl, ⟨rfl, rfl⟩, ⟨rfl, rfl⟩⟩⟩
  · skip
    have hc : ne = 0 := by simpa using hc
    obtain ⟨_, hl1, hd⟩ := hnx.resolve_right (fun h => by omega)
    refine wp_skip ?_
    refine n_then ?_
    refine c_seq ?_
    refine wp_reg (by decide +kernel) ?_
    refine l_v (v_move (t := .pointer _) rfl) ?_
    refine l_to (to_f1 (by kernel_rfl) (show _ = (Value.pointer _) from rfl) (CallsR.mono (rNumber_c s2 hFb) ?_))
    rintro r w3 ⟨hr3, s3, k3⟩
    have zs_k3 := k3.size
    obtain ⟨m, me, hm, hml, hmx⟩ := numV_any (rest l)
    rw [hm] at hr3
    subst hr3
    refine l_v (v_move (t := .tuple _) rfl) ?_
    refine l_v (v_extract (t := .int _ _) rfl rfl) ?_
    refine l_v (v_extract (t := .int _ _) rfl rfl) ?_
    refine l_v (v_assign (t := .int _ _) rfl) ?_
    refine l_v (v_assign (t := .int _ _) rfl) ?_
    refine l_nil ?_
    refine n_then ?_
    refine c_seq ?_
    refine wp_reg (by decide +kernel) ?_
    refine l_v (v_move (t := .int _ _) rfl) ?_
    refine l_v (v_move (t := .int _ _) rfl) ?_
    refine l_v (v_buildArr (et := 29) (n := 2) (sz := 1) (z := .agg #[.int .u64 0, .int .u64 0]) (zl := [.int .u64 0, .int .u64 0]) (by kernel_rfl) (by unfold kZero; kernel_rfl) rfl rfl (cells := [_, _]) rfl) ?_
    refine l_v (v_move (t := .int _ _) rfl) ?_
    refine l_to (to_storeA (n := 2) rfl rfl (show _ = (Value.agg _) from rfl) (by kernel_rfl) rfl (by first | (simp [slice_one]; done) | (simp only [List.forall_mem_cons, List.cons_append, List.nil_append]; repeat' (first | exact rfl | apply And.intro | (intro u hu; cases hu; done)))) ((hb1.keep k2 (by omega)).keep k3 (by omega)) (by first | (simp; done) | decide) ?_)
    rintro w4 h4 k4 z4
    have zs_k4 := k4.size
    refine l_v (v_assign (t := .int _ _) rfl) ?_
    refine l_nil ?_
    refine n_then ?_
    refine wp_ret ?_
    refine ret2c (n := 2) rfl (by decide) (by decide) rfl (by kernel_rfl) h4.pv (rfl) ?_
    refine ⟨?_, (((e1.mono fun _ _ h => h.elim).trans k2).trans k3).step k4 (fun i hi h => by omega)⟩
    rw [rdP, hd]
    have hrep : tP2.rep w4 (fun b => w.heap.size ≤ b) ([.int .u64 n] ++ [.int .u64 m]) ((n : Int), (m : Int)) := ⟨[.int .u64 n], [.int .u64 m], rfl, ⟨rfl, wfu hnl⟩, ⟨rfl, wfu hml⟩⟩
    rcases hmx with ⟨he, hl2, hd2⟩ | ⟨he, _, _, hd2⟩
    · simp only [hd2]
      subst he
      exact ⟨_, rfl, hrep, s3.keep k4 (by omega) (fun i hi h => by have := hF i hi; omega)⟩
    · simp only [hd2]
      subst he
      exact ⟨by decide, _, _, rfl, hrep⟩
end Go.Proofs.Ythnpnniiejcnbaa
