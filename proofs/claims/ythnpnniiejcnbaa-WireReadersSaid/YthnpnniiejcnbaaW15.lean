/- A part of the proof: steps and lemmas for the walks through the given program. -/
import Derived.Test.YthnpnniiejcnbaaW14
import Derived.Test.YthnpnniiejcnbaaWPl3
namespace Go.Proofs.Ythnpnniiejcnbaa
open Go.Vc
set_option linter.unusedVariables false
set_option linter.unusedSimpArgs false
set_option maxRecDepth 100000

theorem tryNU_c {w : World} {b : Nat} {F : Nat → Prop} {l : List UInt8} {most : Int} {fv : Value} (hr : Rd nRd w b F l) (hm : most < 0) :
    CallsR Try.prog 57 #[.pointer (some ⟨b, 0, none⟩), .int .i64 most, fv] w (fun r w' => r = .tuple #[.slice none 0 0, .int .i64 2] ∧ Ext w w') := by
  obtain ⟨a, c, hb0, hv⟩ := hr
  refine enter 56 Try.func57 rfl rfl (by simp) ?_
  refine c_seq ?_
  refine wp_reg (by decide +kernel) ?_
  refine l_v (v_assign rfl) ?_
  refine l_v (v_assign rfl) ?_
  refine l_nil ?_
  refine n_then ?_
  refine c_seq ?_
  refine wp_reg (by decide +kernel) ?_
  refine l_v (v_assign rfl) ?_
  refine l_nil ?_
  refine n_then ?_
  refine c_seq ?_
  refine c_seq ?_
  refine wp_reg (by decide +kernel) ?_
  refine l_v (v_move (t := .pointer _) rfl) ?_
  refine l_to (to_f1 (by kernel_rfl) (show _ = (Value.pointer _) from rfl) (CallsR.mono (closed_c hb0) ?_))
  rintro _ w1 ⟨rfl, e1⟩
  have zs_e1 := e1.size
  refine l_nil ?_
  refine n_then ?_
  refine c_cond rfl rfl (fun hc => ?_) (fun hc => ?_)
  · skip
    cases hc
  · skip
    refine wp_skip ?_
    refine n_then ?_
    refine c_seq ?_
    refine c_seq ?_
    refine wp_reg (by decide +kernel) ?_
    refine l_v (v_move (t := .int _ _) rfl) ?_
    refine l_v (v_lss rfl rfl) ?_
    refine l_nil ?_
    refine n_then ?_
    refine c_cond rfl rfl (fun hc2 => ?_) (fun hc2 => ?_)
    · skip
      refine c_seq ?_
      refine wp_reg (by decide +kernel) ?_
      refine l_v (v_move (t := .slice _ _ _) rfl) ?_
      refine l_v (v_assign (t := .slice _ _ _) rfl) ?_
      refine l_v (v_assign rfl) ?_
      refine l_nil ?_
      refine n_then ?_
      refine wp_ret ?_
      refine r_then ?_
      refine ret2 rfl (by decide) (by decide) ?_
      exact ⟨rfl, e1⟩
    · skip
      have := dfalse hc2; omega
theorem takeNU_c {w : World} {b : Nat} {F : Nat → Prop} {l : List UInt8} {most : Int} {fr : Nat} {cap : Array Value} (hr : Rd nRd w b F l) (hm : most < 0) :
    CallsR Try.prog 34 #[.pointer (some ⟨b, 0, none⟩), .int .i64 most, .func (.func fr) #[] cap] w (fun r w' => r = .tuple #[.slice none 0 0, .int .i64 2] ∧ Ext w w') := by
  refine enter 16 Try.func34 rfl rfl (by simp) ?_
  refine c_seq ?_
  refine wp_reg (by decide +kernel) ?_
  refine l_to (to_box (show _ = (Value.func _ _ _) from rfl) ?_)
  rintro b1 w1 rfl hb1 e1 z1
  have zs_e1 := e1.size
  refine l_v (v_assign rfl) ?_
  refine l_v (v_assign rfl) ?_
  refine l_nil ?_
  refine n_then ?_
  refine c_seq ?_
  refine c_seq ?_
  refine wp_reg (by decide +kernel) ?_
  refine l_v (v_load (by kernel_rfl) rfl (hb1.pv 0 _ rfl)) ?_
  refine l_v (v_feqlnil (ps := #[24]) (rs := #[29, 26]) (v := false) (by kernel_rfl) rfl rfl) ?_
  refine l_nil ?_
  refine n_then ?_
  refine c_cond rfl rfl (fun hc => ?_) (fun hc => ?_)
  · skip
    cases hc
  · skip
    refine wp_skip ?_
    refine n_then ?_
    refine c_seq ?_
    refine wp_reg (by decide +kernel) ?_
    refine l_v (v_move (t := .pointer _) rfl) ?_
    refine l_v (v_move (t := .int _ _) rfl) ?_
    refine l_v (v_makeFunc (by simp [ev]; rfl) (by simp [ev]; rfl)) ?_
    refine l_to (to_f3 (by kernel_rfl) (show _ = (Value.pointer _) from rfl) (show _ = (Value.int _ _) from rfl) (show _ = (Value.func _ _ _) from rfl) (CallsR.mono (tryNU_c (hr.ext e1) hm) ?_))
    rintro _ w2 ⟨rfl, e2⟩
    have zs_e2 := e2.size
    refine l_v (v_extract (t := .slice _ _ _) rfl rfl) ?_
    refine l_v (v_extract (t := .int _ _) rfl rfl) ?_
    refine l_v (v_assign (t := .slice _ _ _) rfl) ?_
    refine l_v (v_assign (t := .int _ _) rfl) ?_
    refine l_nil ?_
    refine n_then ?_
    refine wp_ret ?_
    refine ret2 rfl (by decide) (by decide) ?_
    exact ⟨rfl, e1.trans e2⟩
theorem takeAU_c {w : World} {b : Nat} {F : Nat → Prop} {l : List UInt8} {most : Int} {fr : Nat} {cap : Array Value} (hr : Rd nRd w b F l) (hF : ∀ k, F k → k < b) (hm2 : most ≤ 9223372036854775807) (hl : l.length ≤ 5000000000000) (hb : kBody Try.prog fr = true)
    (ρ : List UInt8 → Except Int (Int × List UInt8)) (hρ : ∀ l x l2, ρ l = .ok (x, l2) → l2.length < l.length)
    (hone : ∀ (w1 : World) (c : Nat) (l1 : List UInt8), Ext w w1 → w.heap.size ≤ c → Rd nRd w1 c F l1 → l1.length ≤ l.length → CallsR Try.prog fr (#[.pointer (some ⟨c, 0, none⟩)] ++ cap) w1 (fun r w2 => OneVU w1 w2 c F (ρ l1) r ∧ Keep (fun k => k = c) w1 w2)) :
    CallsR Try.prog 34 #[.pointer (some ⟨b, 0, none⟩), .int .i64 most, .func (.func fr) #[] cap] w (fun r w' => TryV (tInt .u64) 29 nRd w w' b F l (if most < 0 then .error 2 else tryRd (rdList ρ) most.toNat l) r ∧ Keep (fun k => k = b) w w') := by
  by_cases hm : most < 0
  · rw [if_pos hm]
    exact CallsR.mono (takeNU_c hr hm) fun r w' ⟨h, e⟩ => ⟨⟨by decide, h, hr.ext e⟩, e.mono fun _ _ h => h.elim⟩
  · rw [if_neg hm]
    exact takeU_c hr hF (by omega) hm2 hl hb ρ hρ hone

theorem tryNP_c {w : World} {b : Nat} {F : Nat → Prop} {l : List UInt8} {most : Int} {fv : Value} (hr : Rd nRd w b F l) (hm : most < 0) :
    CallsR Try.prog 53 #[.pointer (some ⟨b, 0, none⟩), .int .i64 most, fv] w (fun r w' => r = .tuple #[.slice none 0 0, .int .i64 2] ∧ Ext w w') := by
  obtain ⟨a, c, hb0, hv⟩ := hr
  refine enter 56 Try.func53 rfl rfl (by simp) ?_
  refine c_seq ?_
  refine wp_reg (by decide +kernel) ?_
  refine l_v (v_assign rfl) ?_
  refine l_v (v_assign rfl) ?_
  refine l_nil ?_
  refine n_then ?_
  refine c_seq ?_
  refine wp_reg (by decide +kernel) ?_
  refine l_v (v_assign rfl) ?_
  refine l_nil ?_
  refine n_then ?_
  refine c_seq ?_
  refine c_seq ?_
  refine wp_reg (by decide +kernel) ?_
  refine l_v (v_move (t := .pointer _) rfl) ?_
  refine l_to (to_f1 (by kernel_rfl) (show _ = (Value.pointer _) from rfl) (CallsR.mono (closed_c hb0) ?_))
  rintro _ w1 ⟨rfl, e1⟩
  have zs_e1 := e1.size
  refine l_nil ?_
  refine n_then ?_
  refine c_cond rfl rfl (fun hc => ?_) (fun hc => ?_)
  · skip
    cases hc
  · skip
    refine wp_skip ?_
    refine n_then ?_
    refine c_seq ?_
    refine c_seq ?_
    refine wp_reg (by decide +kernel) ?_
    refine l_v (v_move (t := .int _ _) rfl) ?_
    refine l_v (v_lss rfl rfl) ?_
    refine l_nil ?_
    refine n_then ?_
    refine c_cond rfl rfl (fun hc2 => ?_) (fun hc2 => ?_)
    · skip
      refine c_seq ?_
      refine wp_reg (by decide +kernel) ?_
      refine l_v (v_move (t := .slice _ _ _) rfl) ?_
      refine l_v (v_assign (t := .slice _ _ _) rfl) ?_
      refine l_v (v_assign rfl) ?_
      refine l_nil ?_
      refine n_then ?_
      refine wp_ret ?_
      refine r_then ?_
      refine ret2 rfl (by decide) (by decide) ?_
      exact ⟨rfl, e1⟩
    · skip
      have := dfalse hc2; omega
theorem takeNP_c {w : World} {b : Nat} {F : Nat → Prop} {l : List UInt8} {most : Int} {fr : Nat} {cap : Array Value} (hr : Rd nRd w b F l) (hm : most < 0) :
    CallsR Try.prog 31 #[.pointer (some ⟨b, 0, none⟩), .int .i64 most, .func (.func fr) #[] cap] w (fun r w' => r = .tuple #[.slice none 0 0, .int .i64 2] ∧ Ext w w') := by
  refine enter 16 Try.func31 rfl rfl (by simp) ?_
  refine c_seq ?_
  refine wp_reg (by decide +kernel) ?_
  refine l_to (to_box (show _ = (Value.func _ _ _) from rfl) ?_)
  rintro b1 w1 rfl hb1 e1 z1
  have zs_e1 := e1.size
  refine l_v (v_assign rfl) ?_
  refine l_v (v_assign rfl) ?_
  refine l_nil ?_
  refine n_then ?_
  refine c_seq ?_
  refine c_seq ?_
  refine wp_reg (by decide +kernel) ?_
  refine l_v (v_load (by kernel_rfl) rfl (hb1.pv 0 _ rfl)) ?_
  refine l_v (v_feqlnil (ps := #[24]) (rs := #[56, 26]) (v := false) (by kernel_rfl) rfl rfl) ?_
  refine l_nil ?_
  refine n_then ?_
  refine c_cond rfl rfl (fun hc => ?_) (fun hc => ?_)
  · skip
    cases hc
  · skip
    refine wp_skip ?_
    refine n_then ?_
    refine c_seq ?_
    refine wp_reg (by decide +kernel) ?_
    refine l_v (v_move (t := .pointer _) rfl) ?_
    refine l_v (v_move (t := .int _ _) rfl) ?_
    refine l_v (v_makeFunc (by simp [ev]; rfl) (by simp [ev]; rfl)) ?_
    refine l_to (to_f3 (by kernel_rfl) (show _ = (Value.pointer _) from rfl) (show _ = (Value.int _ _) from rfl) (show _ = (Value.func _ _ _) from rfl) (CallsR.mono (tryNP_c (hr.ext e1) hm) ?_))
    rintro _ w2 ⟨rfl, e2⟩
    have zs_e2 := e2.size
    refine l_v (v_extract (t := .slice _ _ _) rfl rfl) ?_
    refine l_v (v_extract (t := .int _ _) rfl rfl) ?_
    refine l_v (v_assign (t := .slice _ _ _) rfl) ?_
    refine l_v (v_assign (t := .int _ _) rfl) ?_
    refine l_nil ?_
    refine n_then ?_
    refine wp_ret ?_
    refine ret2 rfl (by decide) (by decide) ?_
    exact ⟨rfl, e1.trans e2⟩
theorem takeAP_c {w : World} {b : Nat} {F : Nat → Prop} {l : List UInt8} {most : Int} {fr : Nat} {cap : Array Value} (hr : Rd nRd w b F l) (hF : ∀ k, F k → k < b) (hm2 : most ≤ 9223372036854775807) (hl : l.length ≤ 5000000000000) (hb : kBody Try.prog fr = true)
    (ρ : List UInt8 → Except Int ((Int × Int) × List UInt8)) (hρ : ∀ l x l2, ρ l = .ok (x, l2) → l2.length < l.length)
    (hone : ∀ (w1 : World) (c : Nat) (l1 : List UInt8), Ext w w1 → w.heap.size ≤ c → Rd nRd w1 c F l1 → l1.length ≤ l.length → CallsR Try.prog fr (#[.pointer (some ⟨c, 0, none⟩)] ++ cap) w1 (fun r w2 => OneVP w1 w2 c F (ρ l1) r ∧ Keep (fun k => k = c) w1 w2)) :
    CallsR Try.prog 31 #[.pointer (some ⟨b, 0, none⟩), .int .i64 most, .func (.func fr) #[] cap] w (fun r w' => TryV (tP2) 56 nRd w w' b F l (if most < 0 then .error 2 else tryRd (rdList ρ) most.toNat l) r ∧ Keep (fun k => k = b) w w') := by
  by_cases hm : most < 0
  · rw [if_pos hm]
    exact CallsR.mono (takeNP_c hr hm) fun r w' ⟨h, e⟩ => ⟨⟨by decide, h, hr.ext e⟩, e.mono fun _ _ h => h.elim⟩
  · rw [if_neg hm]
    exact takeP_c hr hF (by omega) hm2 hl hb ρ hρ hone


def wPre {α : Type} (sp : α → List UInt8) (xs : List α) (k : Nat) : List UInt8 := wNum xs.length ++ ((xs.take k).map sp).flatten
theorem wPre_succ {α : Type} {sp : α → List UInt8} {xs : List α} {k : Nat} {x : α} (h : xs[k]? = some x) : wPre sp xs (k + 1) = wPre sp xs k ++ sp x := by
  rw [wPre, wPre, List.take_add_one, h]; simp
theorem wPre_le {α : Type} (sp : α → List UInt8) (xs : List α) (k : Nat) : (wPre sp xs k).length ≤ (wList sp xs).length := by
  have h : xs.map sp = (xs.take k).map sp ++ (xs.drop k).map sp := by rw [← List.map_append, List.take_append_drop]
  rw [wPre, wList, h]; simp only [List.flatten_append, List.length_append]; omega
theorem SlV_at {α : Type} {t : Ty α} {w : World} {F : Nat → Prop} {a : Option Addr} {n c k : Nat} {xs : List α} {x : α} (h : SlV t w F (.slice a n c) xs) (hk : xs[k]? = some x) :
    ∃ q cs, a = some q ∧ F q.block ∧ Pv w (q.add (k * t.sz)) cs ∧ t.rep w F cs x := by
  obtain ⟨a', c', he, h1, h2, h3, h4⟩ := h
  cases he
  exact h4 k x hk
theorem pv_at {w : World} {q : Addr} {cs : List Value} (h : Pv w q cs) (j : Nat) {u : Value} (hu : cs[j]? = some u) : w.cell? (q.add (j * 1)) = some u := by rw [Nat.mul_one]; exact h j u hu

theorem refNumber_l {w : World} {n : Nat} {l : List UInt8} {x : Int} (hl : l = wNum n) (hx : x = (n : Nat)) (hn : n < 18446744073709551616) : CallsR Try.prog 20 #[.int .u64 x] w (fun r w' => OwV tU8 nU8 w' w.heap.size NoK r l ∧ (∃ q c, r = .slice (some q) l.length c) ∧ Ext w w') := by
  subst hl; exact refNumber_c hx hn
abbrev InU (x : Int) : Prop := 0 ≤ x ∧ x ≤ 18446744073709551615
theorem sP_len {x : Int × Int} (h1 : InU x.1) (h2 : InU x.2) : (sP x).length ≤ 20 := by
  have a := wNum_len10 (n := x.1.toNat) (by have := h1.1; have := h1.2; omega)
  have b := wNum_len10 (n := x.2.toNat) (by have := h2.1; have := h2.2; omega)
  rw [sP, List.length_append]; omega
theorem rdP_sP {x : Int × Int} (h1 : InU x.1) (h2 : InU x.2) (r : List UInt8) : rdP (sP x ++ r) = .ok (x, r) := by
  obtain ⟨a, b⟩ := x
  have e1 : (a.toNat : Int) = a := by have := h1.1; simp only [] at this; omega
  have e2 : (b.toNat : Int) = b := by have := h2.1; simp only [] at this; omega
  have l1 : a.toNat < 18446744073709551616 := by have := h1.1; have := h1.2; simp only [] at *; omega
  have l2 : b.toNat < 18446744073709551616 := by have := h2.1; have := h2.2; simp only [] at *; omega
  rw [rdP, sP, List.append_assoc, rdNum_wNum l1]
  simp only []
  rw [rdNum_wNum l2]
  simp only [e1, e2]
theorem rdP_in : ∀ l x r, rdP l = .ok (x, r) → InU x.1 ∧ InU x.2 := by
  intro l x r h
  rw [rdP] at h
  rcases hd : rdNum l with _ | ⟨n, l'⟩
  · rw [hd] at h; cases h
  · rw [hd] at h; simp only [] at h
    rcases hd2 : rdNum l' with _ | ⟨m, l2⟩
    · rw [hd2] at h; cases h
    · rw [hd2] at h; cases h
      have := rdNum_lt hd
      have := rdNum_lt hd2
      constructor <;> constructor <;> simp only [] <;> omega
theorem rdP_err : ∀ l e, rdP l = .error e → e = 4 := by
  intro l e h
  rw [rdP] at h
  rcases hd : rdNum l with _ | ⟨n, l'⟩
  · rw [hd] at h; cases h; rfl
  · rw [hd] at h; simp only [] at h
    rcases hd2 : rdNum l' with _ | ⟨m, l2⟩
    · rw [hd2] at h; cases h; rfl
    · rw [hd2] at h; cases h
/-- a list is read as it was -/
theorem rdList_back {α : Type} {ρ : List UInt8 → Except Int (α × List UInt8)} {sp : α → List UInt8} : ∀ (xs : List α) (r : List UInt8), (∀ x ∈ xs, ∀ r, ρ (sp x ++ r) = .ok (x, r)) → rdList ρ xs.length ((xs.map sp).flatten ++ r) = .ok (xs, r)
  | [], r, _ => by simp [rdList]
  | x :: xs, r, h => by
    have h1 := rdList_back xs r (fun y hy => h y (List.mem_cons_of_mem _ hy))
    simp only [List.map_cons, List.flatten_cons, List.length_cons, rdList, List.append_assoc]
    rw [h x List.mem_cons_self]
    simp only []
    rw [h1]
theorem rdList_err4 {α : Type} {ρ : List UInt8 → Except Int (α × List UInt8)} (h : ∀ l e, ρ l = .error e → e = 4) : ∀ (n : Nat) (l : List UInt8) (e : Int), rdList ρ n l = .error e → e = 4
  | 0, l, e, h1 => by cases h1
  | n + 1, l, e, h1 => by
    rw [rdList] at h1
    cases hq : ρ l with
    | error e2 => rw [hq] at h1; cases h1; exact h _ _ hq
    | ok q =>
      obtain ⟨x, l2⟩ := q
      rw [hq] at h1; simp only [] at h1
      cases hq2 : rdList ρ n l2 with
      | error e2 => rw [hq2] at h1; cases h1; exact rdList_err4 h n l2 _ hq2
      | ok q2 => obtain ⟨ys, l3⟩ := q2; rw [hq2] at h1; cases h1
theorem rdList_in {α : Type} {p : α → Prop} {ρ : List UInt8 → Except Int (α × List UInt8)} (h : ∀ l x r, ρ l = .ok (x, r) → p x) : ∀ (n : Nat) (l : List UInt8) (xs : List α) (r : List UInt8), rdList ρ n l = .ok (xs, r) → ∀ x ∈ xs, p x
  | 0, l, xs, r, h1 => by cases h1; simp
  | n + 1, l, xs, r, h1 => by
    rw [rdList] at h1
    cases hq : ρ l with
    | error e2 => rw [hq] at h1; cases h1
    | ok q =>
      obtain ⟨x, l2⟩ := q
      rw [hq] at h1; simp only [] at h1
      cases hq2 : rdList ρ n l2 with
      | error e2 => rw [hq2] at h1; cases h1
      | ok q2 =>
        obtain ⟨ys, l3⟩ := q2; rw [hq2] at h1; simp only [] at h1; cases h1
        intro y hy
        rcases List.mem_cons.1 hy with rfl | hy
        · exact h _ _ _ hq
        · exact rdList_in h n l2 ys _ hq2 y hy
/-- of a list's beginning no list is read -/
theorem tryList_cut {α : Type} {p : α → Prop} {ρ : List UInt8 → Except Int (α × List UInt8)} {sp : α → List UInt8} (hrt : ∀ x, p x → ∀ r, ρ (sp x ++ r) = .ok (x, r)) (hf : ∀ l x r, ρ l = .ok (x, r) → l = sp x ++ r) (hp : ∀ l x r, ρ l = .ok (x, r) → p x) (h4 : ∀ l e, ρ l = .error e → e = 4)
    {xs : List α} (hx : ∀ x ∈ xs, p x) (hn : xs.length < 18446744073709551616) {j most : Nat} (hm : xs.length ≤ most) (hj : j < (wList sp xs).length) : tryRd (rdList ρ) most ((wList sp xs).take j) = .error 4 := by
  rcases Nat.lt_or_ge j (wNum xs.length).length with hlt | hge
  · have h1 : (wList sp xs).take j = (wNum xs.length).take j := by rw [wList, List.take_append_of_le_length (by omega)]
    rw [tryRd, h1, rdNum_cut hn hlt]
  · have h1 : (wList sp xs).take j = wNum xs.length ++ ((xs.map sp).flatten).take (j - (wNum xs.length).length) := by
      rw [wList, List.take_append, List.take_of_length_le hge]
    rw [tryRd, h1, rdNum_wNum hn]
    simp only []
    rw [if_pos hm]
    cases hq : rdList ρ xs.length (((xs.map sp).flatten).take (j - (wNum xs.length).length)) with
    | error e => rw [rdList_err4 h4 _ _ _ hq]
    | ok q =>
      exfalso
      obtain ⟨ys, r⟩ := q
      obtain ⟨h2, h3⟩ := rdList_form hf _ _ _ _ hq
      have h5 := rdList_in hp _ _ _ _ hq
      have h6 : (xs.map sp).flatten = (ys.map sp).flatten ++ (r ++ ((xs.map sp).flatten).drop (j - (wNum xs.length).length)) := by
        rw [← List.append_assoc, ← h3, List.take_append_drop]
      have h7 := rdList_back (ρ := ρ) (sp := sp) xs [] (fun x hxx => hrt x (hx x hxx))
      have h8 := rdList_back (ρ := ρ) (sp := sp) ys (r ++ ((xs.map sp).flatten).drop (j - (wNum xs.length).length)) (fun x hxx => hrt x (h5 x hxx))
      rw [List.append_nil, h6] at h7
      rw [h2] at h8
      rw [h8] at h7
      have h9 := Except.ok.inj h7
      have h10 := (Prod.mk.inj h9).2
      have h11 := congrArg List.length (List.append_eq_nil_iff.1 h10).2
      rw [wList, List.length_append] at hj
      simp only [List.length_drop, List.length_nil] at h11
      omega
theorem takes_all (ls : List (Int × Int)) (hl : ls.length ≤ 3000) (hwf : ∀ x ∈ ls, InU x.1 ∧ InU x.2) : tryRd (rdList rdP) ls.length (wList sP ls) = .ok (ls, []) := by
  rw [tryRd, wList, rdNum_wNum (by omega)]
  simp only [Nat.le_refl, if_true]
  have := rdList_back (ρ := rdP) (sp := sP) ls [] (fun x hx => rdP_sP (hwf x hx).1 (hwf x hx).2)
  rwa [List.append_nil] at this
theorem takes_less (ls : List (Int × Int)) (hl : ls.length ≤ 3000) (hls : ¬ ls = []) : (if (ls.length : Int) - 1 < 0 then .error 2 else tryRd (rdList rdP) ((ls.length : Int) - 1).toNat (wList sP ls)) = (.error 3 : Except Int (List (Int × Int) × List UInt8)) := by
  have h0 : ls.length ≠ 0 := fun h => hls (List.eq_nil_of_length_eq_zero h)
  rw [if_neg (by omega), tryRd, wList, rdNum_wNum (by omega)]
  simp only []
  rw [if_neg (by omega)]
theorem takes_cut (ls : List (Int × Int)) (hl : ls.length ≤ 3000) (hwf : ∀ x ∈ ls, InU x.1 ∧ InU x.2) {j : Nat} (hj : j < (wList sP ls).length) : tryRd (rdList rdP) ls.length ((wList sP ls).take j) = .error 4 :=
  tryList_cut (p := fun x => InU x.1 ∧ InU x.2) (fun x hx => rdP_sP hx.1 hx.2) rdP_form rdP_in rdP_err hwf (by omega) (Nat.le_refl _) hj

theorem WireTakes_c {w : World} {v : Value} {F : Nat → Prop} {ls : List (Int × Int)} {cut : Int} (hv : SlV tP2 w F v ls) (hF : ∀ b, F b → b < w.heap.size) : CallsR Try.prog 7 #[v, .int .i64 cut] w (fun r w' => r = .bool true ∧ Ext w w') := by
  obtain ⟨a, c, rfl⟩ := hv.shape
  have hmx := hv.max
  simp only [maxLen] at hmx
  have hwf : ∀ x ∈ ls, InU x.1 ∧ InU x.2 := by
    intro x hx
    obtain ⟨k, hk⟩ := List.mem_iff_getElem?.1 hx
    obtain ⟨_, _, _, _, _, hrep⟩ := SlV_at hv hk
    obtain ⟨_, _, _, ⟨_, h1⟩, ⟨_, h2⟩⟩ := hrep
    exact ⟨wf_u64 h1, wf_u64 h2⟩
  by_cases hls : ls = []
  · skip
    refine enter 179 Try.func7 rfl rfl (by simp) ?_
    refine c_seq ?_
    refine wp_reg (by decide +kernel) ?_
    refine l_v (v_assign rfl) ?_
    refine l_nil ?_
    refine n_then ?_
    refine c_seq ?_
    refine c_seq ?_
    refine wp_reg (by decide +kernel) ?_
    refine l_v (v_move (t := .slice _ _ _) rfl) ?_
    refine l_v (v_len (et := 56) (by kernel_rfl) rfl) ?_
    refine l_v (v_gtr rfl rfl) ?_
    refine l_nil ?_
    refine n_then ?_
    refine c_cond rfl rfl (fun hc => ?_) (fun hc => ?_)
    · skip
      refine c_seq ?_
      refine wp_reg (by decide +kernel) ?_
      refine l_to (to_f0 (by kernel_rfl) (CallsR.mono (known_c) ?_))
      rintro _ w1 ⟨rfl, e1⟩
      have zs_e1 := e1.size
      refine l_v (v_assign (t := .bool _) rfl) ?_
      refine l_nil ?_
      refine n_then ?_
      refine wp_ret ?_
      refine r_then ?_
      refine ret1 rfl (by decide) ?_
      exact ⟨rfl, e1⟩
    · skip
      have hl : ls.length ≤ 3000 := by have := dfalse hc; omega
      have hfl := flat_le (k := 20) (sp := sP) ls (fun x hx => sP_len (hwf x hx).1 (hwf x hx).2)
      have hln := wNum_len10 (n := ls.length) (by omega)
      have hwl : (wList sP ls).length ≤ 60010 := by rw [wList, List.length_append]; omega
      refine wp_skip ?_
      refine n_then ?_
      refine c_seq ?_
      refine wp_reg (by decide +kernel) ?_
      refine l_v (v_move (t := .slice _ _ _) rfl) ?_
      refine l_to (to_f2 (by kernel_rfl) (show _ = (Value.slice _ _ _) from rfl) rfl (CallsR.mono (putP_c (cap := #[]) hv (by kernel_rfl) sP (fun w1 cs x e1 hr hx => formP_c hr) (by omega) (by omega)) ?_))
      rintro _ w1 ⟨q1, c1, rfl, o1, e1⟩
      have zs_e1 := e1.size
      refine l_v (v_move (t := .tuple _) rfl) ?_
      refine l_v (v_extract (t := .slice _ _ _) rfl rfl) ?_
      refine l_v (v_extract (t := .int _ _) rfl rfl) ?_
      refine l_v (v_assign (t := .slice _ _ _) rfl) ?_
      refine l_v (v_assign (t := .int _ _) rfl) ?_
      refine l_nil ?_
      refine n_then ?_
      refine c_seq ?_
      refine wp_reg (by decide +kernel) ?_
      refine l_v (v_move (t := .slice _ _ _) rfl) ?_
      refine l_v (v_len (et := 56) (by kernel_rfl) rfl) ?_
      refine l_v (v_conv (ds := .int .i64) (by kernel_rfl) (by kernel_rfl) rfl (by first | exact wr_u64 (by omega) (by omega) | rfl)) ?_
      refine l_to (to_f1 (by kernel_rfl) (show _ = (Value.int _ _) from rfl) (CallsR.mono (refNumber_l (l := wPre sP ls 0) (by simp [wPre]) (n := ls.length) rfl (by omega)) ?_))
      rintro _ w2 ⟨o2, ⟨q2, c2, rfl⟩, e2⟩
      have zs_e2 := e2.size
      refine l_v (v_assign (t := .slice _ _ _) rfl) ?_
      refine l_nil ?_
      refine n_then ?_
      refine c_seq ?_
      refine c_seq ?_
      refine wp_reg (by decide +kernel) ?_
      refine l_v (v_assign rfl) ?_
      refine l_nil ?_
      refine n_then ?_
      refine wp_block ?_
      refine c_loop (τ := Option Addr × Nat × Nat) [7, 8, 31, 32, 33, 34, 35, 36, 37, 38, 39, 40, 41, 42, 43, 44, 45, 46, 47, 48, 49, 50, 51] (fun (a2, c2, k) => [(7, .slice a2 (wPre sP ls k).length c2), (8, .int .i64 k)]) (fun (a2, c2, k) w => OwV tU8 nU8 w w1.heap.size NoK (.slice a2 (wPre sP ls k).length c2) (wPre sP ls k) ∧ Ext w1 w ∧ k ≤ ls.length) (fun (a2, c2, k) => ls.length - k) (some q2, c2, 0) (by exact ⟨rfl, rfl, trivial⟩) (by exact ⟨o2, e2, Nat.zero_le _⟩) ?_
      rintro ⟨a2, c2, k⟩ w3 j ⟨o3, e3, h3⟩
      refine c_seq ?_
      refine c_seq ?_
      refine wp_reg (by decide +kernel) ?_
      refine l_v (v_move (t := .int _ _) rfl) ?_
      refine l_v (v_move (t := .slice _ _ _) rfl) ?_
      refine l_v (v_len (et := 56) (by kernel_rfl) rfl) ?_
      refine l_v (v_lss rfl rfl) ?_
      refine l_nil ?_
      refine n_then ?_
      refine c_cond rfl rfl (fun hd => ?_) (fun hd => ?_)
      · skip
        have hd := dtrue hd
        have zs_e3 := e3.size
        obtain ⟨x, hx⟩ : ∃ x, ls[k]? = some x := ⟨ls[k]'(by omega), by simp [show k < ls.length by omega]⟩
        obtain ⟨q, cs, rfl, hFq, hp, hrep⟩ := SlV_at hv hx
        obtain ⟨x1, x2⟩ := x
        obtain ⟨_, _, rfl, ⟨rfl, _⟩, ⟨rfl, _⟩⟩ := hrep
        have hxw := hwf _ (List.mem_of_getElem? hx)
        obtain ⟨n, rfl⟩ := Int.eq_ofNat_of_zero_le hxw.1.1
        obtain ⟨m, rfl⟩ := Int.eq_ofNat_of_zero_le hxw.2.1
        have hn := wNum_len10 (n := n) (by have := hxw.1.2; simp only [] at this; omega)
        have hm := wNum_len10 (n := m) (by have := hxw.2.2; simp only [] at this; omega)
        have hps := wPre_succ (sp := sP) hx
        have hple := wPre_le sP ls k
        have hple2 := wPre_le sP ls (k + 1)
        have hqlt := hF _ hFq
        have hp3 := hp.ext (e1.trans e3)
        refine wp_skip ?_
        refine n_then ?_
        refine c_seq ?_
        refine wp_block ?_
        refine wp_regJ (fun b => (.slice a2 (wPre sP ls k).length c2 : Value).ownBlock = some b ∨ w3.heap.size ≤ b) (EqJ [(15, 14)] (ChainJ (tU8) (nU8) w3.heap.size (w1.heap.size) (NoK) (AllB) (.slice a2 (wPre sP ls k).length c2 : Value) (wPre sP ls k) [7, 14] [some 6, some 13] [wNum n, wNum m])) (by kernel_rfl) (by decide +kernel) (by decide +kernel) (fun vals done hd => EqJ.start (ChainJ.start ((o3).ext (Keep.drawn _ _)) (by omega) (Nat.le_refl _) (fun i hi => hd i (dOf_lt (by decide) hi))) (fun k j hq => hd k (dQ_lt (by decide) k j hq))) ?_
        refine rj_v (EqJ.on ChainJ.on) (by decide) (fun done vals w hR hJ hdn hd => v_move (t := .slice _ _ _) rfl) ?_
        refine rj_v (EqJ.on ChainJ.on) (by decide) (fun done vals w hR hJ hdn hd => v_move (t := .slice _ _ _) rfl) ?_
        refine rj_v (EqJ.on ChainJ.on) (by decide) (fun done vals w hR hJ hdn hd => v_move (t := .int _ _) rfl) ?_
        refine rj_v (EqJ.on ChainJ.on) (by decide) (fun done vals w hR hJ hdn hd => v_indexAddr (et := 56) (sz := 2) (k := k) (by kernel_rfl) (by kernel_rfl) (hd 1 rfl) (hd 2 rfl) rfl (by omega)) ?_
        refine rj_v (EqJ.on ChainJ.on) (by decide) (fun done vals w hR hJ hdn hd => v_arrAddr (et := 29) (n := 2) (sz := 1) (k := 0) (by kernel_rfl) (hd 3 rfl) rfl rfl (by decide)) ?_
        refine rj_v (EqJ.on ChainJ.on) (by decide) (fun done vals w hR hJ hdn hd => v_load (by kernel_rfl) (hd 4 rfl) ((hp3.keep hR (by rw [add_block]; exact fun h => by rcases h with h | h; have := (o3.own_lt h).1; omega; omega)) 0 _ rfl)) ?_
        refine rj_d (fun done vals w hR hcl hdk hJ hdn hd => by
            have zs_R := hR.size
            exact to_f1 (by kernel_rfl) (hd 5 rfl) (CallsR.mono (refNumber_c (n := n) rfl (by have := hxw.1.2; simp only [] at this; omega)) fun v w1 h => ⟨Keep.mono (h.2.2) (fun b _ h => h.elim), hJ.step hdk (by decide) (hJ.1.prod (n := 0) (h.2.2) rfl rfl (once_ps (by decide)) (by decide) (h.1.view.mono (fun b _ h => ⟨trivial, h.resolve_right (fun x => x)⟩)))⟩)) ?_
        refine rj_d (fun done vals w hR hcl hdk hJ hdn hd => by
            have zs_R := hR.size
            obtain ⟨hacc, hown, hsrc⟩ := hJ.1.at (n := 0) rfl hdk (fun m h => by cases h)
            exact to_append (et := 5) (bytes := 1) (by kernel_rfl) (hd 0 rfl) hacc rfl (hsrc _ _ rfl rfl (hdn 6 rfl)) (fun _ _ h => h) (by (simp; omega)) (by simp only [maxLen]; (simp; omega)) (by omega) (fun a n cc w1 o hn kk ho _ => ⟨kk.mono (fun b _ h => hown b h), hJ.step hdk (by decide) (hJ.1.app (n := 0) rfl hdk (fun m h => by cases h) rfl (once_as (by decide)) (ps_ne (by decide)) o kk ho)⟩)) ?_
        refine rj_v (EqJ.on ChainJ.on) (by decide) (fun done vals w hR hJ hdn hd => v_move (t := .slice _ _ _) rfl) ?_
        refine rj_v (EqJ.on ChainJ.on) (by decide) (fun done vals w hR hJ hdn hd => v_move (t := .int _ _) rfl) ?_
        refine rj_v (EqJ.on ChainJ.on) (by decide) (fun done vals w hR hJ hdn hd => v_indexAddr (et := 56) (sz := 2) (k := k) (by kernel_rfl) (by kernel_rfl) (hd 8 rfl) (hd 9 rfl) rfl (by omega)) ?_
        refine rj_v (EqJ.on ChainJ.on) (by decide) (fun done vals w hR hJ hdn hd => v_arrAddr (et := 29) (n := 2) (sz := 1) (k := 1) (by kernel_rfl) (hd 10 rfl) rfl rfl (by decide)) ?_
        refine rj_v (EqJ.on ChainJ.on) (by decide) (fun done vals w hR hJ hdn hd => v_load (by kernel_rfl) (hd 11 rfl) (pv_at ((hp3.keep hR (by rw [add_block]; exact fun h => by rcases h with h | h; have := (o3.own_lt h).1; omega; omega))) 1 rfl)) ?_
        refine rj_d (fun done vals w hR hcl hdk hJ hdn hd => by
            have zs_R := hR.size
            exact to_f1 (by kernel_rfl) (hd 12 rfl) (CallsR.mono (refNumber_c (n := m) rfl (by have := hxw.2.2; simp only [] at this; omega)) fun v w1 h => ⟨Keep.mono (h.2.2) (fun b _ h => h.elim), hJ.step hdk (by decide) (hJ.1.prod (n := 1) (h.2.2) rfl rfl (once_ps (by decide)) (by decide) (h.1.view.mono (fun b _ h => ⟨trivial, h.resolve_right (fun x => x)⟩)))⟩)) ?_
        refine rj_d (fun done vals w hR hcl hdk hJ hdn hd => by
            have zs_R := hR.size
            obtain ⟨hacc, hown, hsrc⟩ := hJ.1.at (n := 1) rfl hdk (fun m h => ⟨7, by cases h; rfl, hdn 7 rfl⟩)
            exact to_append (et := 5) (bytes := 1) (by kernel_rfl) rfl hacc rfl (hsrc _ _ rfl rfl (hdn 13 rfl)) (fun _ _ h => h) (by (simp; omega)) (by simp only [maxLen]; (simp; omega)) (by omega) (fun a n cc w1 o hn kk ho _ => ⟨kk.mono (fun b _ h => hown b h), hJ.step hdk (by decide) (hJ.1.app (n := 1) rfl hdk (fun m h => ⟨7, by cases h; rfl, hdn 7 rfl⟩) rfl (once_as (by decide)) (ps_ne (by decide)) o kk ho)⟩)) ?_
        refine rj_d (fun done vals w hR hcl hdk hJ hdn hd => OpTo.of_v (v_assign rfl) ⟨Keep.refl _, hJ.mv ChainJ.on (by decide) hdk (hdn 14 rfl) (by decide)⟩) ?_
        refine rj_nil (fun vals w4 k4 hJ => ?_)
        rintro _ _ rfl _ _ rfl _ _ rfl _ _ rfl _ _ rfl _ _ rfl _ rfl _ _ rfl _ _ _ rfl _ _ rfl _ _ rfl _ _ rfl _ _ rfl _ rfl _ _ rfl _ _ rfl _
        have zs_k4 := k4.size
        have o_hJ := hJ.1.fin (by exact Nat.le_refl _)
        have hv15 := (hJ.2 15 14 (by decide) rfl).2
        have o15 : OwV tU8 nU8 w4 w1.heap.size NoK (vals 15) (wPre sP ls (k + 1)) := by rw [hv15, hps]; simpa [accV, sP] using o_hJ
        generalize vals 15 = u at *
        obtain ⟨a5, c5, rfl⟩ := o15.shape
        have e4 : Ext w1 w4 := e3.step k4 fun b hb h => by rcases h with h | h; have := (o3.own_lt h).1; omega; omega
        refine fin_nilJ ?_
        refine n_blk ?_
        refine n_then ?_
        refine wp_reg (by decide +kernel) ?_
        refine l_v (v_move (t := .int _ _) rfl) ?_
        refine l_v (v_add rfl rfl (by first | exact wr_i64 (by omega) (by omega) | rfl)) ?_
        refine l_v (v_assign (t := .int _ _) rfl) ?_
        refine l_nil ?_
        refine n_then ?_
        refine ⟨(a5, c5, k + 1), _, rfl, by (repeat (first | exact Off.of_over _ _ _ | refine Off.upd ?_ (by decide) _)), ⟨by first | rfl | exact congrArg (Value.int _) (by omega) | (simp; done), by first | rfl | exact congrArg (Value.int _) (by omega) | (simp; done), trivial⟩, ?_, ?_⟩
        · exact ⟨o15, e4, by omega⟩
        · dsimp only; omega
      · skip
        have hd := dfalse hd
        obtain rfl : k = ls.length := by omega
        have hpf : wPre sP ls ls.length = wList sP ls := by simp [wPre, wList]
        have zs_e3 := e3.size
        refine wp_exit ?_
        refine x_then ?_
        refine x_then ?_
        refine x_hit ?_
        refine n_then ?_
        refine c_seq ?_
        refine wp_reg (by decide +kernel) ?_
        refine l_v (v_move (t := .slice _ _ _) rfl) ?_
        refine l_to (to_f1 (by kernel_rfl) (show _ = (Value.slice _ _ _) from rfl) (CallsR.mono (Open_c (o1.ext e3).view (by omega)) ?_))
        rintro _ w5 ⟨b5, rfl, r5, hb5, e5, z5⟩
        have zs_e5 := e5.size
        have e15 := e3.trans e5
        have e05 := e1.trans e15
        refine l_v (v_assign (t := .pointer _) rfl) ?_
        refine l_nil ?_
        refine n_then ?_
        refine c_seq ?_
        refine c_seq ?_
        refine wp_reg (by decide +kernel) ?_
        refine l_v (v_move (t := .int _ _) rfl) ?_
        refine l_to (to_f1 (by kernel_rfl) (show _ = (Value.int _ _) from rfl) (CallsR.mono (num_c) ?_))
        rintro _ w6 ⟨rfl, e6⟩
        have zs_e6 := e6.size
        refine l_v (OpVat.as (b := false) (v_neq rfl rfl) (by first | rfl | (simp; done) | (simp; omega))) ?_
        refine l_v (v_move (t := .bool _) rfl) ?_
        refine l_gt rfl rfl (OpTo.of_v (v_move (t := .slice _ _ _) rfl) ?_)
        refine l_gt rfl rfl (OpTo.of_v (v_b2s (et := 5) (by kernel_rfl) (by kernel_rfl) (by kernel_rfl) rfl ((o1.ext (e15.trans e6)).view)) ?_)
        refine l_gt rfl rfl (OpTo.of_v (v_move (t := .slice _ _ _) rfl) ?_)
        refine l_gt rfl rfl (OpTo.of_v (v_b2s (et := 5) (by kernel_rfl) (by kernel_rfl) (by kernel_rfl) rfl ((o3.ext (e5.trans e6)).view)) ?_)
        refine l_gt rfl rfl (OpTo.of_v (OpVat.as (b := false) (v_sne rfl rfl) (by rw [hpf]; simp)) ?_)
        refine l_v (v_orT rfl rfl) ?_
        refine l_v (v_move (t := .bool _) rfl) ?_
        refine l_gt rfl rfl (OpTo.of_v (v_move (t := .pointer _) rfl) ?_)
        refine l_gt rfl rfl (OpTo.of_v (OpVat.as (b := false) (v_peql (et := 71) (by kernel_rfl) rfl rfl) (by first | rfl | (simp; done) | (simp; omega))) ?_)
        refine l_v (v_orT rfl rfl) ?_
        refine l_nil ?_
        refine n_then ?_
        refine c_cond rfl rfl (fun hc3 => ?_) (fun hc3 => ?_)
        · skip
          cases hc3
        · skip
          have e06 := e05.trans e6
          have hq1 : (if (ls.length : Int) - 1 < 0 then .error 2 else tryRd (rdList rdP) ((ls.length : Int) - 1).toNat (wList sP ls)) = (.error 2 : Except Int (List (Int × Int) × List UInt8)) := by subst hls; rfl
          refine wp_skip ?_
          refine n_then ?_
          refine c_seq ?_
          refine c_seq ?_
          refine wp_reg (by decide +kernel) ?_
          refine l_v (v_move (t := .pointer _) rfl) ?_
          refine l_v (v_move (t := .slice _ _ _) rfl) ?_
          refine l_v (v_len (et := 56) (by kernel_rfl) rfl) ?_
          refine l_v (v_sub rfl rfl (by first | exact wr_i64 (by omega) (by omega) | rfl)) ?_
          refine l_to (to_f3 (by kernel_rfl) (show _ = (Value.pointer _) from rfl) (show _ = (Value.int _ _) from rfl) rfl (CallsR.mono (takeAP_c (cap := #[]) (most := (ls.length : Int) - 1) (r5.ext e6) (fun k hk => hk.2) (by omega) (by omega) (by kernel_rfl) rdP rdP_short (fun w1 c l1 e1 hc hr hl => pairP_c hr (fun k hk => by have := e1.size; omega) (fun h => by omega))) ?_))
          rintro r w7 ⟨hr7, k7⟩
          have zs_k7 := k7.size
          rw [hq1] at hr7
          obtain ⟨_, rfl, r7⟩ := hr7
          have e07 : Ext w w7 := e06.step k7 fun i hi h => by omega
          refine l_v (v_move (t := .tuple _) rfl) ?_
          refine l_v (v_extract (t := .slice _ _ _) rfl rfl) ?_
          refine l_v (v_extract (t := .int _ _) rfl rfl) ?_
          refine l_v (v_assign (t := .slice _ _ _) rfl) ?_
          refine l_v (v_assign (t := .int _ _) rfl) ?_
          refine l_nil ?_
          refine n_then ?_
          refine c_seq ?_
          refine wp_reg (by decide +kernel) ?_
          refine l_v (v_move (t := .slice _ _ _) rfl) ?_
          refine l_v (v_len (et := 56) (by kernel_rfl) rfl) ?_
          refine l_v (OpVat.as (b := false) (v_neq rfl rfl) (by first | rfl | (simp; done) | (simp; omega))) ?_
          refine l_v (v_move (t := .bool _) rfl) ?_
          refine l_gt rfl rfl (OpTo.of_v (v_move (t := .slice _ _ _) rfl) ?_)
          refine l_gt rfl rfl (OpTo.of_v (v_len (et := 56) (by kernel_rfl) rfl) ?_)
          refine l_gt rfl rfl (OpTo.of_v (OpVat.as (b := false) (v_gtr rfl rfl) (by subst hls; rfl)) ?_)
          refine l_gt rfl rfl (OpTo.of_v (v_move (t := .bool _) rfl) ?_)
          refine l_skip (u := .bool false) rfl rfl rfl ?_
          refine l_skip (u := .bool false) rfl rfl rfl ?_
          refine l_skip (u := .bool false) rfl rfl rfl ?_
          refine l_gt rfl rfl (OpTo.of_v (v_andC rfl) ?_)
          refine l_v (v_orT rfl rfl) ?_
          refine l_v (v_move (t := .bool _) rfl) ?_
          refine l_gt rfl rfl (OpTo.of_v (v_move (t := .slice _ _ _) rfl) ?_)
          refine l_gt rfl rfl (OpTo.of_v (v_len (et := 56) (by kernel_rfl) rfl) ?_)
          refine l_gt rfl rfl (OpTo.of_v (OpVat.as (b := true) (v_eql rfl rfl) (by subst hls; rfl)) ?_)
          refine l_gt rfl rfl (OpTo.of_v (v_move (t := .bool _) rfl) ?_)
          refine l_gt rfl rfl (OpTo.of_v (v_move (t := .int _ _) rfl) ?_)
          refine l_gt rfl rfl (to_f1 (by kernel_rfl) (show _ = (Value.int _ _) from rfl) (CallsR.mono (num_c) ?_))
          rintro _ w8 ⟨rfl, e9b⟩
          refine l_gt rfl rfl (OpTo.of_v (OpVat.as (b := false) (v_neq rfl rfl) (by first | rfl | (simp; done) | (simp; omega))) ?_)
          refine l_gt rfl rfl (OpTo.of_v (v_andT rfl rfl) ?_)
          refine l_v (v_orT rfl rfl) ?_
          refine l_v (v_move (t := .bool _) rfl) ?_
          refine l_gt rfl rfl (OpTo.of_v (v_move (t := .pointer _) rfl) ?_)
          refine l_gt rfl rfl (to_f1 (by kernel_rfl) (show _ = (Value.pointer _) from rfl) (CallsR.mono (Left_c (r7.ext e9b)) ?_))
          rintro _ w9 ⟨rfl, e9⟩
          have zs_e9 := e9.size
          refine l_gt rfl rfl (OpTo.of_v (v_move (t := .slice _ _ _) rfl) ?_)
          refine l_gt rfl rfl (OpTo.of_v (v_len (et := 5) (by kernel_rfl) rfl) ?_)
          refine l_gt rfl rfl (OpTo.of_v (OpVat.as (b := false) (v_neq rfl rfl) (by first | rfl | (simp; done) | (simp; omega))) ?_)
          refine l_v (v_orT rfl rfl) ?_
          refine l_nil ?_
          refine n_then ?_
          refine c_cond rfl rfl (fun hc4 => ?_) (fun hc4 => ?_)
          · skip
            cases hc4
          · skip
            have e79 : Ext w7 w9 := e9b.trans e9
            have e09 := e07.trans e79
            have hq2 : tryRd (rdList rdP) ls.length (wList sP ls) = .ok (ls, []) := takes_all ls (by omega) hwf
            refine wp_skip ?_
            refine n_then ?_
            refine c_seq ?_
            refine wp_reg (by decide +kernel) ?_
            refine l_v (v_move (t := .pointer _) rfl) ?_
            refine l_v (v_move (t := .slice _ _ _) rfl) ?_
            refine l_v (v_len (et := 56) (by kernel_rfl) rfl) ?_
            refine l_to (to_f3 (by kernel_rfl) (show _ = (Value.pointer _) from rfl) (show _ = (Value.int _ _) from rfl) rfl (CallsR.mono (takeP_c (cap := #[]) (r7.ext e79) (fun k hk => hk.2) (by omega) (by omega) (by omega) (by kernel_rfl) rdP rdP_short (fun w1 c l1 e1 hc hr hl => pairP_c hr (fun k hk => by have := e1.size; have := e79.size; have := k7.size; omega) (fun h => by have := e79.size; have := k7.size; omega))) ?_))
            rintro r w10 ⟨hr10, k10⟩
            have zs_k10 := k10.size
            rw [show ((ls.length : Int)).toNat = ls.length from by omega, hq2] at hr10
            obtain ⟨a10, c10, rfl, o10, r10⟩ := hr10
            have zs_e79 := e79.size
            have e10 : Ext w w10 := e09.step k10 fun i hi h => by omega
            refine l_v (v_move (t := .tuple _) rfl) ?_
            refine l_v (v_extract (t := .slice _ _ _) rfl rfl) ?_
            refine l_v (v_extract (t := .int _ _) rfl rfl) ?_
            refine l_v (v_assign (t := .slice _ _ _) rfl) ?_
            refine l_v (v_assign (t := .int _ _) rfl) ?_
            refine l_nil ?_
            refine n_then ?_
            refine c_seq ?_
            refine c_seq ?_
            refine wp_reg (by decide +kernel) ?_
            refine l_v (v_move (t := .int _ _) rfl) ?_
            refine l_to (to_f1 (by kernel_rfl) (show _ = (Value.int _ _) from rfl) (CallsR.mono (num_c) ?_))
            rintro _ w11 ⟨rfl, e11⟩
            have zs_e11 := e11.size
            refine l_v (v_move (t := .pointer _) rfl) ?_
            refine l_to (to_f1 (by kernel_rfl) (show _ = (Value.pointer _) from rfl) (CallsR.mono (End_c (r10.ext e11)) ?_))
            rintro _ w12 ⟨rfl, e12⟩
            have zs_e12 := e12.size
            refine l_to (to_f1 (by kernel_rfl) (show _ = (Value.int _ _) from rfl) (CallsR.mono (num_c) ?_))
            rintro _ w13 ⟨rfl, e13⟩
            have zs_e13 := e13.size
            refine l_v (v_add rfl rfl (by first | exact wr_i64 (by omega) (by omega) | rfl)) ?_
            refine l_v (OpVat.as (b := false) (v_neq rfl rfl) (by first | rfl | (simp; done) | (simp; omega))) ?_
            refine l_v (v_move (t := .bool _) rfl) ?_
            refine l_gt rfl rfl (OpTo.of_v (v_move (t := .slice _ _ _) rfl) ?_)
            refine l_gt rfl rfl (OpTo.of_v (v_len (et := 56) (by kernel_rfl) rfl) ?_)
            refine l_gt rfl rfl (OpTo.of_v (v_move (t := .slice _ _ _) rfl) ?_)
            refine l_gt rfl rfl (OpTo.of_v (v_len (et := 56) (by kernel_rfl) rfl) ?_)
            refine l_gt rfl rfl (OpTo.of_v (OpVat.as (b := false) (v_neq rfl rfl) (by first | rfl | (simp; done) | (simp; omega))) ?_)
            refine l_v (v_orT rfl rfl) ?_
            refine l_nil ?_
            refine n_then ?_
            refine c_cond rfl rfl (fun hc5 => ?_) (fun hc5 => ?_)
            · skip
              cases hc5
            · skip
              have e1013 := (e11.trans e12).trans e13
              have e013 := e10.trans e1013
              have hv13 := hv.ext e013
              have ho13 := (o10.ext e1013).view
              refine wp_skip ?_
              refine n_then ?_
              refine c_seq ?_
              refine c_seq ?_
              refine wp_reg (by decide +kernel) ?_
              refine l_v (v_assign rfl) ?_
              refine l_nil ?_
              refine n_then ?_
              refine wp_block ?_
              refine c_loop (τ := Nat) [4, 14, 127, 128, 129, 130, 131, 132, 133, 134, 135, 136, 137, 138, 139, 140, 141] (fun k => [(14, .int .i64 k)]) (fun k w => Ext w13 w ∧ k ≤ ls.length) (fun k => ls.length - k) 0 (by exact ⟨rfl, trivial⟩) (by exact ⟨Keep.refl _, Nat.zero_le _⟩) ?_
              rintro k w14 j2 ⟨e14, h14⟩
              refine c_seq ?_
              refine c_seq ?_
              refine wp_reg (by decide +kernel) ?_
              refine l_v (v_move (t := .int _ _) rfl) ?_
              refine l_v (v_move (t := .slice _ _ _) rfl) ?_
              refine l_v (v_len (et := 56) (by kernel_rfl) rfl) ?_
              refine l_v (v_lss rfl rfl) ?_
              refine l_nil ?_
              refine n_then ?_
              refine c_cond rfl rfl (fun hd2 => ?_) (fun hd2 => ?_)
              · skip
                have hd2 := dtrue hd2
                obtain ⟨x, hx⟩ : ∃ x, ls[k]? = some x := ⟨ls[k]'(by omega), by simp [show k < ls.length by omega]⟩
                obtain ⟨q, cs, rfl, hFq, hp, hrep⟩ := SlV_at hv13 hx
                obtain ⟨q5, cs5, rfl, _, hp5, hrep5⟩ := SlV_at ho13 hx
                obtain ⟨x1, x2⟩ := x
                obtain ⟨_, _, rfl, ⟨rfl, _⟩, ⟨rfl, _⟩⟩ := hrep
                obtain ⟨_, _, rfl, ⟨rfl, _⟩, ⟨rfl, _⟩⟩ := hrep5
                refine wp_skip ?_
                refine n_then ?_
                refine c_seq ?_
                refine wp_block ?_
                refine c_seq ?_
                refine wp_regd (NoK) (by kernel_rfl) (by decide +kernel) (by decide +kernel) ?_
                refine rt_v (fun vals w hR hd => v_move (t := .slice _ _ _) rfl) ?_
                refine rt_v (fun vals w hR hd => v_move (t := .int _ _) rfl) ?_
                refine rt_v (fun vals w hR hd => v_indexAddr (et := 56) (sz := 2) (k := k) (by kernel_rfl) (by kernel_rfl) (hd 0 rfl) (hd 1 rfl) rfl (by omega)) ?_
                refine rt_v (fun vals w hR hd => v_loadA (n := 2) (by kernel_rfl) (hd 2 rfl) ((hp5.ext (e14.trans hR))) (rfl)) ?_
                refine rt_v (fun vals w hR hd => v_move (t := .slice _ _ _) rfl) ?_
                refine rt_v (fun vals w hR hd => v_move (t := .int _ _) rfl) ?_
                refine rt_v (fun vals w hR hd => v_indexAddr (et := 56) (sz := 2) (k := k) (by kernel_rfl) (by kernel_rfl) (hd 4 rfl) (hd 5 rfl) rfl (by omega)) ?_
                refine rt_v (fun vals w hR hd => v_loadA (n := 2) (by kernel_rfl) (hd 6 rfl) ((hp.ext (e14.trans hR))) (rfl)) ?_
                refine rt_v (fun vals w hR hd => v_aneq2 (et := 29) (k := .u64) (by kernel_rfl) (by kernel_rfl) (by kernel_rfl) (hd 3 rfl) (hd 7 rfl)) ?_
                refine rt_nil (fun w15 e15 => ?_)
                rintro _ rfl _ rfl _ rfl _ rfl _ rfl _ rfl _ rfl _ rfl _ rfl
                have zs_e15 := e15.size
                refine fin_nil ?_
                refine n_then ?_
                refine c_cond rfl rfl (fun hc6 => ?_) (fun hc6 => ?_)
                · skip
                  simp at hc6
                · skip
                  refine wp_skip ?_
                  refine n_blk ?_
                  refine n_then ?_
                  refine wp_reg (by decide +kernel) ?_
                  refine l_v (v_move (t := .int _ _) rfl) ?_
                  refine l_v (v_add rfl rfl (by first | exact wr_i64 (by omega) (by omega) | rfl)) ?_
                  refine l_v (v_assign (t := .int _ _) rfl) ?_
                  refine l_nil ?_
                  refine n_then ?_
                  refine ⟨k + 1, _, rfl, by (repeat (first | exact Off.of_over _ _ _ | refine Off.upd ?_ (by decide) _)), ⟨by first | rfl | exact congrArg (Value.int _) (by omega) | (simp; done), trivial⟩, ?_, ?_⟩
                  · exact ⟨e14.trans e15, by omega⟩
                  · dsimp only; omega
              · skip
                have e014 := e013.trans e14
                have zs_e014 := e014.size
                refine wp_exit ?_
                refine x_then ?_
                refine x_then ?_
                refine x_hit ?_
                refine n_then ?_
                refine c_seq ?_
                refine c_seq ?_
                refine wp_reg (by decide +kernel) ?_
                refine l_v (v_move (t := .int _ _) rfl) ?_
                refine l_v (v_lss rfl rfl) ?_
                refine l_v (v_move (t := .bool _) rfl) ?_
                refine l_g1 rfl rfl (fun hG => v_move (t := .int _ _) rfl) ?_
                refine l_g1 rfl rfl (fun hG => v_move (t := .slice _ _ _) rfl) ?_
                refine l_g1 rfl rfl (fun hG => v_len (et := 5) (by kernel_rfl) (gd hG rfl)) ?_
                refine l_g1 rfl rfl (fun hG => v_geq (gd hG rfl) (gd hG rfl)) ?_
                refine l_v (v_or rfl rfl) ?_
                refine l_nil ?_
                refine n_then ?_
                refine c_cond rfl rfl (fun hc7 => ?_) (fun hc7 => ?_)
                · skip
                  refine c_seq ?_
                  refine wp_reg (by decide +kernel) ?_
                  refine l_to (to_f0 (by kernel_rfl) (CallsR.mono (known_c) ?_))
                  rintro _ w16 ⟨rfl, e16⟩
                  have zs_e16 := e16.size
                  refine l_v (v_assign (t := .bool _) rfl) ?_
                  refine l_nil ?_
                  refine n_then ?_
                  refine wp_ret ?_
                  refine r_then ?_
                  refine ret1 rfl (by decide) ?_
                  exact ⟨rfl, e014.trans e16⟩
                · skip
                  simp at hc7
                  obtain ⟨j, rfl⟩ := Int.eq_ofNat_of_zero_le hc7.1
                  have hcut : j < (wList sP ls).length := by have := hc7.2; omega
                  have e114 : Ext w1 w14 := ((((e15.trans e6).step k7 (fun i hi h => by omega)).trans e79).step k10 (fun i hi h => by omega)).trans (e1013.trans e14)
                  refine wp_skip ?_
                  refine n_then ?_
                  refine c_seq ?_
                  refine wp_reg (by decide +kernel) ?_
                  refine l_v (v_move (t := .slice _ _ _) rfl) ?_
                  refine l_v (v_move (t := .int _ _) rfl) ?_
                  refine l_to (to_slice (et := 5) (l := 0) (h := j) (by kernel_rfl) (by kernel_rfl) (show _ = (Value.slice _ _ _) from rfl) (o1.ext e114).view rfl ⟨_, by exact rfl⟩ (by first | omega | (simp; done) | (simp; omega)) (by first | omega | (simp; done) | (simp; omega)) ?_)
                  rintro a16 n16 c16 h16 hn16 hs16
                  rw [List.drop_zero] at h16
                  refine l_to (to_f1 (by kernel_rfl) (show _ = (Value.slice _ _ _) from rfl) (CallsR.mono (Open_c h16 (by simp; omega)) ?_))
                  rintro _ w17 ⟨b17, rfl, r17, hb17, e17, z17⟩
                  have zs_e17 := e17.size
                  have hq3 := takes_cut ls (by omega) hwf hcut
                  have hlj : ((wList sP ls).take j).length = j := by simp; omega
                  refine l_v (v_assign (t := .pointer _) rfl) ?_
                  refine l_nil ?_
                  refine n_then ?_
                  refine c_seq ?_
                  refine wp_reg (by decide +kernel) ?_
                  refine l_v (v_move (t := .pointer _) rfl) ?_
                  refine l_v (v_move (t := .slice _ _ _) rfl) ?_
                  refine l_v (v_len (et := 56) (by kernel_rfl) rfl) ?_
                  refine l_to (to_f3 (by kernel_rfl) (show _ = (Value.pointer _) from rfl) (show _ = (Value.int _ _) from rfl) rfl (CallsR.mono (takeP_c (cap := #[]) r17 (fun k hk => hk.2) (by omega) (by omega) (by omega) (by kernel_rfl) rdP rdP_short (fun w1 c l1 e1 hc hr hl => pairP_c hr (fun k hk => by have := e1.size; omega) (fun h => by omega))) ?_))
                  rintro r w18 ⟨hr18, k18⟩
                  have zs_k18 := k18.size
                  rw [show ((ls.length : Int)).toNat = ls.length from by omega, hq3] at hr18
                  obtain ⟨_, rfl, r18⟩ := hr18
                  have e018 : Ext w w18 := (e014.trans e17).step k18 fun i hi h => by omega
                  refine l_v (v_move (t := .tuple _) rfl) ?_
                  refine l_v (v_extract (t := .slice _ _ _) rfl rfl) ?_
                  refine l_v (v_extract (t := .int _ _) rfl rfl) ?_
                  refine l_v (v_assign (t := .slice _ _ _) rfl) ?_
                  refine l_v (v_assign (t := .int _ _) rfl) ?_
                  refine l_nil ?_
                  refine n_then ?_
                  refine c_seq ?_
                  refine wp_reg (by decide +kernel) ?_
                  refine l_v (v_move (t := .slice _ _ _) rfl) ?_
                  refine l_v (v_len (et := 56) (by kernel_rfl) rfl) ?_
                  refine l_v (OpVat.as (b := true) (v_eql rfl rfl) (by first | rfl | (simp; done) | (simp; omega))) ?_
                  refine l_v (v_move (t := .bool _) rfl) ?_
                  refine l_gt rfl rfl (OpTo.of_v (v_move (t := .int _ _) rfl) ?_)
                  refine l_gt rfl rfl (to_f1 (by kernel_rfl) (show _ = (Value.int _ _) from rfl) (CallsR.mono (num_c) ?_))
                  rintro _ w19 ⟨rfl, e19⟩
                  have zs_e19 := e19.size
                  refine l_gt rfl rfl (OpTo.of_v (OpVat.as (b := true) (v_eql rfl rfl) (by first | rfl | (simp; done) | (simp; omega))) ?_)
                  refine l_v (v_andT rfl rfl) ?_
                  refine l_v (v_move (t := .bool _) rfl) ?_
                  refine l_gt rfl rfl (OpTo.of_v (v_move (t := .pointer _) rfl) ?_)
                  refine l_gt rfl rfl (to_f1 (by kernel_rfl) (show _ = (Value.pointer _) from rfl) (CallsR.mono (Left_c (r18.ext e19)) ?_))
                  rintro _ w20 ⟨rfl, e20⟩
                  have zs_e20 := e20.size
                  refine l_gt rfl rfl (OpTo.of_v (v_move (t := .int _ _) rfl) ?_)
                  refine l_gt rfl rfl (OpTo.of_v (OpVat.as (b := true) (v_eql rfl rfl) (by rw [hlj]; simp)) ?_)
                  refine l_v (v_andT rfl rfl) ?_
                  refine l_v (v_move (t := .bool _) rfl) ?_
                  refine l_gt rfl rfl (to_f0 (by kernel_rfl) (CallsR.mono (known_c) ?_))
                  rintro _ w21 ⟨rfl, e21⟩
                  have zs_e21 := e21.size
                  refine l_v (v_andT rfl rfl) ?_
                  refine l_v (v_assign (t := .bool _) rfl) ?_
                  refine l_nil ?_
                  refine n_then ?_
                  refine wp_ret ?_
                  refine ret1 rfl (by decide) ?_
                  exact ⟨rfl, ((e018.trans e19).trans e20).trans e21⟩

  · skip
    refine enter 179 Try.func7 rfl rfl (by simp) ?_
    refine c_seq ?_
    refine wp_reg (by decide +kernel) ?_
    refine l_v (v_assign rfl) ?_
    refine l_nil ?_
    refine n_then ?_
    refine c_seq ?_
    refine c_seq ?_
    refine wp_reg (by decide +kernel) ?_
    refine l_v (v_move (t := .slice _ _ _) rfl) ?_
    refine l_v (v_len (et := 56) (by kernel_rfl) rfl) ?_
    refine l_v (v_gtr rfl rfl) ?_
    refine l_nil ?_
    refine n_then ?_
    refine c_cond rfl rfl (fun hc => ?_) (fun hc => ?_)
    · skip
      refine c_seq ?_
      refine wp_reg (by decide +kernel) ?_
      refine l_to (to_f0 (by kernel_rfl) (CallsR.mono (known_c) ?_))
      rintro _ w1 ⟨rfl, e1⟩
      have zs_e1 := e1.size
      refine l_v (v_assign (t := .bool _) rfl) ?_
      refine l_nil ?_
      refine n_then ?_
      refine wp_ret ?_
      refine r_then ?_
      refine ret1 rfl (by decide) ?_
      exact ⟨rfl, e1⟩
    · skip
      have hl : ls.length ≤ 3000 := by have := dfalse hc; omega
      have hfl := flat_le (k := 20) (sp := sP) ls (fun x hx => sP_len (hwf x hx).1 (hwf x hx).2)
      have hln := wNum_len10 (n := ls.length) (by omega)
      have hwl : (wList sP ls).length ≤ 60010 := by rw [wList, List.length_append]; omega
      refine wp_skip ?_
      refine n_then ?_
      refine c_seq ?_
      refine wp_reg (by decide +kernel) ?_
      refine l_v (v_move (t := .slice _ _ _) rfl) ?_
      refine l_to (to_f2 (by kernel_rfl) (show _ = (Value.slice _ _ _) from rfl) rfl (CallsR.mono (putP_c (cap := #[]) hv (by kernel_rfl) sP (fun w1 cs x e1 hr hx => formP_c hr) (by omega) (by omega)) ?_))
      rintro _ w1 ⟨q1, c1, rfl, o1, e1⟩
      have zs_e1 := e1.size
      refine l_v (v_move (t := .tuple _) rfl) ?_
      refine l_v (v_extract (t := .slice _ _ _) rfl rfl) ?_
      refine l_v (v_extract (t := .int _ _) rfl rfl) ?_
      refine l_v (v_assign (t := .slice _ _ _) rfl) ?_
      refine l_v (v_assign (t := .int _ _) rfl) ?_
      refine l_nil ?_
      refine n_then ?_
      refine c_seq ?_
      refine wp_reg (by decide +kernel) ?_
      refine l_v (v_move (t := .slice _ _ _) rfl) ?_
      refine l_v (v_len (et := 56) (by kernel_rfl) rfl) ?_
      refine l_v (v_conv (ds := .int .i64) (by kernel_rfl) (by kernel_rfl) rfl (by first | exact wr_u64 (by omega) (by omega) | rfl)) ?_
      refine l_to (to_f1 (by kernel_rfl) (show _ = (Value.int _ _) from rfl) (CallsR.mono (refNumber_l (l := wPre sP ls 0) (by simp [wPre]) (n := ls.length) rfl (by omega)) ?_))
      rintro _ w2 ⟨o2, ⟨q2, c2, rfl⟩, e2⟩
      have zs_e2 := e2.size
      refine l_v (v_assign (t := .slice _ _ _) rfl) ?_
      refine l_nil ?_
      refine n_then ?_
      refine c_seq ?_
      refine c_seq ?_
      refine wp_reg (by decide +kernel) ?_
      refine l_v (v_assign rfl) ?_
      refine l_nil ?_
      refine n_then ?_
      refine wp_block ?_
      refine c_loop (τ := Option Addr × Nat × Nat) [7, 8, 31, 32, 33, 34, 35, 36, 37, 38, 39, 40, 41, 42, 43, 44, 45, 46, 47, 48, 49, 50, 51] (fun (a2, c2, k) => [(7, .slice a2 (wPre sP ls k).length c2), (8, .int .i64 k)]) (fun (a2, c2, k) w => OwV tU8 nU8 w w1.heap.size NoK (.slice a2 (wPre sP ls k).length c2) (wPre sP ls k) ∧ Ext w1 w ∧ k ≤ ls.length) (fun (a2, c2, k) => ls.length - k) (some q2, c2, 0) (by exact ⟨rfl, rfl, trivial⟩) (by exact ⟨o2, e2, Nat.zero_le _⟩) ?_
      rintro ⟨a2, c2, k⟩ w3 j ⟨o3, e3, h3⟩
      refine c_seq ?_
      refine c_seq ?_
      refine wp_reg (by decide +kernel) ?_
      refine l_v (v_move (t := .int _ _) rfl) ?_
      refine l_v (v_move (t := .slice _ _ _) rfl) ?_
      refine l_v (v_len (et := 56) (by kernel_rfl) rfl) ?_
      refine l_v (v_lss rfl rfl) ?_
      refine l_nil ?_
      refine n_then ?_
      refine c_cond rfl rfl (fun hd => ?_) (fun hd => ?_)
      · skip
        have hd := dtrue hd
        have zs_e3 := e3.size
        obtain ⟨x, hx⟩ : ∃ x, ls[k]? = some x := ⟨ls[k]'(by omega), by simp [show k < ls.length by omega]⟩
        obtain ⟨q, cs, rfl, hFq, hp, hrep⟩ := SlV_at hv hx
        obtain ⟨x1, x2⟩ := x
        obtain ⟨_, _, rfl, ⟨rfl, _⟩, ⟨rfl, _⟩⟩ := hrep
        have hxw := hwf _ (List.mem_of_getElem? hx)
        obtain ⟨n, rfl⟩ := Int.eq_ofNat_of_zero_le hxw.1.1
        obtain ⟨m, rfl⟩ := Int.eq_ofNat_of_zero_le hxw.2.1
        have hn := wNum_len10 (n := n) (by have := hxw.1.2; simp only [] at this; omega)
        have hm := wNum_len10 (n := m) (by have := hxw.2.2; simp only [] at this; omega)
        have hps := wPre_succ (sp := sP) hx
        have hple := wPre_le sP ls k
        have hple2 := wPre_le sP ls (k + 1)
        have hqlt := hF _ hFq
        have hp3 := hp.ext (e1.trans e3)
        refine wp_skip ?_
        refine n_then ?_
        refine c_seq ?_
        refine wp_block ?_
        refine wp_regJ (fun b => (.slice a2 (wPre sP ls k).length c2 : Value).ownBlock = some b ∨ w3.heap.size ≤ b) (EqJ [(15, 14)] (ChainJ (tU8) (nU8) w3.heap.size (w1.heap.size) (NoK) (AllB) (.slice a2 (wPre sP ls k).length c2 : Value) (wPre sP ls k) [7, 14] [some 6, some 13] [wNum n, wNum m])) (by kernel_rfl) (by decide +kernel) (by decide +kernel) (fun vals done hd => EqJ.start (ChainJ.start ((o3).ext (Keep.drawn _ _)) (by omega) (Nat.le_refl _) (fun i hi => hd i (dOf_lt (by decide) hi))) (fun k j hq => hd k (dQ_lt (by decide) k j hq))) ?_
        refine rj_v (EqJ.on ChainJ.on) (by decide) (fun done vals w hR hJ hdn hd => v_move (t := .slice _ _ _) rfl) ?_
        refine rj_v (EqJ.on ChainJ.on) (by decide) (fun done vals w hR hJ hdn hd => v_move (t := .slice _ _ _) rfl) ?_
        refine rj_v (EqJ.on ChainJ.on) (by decide) (fun done vals w hR hJ hdn hd => v_move (t := .int _ _) rfl) ?_
        refine rj_v (EqJ.on ChainJ.on) (by decide) (fun done vals w hR hJ hdn hd => v_indexAddr (et := 56) (sz := 2) (k := k) (by kernel_rfl) (by kernel_rfl) (hd 1 rfl) (hd 2 rfl) rfl (by omega)) ?_
        refine rj_v (EqJ.on ChainJ.on) (by decide) (fun done vals w hR hJ hdn hd => v_arrAddr (et := 29) (n := 2) (sz := 1) (k := 0) (by kernel_rfl) (hd 3 rfl) rfl rfl (by decide)) ?_
        refine rj_v (EqJ.on ChainJ.on) (by decide) (fun done vals w hR hJ hdn hd => v_load (by kernel_rfl) (hd 4 rfl) ((hp3.keep hR (by rw [add_block]; exact fun h => by rcases h with h | h; have := (o3.own_lt h).1; omega; omega)) 0 _ rfl)) ?_
        refine rj_d (fun done vals w hR hcl hdk hJ hdn hd => by
            have zs_R := hR.size
            exact to_f1 (by kernel_rfl) (hd 5 rfl) (CallsR.mono (refNumber_c (n := n) rfl (by have := hxw.1.2; simp only [] at this; omega)) fun v w1 h => ⟨Keep.mono (h.2.2) (fun b _ h => h.elim), hJ.step hdk (by decide) (hJ.1.prod (n := 0) (h.2.2) rfl rfl (once_ps (by decide)) (by decide) (h.1.view.mono (fun b _ h => ⟨trivial, h.resolve_right (fun x => x)⟩)))⟩)) ?_
        refine rj_d (fun done vals w hR hcl hdk hJ hdn hd => by
            have zs_R := hR.size
            obtain ⟨hacc, hown, hsrc⟩ := hJ.1.at (n := 0) rfl hdk (fun m h => by cases h)
            exact to_append (et := 5) (bytes := 1) (by kernel_rfl) (hd 0 rfl) hacc rfl (hsrc _ _ rfl rfl (hdn 6 rfl)) (fun _ _ h => h) (by (simp; omega)) (by simp only [maxLen]; (simp; omega)) (by omega) (fun a n cc w1 o hn kk ho _ => ⟨kk.mono (fun b _ h => hown b h), hJ.step hdk (by decide) (hJ.1.app (n := 0) rfl hdk (fun m h => by cases h) rfl (once_as (by decide)) (ps_ne (by decide)) o kk ho)⟩)) ?_
        refine rj_v (EqJ.on ChainJ.on) (by decide) (fun done vals w hR hJ hdn hd => v_move (t := .slice _ _ _) rfl) ?_
        refine rj_v (EqJ.on ChainJ.on) (by decide) (fun done vals w hR hJ hdn hd => v_move (t := .int _ _) rfl) ?_
        refine rj_v (EqJ.on ChainJ.on) (by decide) (fun done vals w hR hJ hdn hd => v_indexAddr (et := 56) (sz := 2) (k := k) (by kernel_rfl) (by kernel_rfl) (hd 8 rfl) (hd 9 rfl) rfl (by omega)) ?_
        refine rj_v (EqJ.on ChainJ.on) (by decide) (fun done vals w hR hJ hdn hd => v_arrAddr (et := 29) (n := 2) (sz := 1) (k := 1) (by kernel_rfl) (hd 10 rfl) rfl rfl (by decide)) ?_
        refine rj_v (EqJ.on ChainJ.on) (by decide) (fun done vals w hR hJ hdn hd => v_load (by kernel_rfl) (hd 11 rfl) (pv_at ((hp3.keep hR (by rw [add_block]; exact fun h => by rcases h with h | h; have := (o3.own_lt h).1; omega; omega))) 1 rfl)) ?_
        refine rj_d (fun done vals w hR hcl hdk hJ hdn hd => by
            have zs_R := hR.size
            exact to_f1 (by kernel_rfl) (hd 12 rfl) (CallsR.mono (refNumber_c (n := m) rfl (by have := hxw.2.2; simp only [] at this; omega)) fun v w1 h => ⟨Keep.mono (h.2.2) (fun b _ h => h.elim), hJ.step hdk (by decide) (hJ.1.prod (n := 1) (h.2.2) rfl rfl (once_ps (by decide)) (by decide) (h.1.view.mono (fun b _ h => ⟨trivial, h.resolve_right (fun x => x)⟩)))⟩)) ?_
        refine rj_d (fun done vals w hR hcl hdk hJ hdn hd => by
            have zs_R := hR.size
            obtain ⟨hacc, hown, hsrc⟩ := hJ.1.at (n := 1) rfl hdk (fun m h => ⟨7, by cases h; rfl, hdn 7 rfl⟩)
            exact to_append (et := 5) (bytes := 1) (by kernel_rfl) rfl hacc rfl (hsrc _ _ rfl rfl (hdn 13 rfl)) (fun _ _ h => h) (by (simp; omega)) (by simp only [maxLen]; (simp; omega)) (by omega) (fun a n cc w1 o hn kk ho _ => ⟨kk.mono (fun b _ h => hown b h), hJ.step hdk (by decide) (hJ.1.app (n := 1) rfl hdk (fun m h => ⟨7, by cases h; rfl, hdn 7 rfl⟩) rfl (once_as (by decide)) (ps_ne (by decide)) o kk ho)⟩)) ?_
        refine rj_d (fun done vals w hR hcl hdk hJ hdn hd => OpTo.of_v (v_assign rfl) ⟨Keep.refl _, hJ.mv ChainJ.on (by decide) hdk (hdn 14 rfl) (by decide)⟩) ?_
        refine rj_nil (fun vals w4 k4 hJ => ?_)
        rintro _ _ rfl _ _ rfl _ _ rfl _ _ rfl _ _ rfl _ _ rfl _ rfl _ _ rfl _ _ _ rfl _ _ rfl _ _ rfl _ _ rfl _ _ rfl _ rfl _ _ rfl _ _ rfl _
        have zs_k4 := k4.size
        have o_hJ := hJ.1.fin (by exact Nat.le_refl _)
        have hv15 := (hJ.2 15 14 (by decide) rfl).2
        have o15 : OwV tU8 nU8 w4 w1.heap.size NoK (vals 15) (wPre sP ls (k + 1)) := by rw [hv15, hps]; simpa [accV, sP] using o_hJ
        generalize vals 15 = u at *
        obtain ⟨a5, c5, rfl⟩ := o15.shape
        have e4 : Ext w1 w4 := e3.step k4 fun b hb h => by rcases h with h | h; have := (o3.own_lt h).1; omega; omega
        refine fin_nilJ ?_
        refine n_blk ?_
        refine n_then ?_
        refine wp_reg (by decide +kernel) ?_
        refine l_v (v_move (t := .int _ _) rfl) ?_
        refine l_v (v_add rfl rfl (by first | exact wr_i64 (by omega) (by omega) | rfl)) ?_
        refine l_v (v_assign (t := .int _ _) rfl) ?_
        refine l_nil ?_
        refine n_then ?_
        refine ⟨(a5, c5, k + 1), _, rfl, by (repeat (first | exact Off.of_over _ _ _ | refine Off.upd ?_ (by decide) _)), ⟨by first | rfl | exact congrArg (Value.int _) (by omega) | (simp; done), by first | rfl | exact congrArg (Value.int _) (by omega) | (simp; done), trivial⟩, ?_, ?_⟩
        · exact ⟨o15, e4, by omega⟩
        · dsimp only; omega
      · skip
        have hd := dfalse hd
        obtain rfl : k = ls.length := by omega
        have hpf : wPre sP ls ls.length = wList sP ls := by simp [wPre, wList]
        have zs_e3 := e3.size
        refine wp_exit ?_
        refine x_then ?_
        refine x_then ?_
        refine x_hit ?_
        refine n_then ?_
        refine c_seq ?_
        refine wp_reg (by decide +kernel) ?_
        refine l_v (v_move (t := .slice _ _ _) rfl) ?_
        refine l_to (to_f1 (by kernel_rfl) (show _ = (Value.slice _ _ _) from rfl) (CallsR.mono (Open_c (o1.ext e3).view (by omega)) ?_))
        rintro _ w5 ⟨b5, rfl, r5, hb5, e5, z5⟩
        have zs_e5 := e5.size
        have e15 := e3.trans e5
        have e05 := e1.trans e15
        refine l_v (v_assign (t := .pointer _) rfl) ?_
        refine l_nil ?_
        refine n_then ?_
        refine c_seq ?_
        refine c_seq ?_
        refine wp_reg (by decide +kernel) ?_
        refine l_v (v_move (t := .int _ _) rfl) ?_
        refine l_to (to_f1 (by kernel_rfl) (show _ = (Value.int _ _) from rfl) (CallsR.mono (num_c) ?_))
        rintro _ w6 ⟨rfl, e6⟩
        have zs_e6 := e6.size
        refine l_v (OpVat.as (b := false) (v_neq rfl rfl) (by first | rfl | (simp; done) | (simp; omega))) ?_
        refine l_v (v_move (t := .bool _) rfl) ?_
        refine l_gt rfl rfl (OpTo.of_v (v_move (t := .slice _ _ _) rfl) ?_)
        refine l_gt rfl rfl (OpTo.of_v (v_b2s (et := 5) (by kernel_rfl) (by kernel_rfl) (by kernel_rfl) rfl ((o1.ext (e15.trans e6)).view)) ?_)
        refine l_gt rfl rfl (OpTo.of_v (v_move (t := .slice _ _ _) rfl) ?_)
        refine l_gt rfl rfl (OpTo.of_v (v_b2s (et := 5) (by kernel_rfl) (by kernel_rfl) (by kernel_rfl) rfl ((o3.ext (e5.trans e6)).view)) ?_)
        refine l_gt rfl rfl (OpTo.of_v (OpVat.as (b := false) (v_sne rfl rfl) (by rw [hpf]; simp)) ?_)
        refine l_v (v_orT rfl rfl) ?_
        refine l_v (v_move (t := .bool _) rfl) ?_
        refine l_gt rfl rfl (OpTo.of_v (v_move (t := .pointer _) rfl) ?_)
        refine l_gt rfl rfl (OpTo.of_v (OpVat.as (b := false) (v_peql (et := 71) (by kernel_rfl) rfl rfl) (by first | rfl | (simp; done) | (simp; omega))) ?_)
        refine l_v (v_orT rfl rfl) ?_
        refine l_nil ?_
        refine n_then ?_
        refine c_cond rfl rfl (fun hc3 => ?_) (fun hc3 => ?_)
        · skip
          cases hc3
        · skip
          have e06 := e05.trans e6
          have hq1 : (if (ls.length : Int) - 1 < 0 then .error 2 else tryRd (rdList rdP) ((ls.length : Int) - 1).toNat (wList sP ls)) = (.error 3 : Except Int (List (Int × Int) × List UInt8)) := takes_less ls hl hls
          refine wp_skip ?_
          refine n_then ?_
          refine c_seq ?_
          refine c_seq ?_
          refine wp_reg (by decide +kernel) ?_
          refine l_v (v_move (t := .pointer _) rfl) ?_
          refine l_v (v_move (t := .slice _ _ _) rfl) ?_
          refine l_v (v_len (et := 56) (by kernel_rfl) rfl) ?_
          refine l_v (v_sub rfl rfl (by first | exact wr_i64 (by omega) (by omega) | rfl)) ?_
          refine l_to (to_f3 (by kernel_rfl) (show _ = (Value.pointer _) from rfl) (show _ = (Value.int _ _) from rfl) rfl (CallsR.mono (takeAP_c (cap := #[]) (most := (ls.length : Int) - 1) (r5.ext e6) (fun k hk => hk.2) (by omega) (by omega) (by kernel_rfl) rdP rdP_short (fun w1 c l1 e1 hc hr hl => pairP_c hr (fun k hk => by have := e1.size; omega) (fun h => by omega))) ?_))
          rintro r w7 ⟨hr7, k7⟩
          have zs_k7 := k7.size
          rw [hq1] at hr7
          obtain ⟨_, rfl, r7⟩ := hr7
          have e07 : Ext w w7 := e06.step k7 fun i hi h => by omega
          refine l_v (v_move (t := .tuple _) rfl) ?_
          refine l_v (v_extract (t := .slice _ _ _) rfl rfl) ?_
          refine l_v (v_extract (t := .int _ _) rfl rfl) ?_
          refine l_v (v_assign (t := .slice _ _ _) rfl) ?_
          refine l_v (v_assign (t := .int _ _) rfl) ?_
          refine l_nil ?_
          refine n_then ?_
          refine c_seq ?_
          refine wp_reg (by decide +kernel) ?_
          refine l_v (v_move (t := .slice _ _ _) rfl) ?_
          refine l_v (v_len (et := 56) (by kernel_rfl) rfl) ?_
          refine l_v (OpVat.as (b := false) (v_neq rfl rfl) (by first | rfl | (simp; done) | (simp; omega))) ?_
          refine l_v (v_move (t := .bool _) rfl) ?_
          refine l_gt rfl rfl (OpTo.of_v (v_move (t := .slice _ _ _) rfl) ?_)
          refine l_gt rfl rfl (OpTo.of_v (v_len (et := 56) (by kernel_rfl) rfl) ?_)
          refine l_gt rfl rfl (OpTo.of_v (OpVat.as (b := true) (v_gtr rfl rfl) (by have : ls.length ≠ 0 := fun h => hls (List.eq_nil_of_length_eq_zero h); exact decide_eq_true (by omega))) ?_)
          refine l_gt rfl rfl (OpTo.of_v (v_move (t := .bool _) rfl) ?_)
          refine l_gt rfl rfl (OpTo.of_v (v_move (t := .int _ _) rfl) ?_)
          refine l_gt rfl rfl (to_f1 (by kernel_rfl) (show _ = (Value.int _ _) from rfl) (CallsR.mono (num_c) ?_))
          rintro _ w8 ⟨rfl, e9b⟩
          refine l_gt rfl rfl (OpTo.of_v (OpVat.as (b := false) (v_neq rfl rfl) (by first | rfl | (simp; done) | (simp; omega))) ?_)
          refine l_gt rfl rfl (OpTo.of_v (v_andT rfl rfl) ?_)
          refine l_v (v_orT rfl rfl) ?_
          refine l_v (v_move (t := .bool _) rfl) ?_
          refine l_gt rfl rfl (OpTo.of_v (v_move (t := .slice _ _ _) rfl) ?_)
          refine l_gt rfl rfl (OpTo.of_v (v_len (et := 56) (by kernel_rfl) rfl) ?_)
          refine l_gt rfl rfl (OpTo.of_v (OpVat.as (b := false) (v_eql rfl rfl) (by have : ls.length ≠ 0 := fun h => hls (List.eq_nil_of_length_eq_zero h); exact decide_eq_false (by omega))) ?_)
          refine l_gt rfl rfl (OpTo.of_v (v_move (t := .bool _) rfl) ?_)
          refine l_skip (u := .bool false) rfl rfl rfl ?_
          refine l_skip (u := .bool false) rfl rfl rfl ?_
          refine l_skip (u := .bool false) rfl rfl rfl ?_
          refine l_gt rfl rfl (OpTo.of_v (v_andC rfl) ?_)
          refine l_v (v_orT rfl rfl) ?_
          refine l_v (v_move (t := .bool _) rfl) ?_
          refine l_gt rfl rfl (OpTo.of_v (v_move (t := .pointer _) rfl) ?_)
          refine l_gt rfl rfl (to_f1 (by kernel_rfl) (show _ = (Value.pointer _) from rfl) (CallsR.mono (Left_c (r7.ext e9b)) ?_))
          rintro _ w9 ⟨rfl, e9⟩
          have zs_e9 := e9.size
          refine l_gt rfl rfl (OpTo.of_v (v_move (t := .slice _ _ _) rfl) ?_)
          refine l_gt rfl rfl (OpTo.of_v (v_len (et := 5) (by kernel_rfl) rfl) ?_)
          refine l_gt rfl rfl (OpTo.of_v (OpVat.as (b := false) (v_neq rfl rfl) (by first | rfl | (simp; done) | (simp; omega))) ?_)
          refine l_v (v_orT rfl rfl) ?_
          refine l_nil ?_
          refine n_then ?_
          refine c_cond rfl rfl (fun hc4 => ?_) (fun hc4 => ?_)
          · skip
            cases hc4
          · skip
            have e79 : Ext w7 w9 := e9b.trans e9
            have e09 := e07.trans e79
            have hq2 : tryRd (rdList rdP) ls.length (wList sP ls) = .ok (ls, []) := takes_all ls (by omega) hwf
            refine wp_skip ?_
            refine n_then ?_
            refine c_seq ?_
            refine wp_reg (by decide +kernel) ?_
            refine l_v (v_move (t := .pointer _) rfl) ?_
            refine l_v (v_move (t := .slice _ _ _) rfl) ?_
            refine l_v (v_len (et := 56) (by kernel_rfl) rfl) ?_
            refine l_to (to_f3 (by kernel_rfl) (show _ = (Value.pointer _) from rfl) (show _ = (Value.int _ _) from rfl) rfl (CallsR.mono (takeP_c (cap := #[]) (r7.ext e79) (fun k hk => hk.2) (by omega) (by omega) (by omega) (by kernel_rfl) rdP rdP_short (fun w1 c l1 e1 hc hr hl => pairP_c hr (fun k hk => by have := e1.size; have := e79.size; have := k7.size; omega) (fun h => by have := e79.size; have := k7.size; omega))) ?_))
            rintro r w10 ⟨hr10, k10⟩
            have zs_k10 := k10.size
            rw [show ((ls.length : Int)).toNat = ls.length from by omega, hq2] at hr10
            obtain ⟨a10, c10, rfl, o10, r10⟩ := hr10
            have zs_e79 := e79.size
            have e10 : Ext w w10 := e09.step k10 fun i hi h => by omega
            refine l_v (v_move (t := .tuple _) rfl) ?_
            refine l_v (v_extract (t := .slice _ _ _) rfl rfl) ?_
            refine l_v (v_extract (t := .int _ _) rfl rfl) ?_
            refine l_v (v_assign (t := .slice _ _ _) rfl) ?_
            refine l_v (v_assign (t := .int _ _) rfl) ?_
            refine l_nil ?_
            refine n_then ?_
            refine c_seq ?_
            refine c_seq ?_
            refine wp_reg (by decide +kernel) ?_
            refine l_v (v_move (t := .int _ _) rfl) ?_
            refine l_to (to_f1 (by kernel_rfl) (show _ = (Value.int _ _) from rfl) (CallsR.mono (num_c) ?_))
            rintro _ w11 ⟨rfl, e11⟩
            have zs_e11 := e11.size
            refine l_v (v_move (t := .pointer _) rfl) ?_
            refine l_to (to_f1 (by kernel_rfl) (show _ = (Value.pointer _) from rfl) (CallsR.mono (End_c (r10.ext e11)) ?_))
            rintro _ w12 ⟨rfl, e12⟩
            have zs_e12 := e12.size
            refine l_to (to_f1 (by kernel_rfl) (show _ = (Value.int _ _) from rfl) (CallsR.mono (num_c) ?_))
            rintro _ w13 ⟨rfl, e13⟩
            have zs_e13 := e13.size
            refine l_v (v_add rfl rfl (by first | exact wr_i64 (by omega) (by omega) | rfl)) ?_
            refine l_v (OpVat.as (b := false) (v_neq rfl rfl) (by first | rfl | (simp; done) | (simp; omega))) ?_
            refine l_v (v_move (t := .bool _) rfl) ?_
            refine l_gt rfl rfl (OpTo.of_v (v_move (t := .slice _ _ _) rfl) ?_)
            refine l_gt rfl rfl (OpTo.of_v (v_len (et := 56) (by kernel_rfl) rfl) ?_)
            refine l_gt rfl rfl (OpTo.of_v (v_move (t := .slice _ _ _) rfl) ?_)
            refine l_gt rfl rfl (OpTo.of_v (v_len (et := 56) (by kernel_rfl) rfl) ?_)
            refine l_gt rfl rfl (OpTo.of_v (OpVat.as (b := false) (v_neq rfl rfl) (by first | rfl | (simp; done) | (simp; omega))) ?_)
            refine l_v (v_orT rfl rfl) ?_
            refine l_nil ?_
            refine n_then ?_
            refine c_cond rfl rfl (fun hc5 => ?_) (fun hc5 => ?_)
            · skip
              cases hc5
            · skip
              have e1013 := (e11.trans e12).trans e13
              have e013 := e10.trans e1013
              have hv13 := hv.ext e013
              have ho13 := (o10.ext e1013).view
              refine wp_skip ?_
              refine n_then ?_
              refine c_seq ?_
              refine c_seq ?_
              refine wp_reg (by decide +kernel) ?_
              refine l_v (v_assign rfl) ?_
              refine l_nil ?_
              refine n_then ?_
              refine wp_block ?_
              refine c_loop (τ := Nat) [4, 14, 127, 128, 129, 130, 131, 132, 133, 134, 135, 136, 137, 138, 139, 140, 141] (fun k => [(14, .int .i64 k)]) (fun k w => Ext w13 w ∧ k ≤ ls.length) (fun k => ls.length - k) 0 (by exact ⟨rfl, trivial⟩) (by exact ⟨Keep.refl _, Nat.zero_le _⟩) ?_
              rintro k w14 j2 ⟨e14, h14⟩
              refine c_seq ?_
              refine c_seq ?_
              refine wp_reg (by decide +kernel) ?_
              refine l_v (v_move (t := .int _ _) rfl) ?_
              refine l_v (v_move (t := .slice _ _ _) rfl) ?_
              refine l_v (v_len (et := 56) (by kernel_rfl) rfl) ?_
              refine l_v (v_lss rfl rfl) ?_
              refine l_nil ?_
              refine n_then ?_
              refine c_cond rfl rfl (fun hd2 => ?_) (fun hd2 => ?_)
              · skip
                have hd2 := dtrue hd2
                obtain ⟨x, hx⟩ : ∃ x, ls[k]? = some x := ⟨ls[k]'(by omega), by simp [show k < ls.length by omega]⟩
                obtain ⟨q, cs, rfl, hFq, hp, hrep⟩ := SlV_at hv13 hx
                obtain ⟨q5, cs5, rfl, _, hp5, hrep5⟩ := SlV_at ho13 hx
                obtain ⟨x1, x2⟩ := x
                obtain ⟨_, _, rfl, ⟨rfl, _⟩, ⟨rfl, _⟩⟩ := hrep
                obtain ⟨_, _, rfl, ⟨rfl, _⟩, ⟨rfl, _⟩⟩ := hrep5
                refine wp_skip ?_
                refine n_then ?_
                refine c_seq ?_
                refine wp_block ?_
                refine c_seq ?_
                refine wp_regd (NoK) (by kernel_rfl) (by decide +kernel) (by decide +kernel) ?_
                refine rt_v (fun vals w hR hd => v_move (t := .slice _ _ _) rfl) ?_
                refine rt_v (fun vals w hR hd => v_move (t := .int _ _) rfl) ?_
                refine rt_v (fun vals w hR hd => v_indexAddr (et := 56) (sz := 2) (k := k) (by kernel_rfl) (by kernel_rfl) (hd 0 rfl) (hd 1 rfl) rfl (by omega)) ?_
                refine rt_v (fun vals w hR hd => v_loadA (n := 2) (by kernel_rfl) (hd 2 rfl) ((hp5.ext (e14.trans hR))) (rfl)) ?_
                refine rt_v (fun vals w hR hd => v_move (t := .slice _ _ _) rfl) ?_
                refine rt_v (fun vals w hR hd => v_move (t := .int _ _) rfl) ?_
                refine rt_v (fun vals w hR hd => v_indexAddr (et := 56) (sz := 2) (k := k) (by kernel_rfl) (by kernel_rfl) (hd 4 rfl) (hd 5 rfl) rfl (by omega)) ?_
                refine rt_v (fun vals w hR hd => v_loadA (n := 2) (by kernel_rfl) (hd 6 rfl) ((hp.ext (e14.trans hR))) (rfl)) ?_
                refine rt_v (fun vals w hR hd => v_aneq2 (et := 29) (k := .u64) (by kernel_rfl) (by kernel_rfl) (by kernel_rfl) (hd 3 rfl) (hd 7 rfl)) ?_
                refine rt_nil (fun w15 e15 => ?_)
                rintro _ rfl _ rfl _ rfl _ rfl _ rfl _ rfl _ rfl _ rfl _ rfl
                have zs_e15 := e15.size
                refine fin_nil ?_
                refine n_then ?_
                refine c_cond rfl rfl (fun hc6 => ?_) (fun hc6 => ?_)
                · skip
                  simp at hc6
                · skip
                  refine wp_skip ?_
                  refine n_blk ?_
                  refine n_then ?_
                  refine wp_reg (by decide +kernel) ?_
                  refine l_v (v_move (t := .int _ _) rfl) ?_
                  refine l_v (v_add rfl rfl (by first | exact wr_i64 (by omega) (by omega) | rfl)) ?_
                  refine l_v (v_assign (t := .int _ _) rfl) ?_
                  refine l_nil ?_
                  refine n_then ?_
                  refine ⟨k + 1, _, rfl, by (repeat (first | exact Off.of_over _ _ _ | refine Off.upd ?_ (by decide) _)), ⟨by first | rfl | exact congrArg (Value.int _) (by omega) | (simp; done), trivial⟩, ?_, ?_⟩
                  · exact ⟨e14.trans e15, by omega⟩
                  · dsimp only; omega
              · skip
                have e014 := e013.trans e14
                have zs_e014 := e014.size
                refine wp_exit ?_
                refine x_then ?_
                refine x_then ?_
                refine x_hit ?_
                refine n_then ?_
                refine c_seq ?_
                refine c_seq ?_
                refine wp_reg (by decide +kernel) ?_
                refine l_v (v_move (t := .int _ _) rfl) ?_
                refine l_v (v_lss rfl rfl) ?_
                refine l_v (v_move (t := .bool _) rfl) ?_
                refine l_g1 rfl rfl (fun hG => v_move (t := .int _ _) rfl) ?_
                refine l_g1 rfl rfl (fun hG => v_move (t := .slice _ _ _) rfl) ?_
                refine l_g1 rfl rfl (fun hG => v_len (et := 5) (by kernel_rfl) (gd hG rfl)) ?_
                refine l_g1 rfl rfl (fun hG => v_geq (gd hG rfl) (gd hG rfl)) ?_
                refine l_v (v_or rfl rfl) ?_
                refine l_nil ?_
                refine n_then ?_
                refine c_cond rfl rfl (fun hc7 => ?_) (fun hc7 => ?_)
                · skip
                  refine c_seq ?_
                  refine wp_reg (by decide +kernel) ?_
                  refine l_to (to_f0 (by kernel_rfl) (CallsR.mono (known_c) ?_))
                  rintro _ w16 ⟨rfl, e16⟩
                  have zs_e16 := e16.size
                  refine l_v (v_assign (t := .bool _) rfl) ?_
                  refine l_nil ?_
                  refine n_then ?_
                  refine wp_ret ?_
                  refine r_then ?_
                  refine ret1 rfl (by decide) ?_
                  exact ⟨rfl, e014.trans e16⟩
                · skip
                  simp at hc7
                  obtain ⟨j, rfl⟩ := Int.eq_ofNat_of_zero_le hc7.1
                  have hcut : j < (wList sP ls).length := by have := hc7.2; omega
                  have e114 : Ext w1 w14 := ((((e15.trans e6).step k7 (fun i hi h => by omega)).trans e79).step k10 (fun i hi h => by omega)).trans (e1013.trans e14)
                  refine wp_skip ?_
                  refine n_then ?_
                  refine c_seq ?_
                  refine wp_reg (by decide +kernel) ?_
                  refine l_v (v_move (t := .slice _ _ _) rfl) ?_
                  refine l_v (v_move (t := .int _ _) rfl) ?_
                  refine l_to (to_slice (et := 5) (l := 0) (h := j) (by kernel_rfl) (by kernel_rfl) (show _ = (Value.slice _ _ _) from rfl) (o1.ext e114).view rfl ⟨_, by exact rfl⟩ (by first | omega | (simp; done) | (simp; omega)) (by first | omega | (simp; done) | (simp; omega)) ?_)
                  rintro a16 n16 c16 h16 hn16 hs16
                  rw [List.drop_zero] at h16
                  refine l_to (to_f1 (by kernel_rfl) (show _ = (Value.slice _ _ _) from rfl) (CallsR.mono (Open_c h16 (by simp; omega)) ?_))
                  rintro _ w17 ⟨b17, rfl, r17, hb17, e17, z17⟩
                  have zs_e17 := e17.size
                  have hq3 := takes_cut ls (by omega) hwf hcut
                  have hlj : ((wList sP ls).take j).length = j := by simp; omega
                  refine l_v (v_assign (t := .pointer _) rfl) ?_
                  refine l_nil ?_
                  refine n_then ?_
                  refine c_seq ?_
                  refine wp_reg (by decide +kernel) ?_
                  refine l_v (v_move (t := .pointer _) rfl) ?_
                  refine l_v (v_move (t := .slice _ _ _) rfl) ?_
                  refine l_v (v_len (et := 56) (by kernel_rfl) rfl) ?_
                  refine l_to (to_f3 (by kernel_rfl) (show _ = (Value.pointer _) from rfl) (show _ = (Value.int _ _) from rfl) rfl (CallsR.mono (takeP_c (cap := #[]) r17 (fun k hk => hk.2) (by omega) (by omega) (by omega) (by kernel_rfl) rdP rdP_short (fun w1 c l1 e1 hc hr hl => pairP_c hr (fun k hk => by have := e1.size; omega) (fun h => by omega))) ?_))
                  rintro r w18 ⟨hr18, k18⟩
                  have zs_k18 := k18.size
                  rw [show ((ls.length : Int)).toNat = ls.length from by omega, hq3] at hr18
                  obtain ⟨_, rfl, r18⟩ := hr18
                  have e018 : Ext w w18 := (e014.trans e17).step k18 fun i hi h => by omega
                  refine l_v (v_move (t := .tuple _) rfl) ?_
                  refine l_v (v_extract (t := .slice _ _ _) rfl rfl) ?_
                  refine l_v (v_extract (t := .int _ _) rfl rfl) ?_
                  refine l_v (v_assign (t := .slice _ _ _) rfl) ?_
                  refine l_v (v_assign (t := .int _ _) rfl) ?_
                  refine l_nil ?_
                  refine n_then ?_
                  refine c_seq ?_
                  refine wp_reg (by decide +kernel) ?_
                  refine l_v (v_move (t := .slice _ _ _) rfl) ?_
                  refine l_v (v_len (et := 56) (by kernel_rfl) rfl) ?_
                  refine l_v (OpVat.as (b := true) (v_eql rfl rfl) (by first | rfl | (simp; done) | (simp; omega))) ?_
                  refine l_v (v_move (t := .bool _) rfl) ?_
                  refine l_gt rfl rfl (OpTo.of_v (v_move (t := .int _ _) rfl) ?_)
                  refine l_gt rfl rfl (to_f1 (by kernel_rfl) (show _ = (Value.int _ _) from rfl) (CallsR.mono (num_c) ?_))
                  rintro _ w19 ⟨rfl, e19⟩
                  have zs_e19 := e19.size
                  refine l_gt rfl rfl (OpTo.of_v (OpVat.as (b := true) (v_eql rfl rfl) (by first | rfl | (simp; done) | (simp; omega))) ?_)
                  refine l_v (v_andT rfl rfl) ?_
                  refine l_v (v_move (t := .bool _) rfl) ?_
                  refine l_gt rfl rfl (OpTo.of_v (v_move (t := .pointer _) rfl) ?_)
                  refine l_gt rfl rfl (to_f1 (by kernel_rfl) (show _ = (Value.pointer _) from rfl) (CallsR.mono (Left_c (r18.ext e19)) ?_))
                  rintro _ w20 ⟨rfl, e20⟩
                  have zs_e20 := e20.size
                  refine l_gt rfl rfl (OpTo.of_v (v_move (t := .int _ _) rfl) ?_)
                  refine l_gt rfl rfl (OpTo.of_v (OpVat.as (b := true) (v_eql rfl rfl) (by rw [hlj]; simp)) ?_)
                  refine l_v (v_andT rfl rfl) ?_
                  refine l_v (v_move (t := .bool _) rfl) ?_
                  refine l_gt rfl rfl (to_f0 (by kernel_rfl) (CallsR.mono (known_c) ?_))
                  rintro _ w21 ⟨rfl, e21⟩
                  have zs_e21 := e21.size
                  refine l_v (v_andT rfl rfl) ?_
                  refine l_v (v_assign (t := .bool _) rfl) ?_
                  refine l_nil ?_
                  refine n_then ?_
                  refine wp_ret ?_
                  refine ret1 rfl (by decide) ?_
                  exact ⟨rfl, ((e018.trans e19).trans e20).trans e21⟩

end Go.Proofs.Ythnpnniiejcnbaa
