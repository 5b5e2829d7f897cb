/- A part of the proof: steps and lemmas for the walks through the given program. -/
import Derived.Test.YtaidpdjlchnonaaN29
namespace Go.Proofs.Ytaidpdjlchnonaa
open Go.Vc
set_option linter.unusedVariables false
set_option linter.unusedSimpArgs false
set_option maxRecDepth 100000

/-- what reading entries gives -/
def rE1 (l : List UInt8) : List EnV × List UInt8 × Int := match tryRd (rdList rdE) 64 l with
  | .ok (es, r) => (es, r, 0)
  | .error e => ([], l, e)
def rF1 (l : List UInt8) : Bool × List UInt8 × Int := match rdFlag l with
  | some (b, r) => (b, r, 0)
  | none => (false, l, 4)
def rS1 (l : List UInt8) : List UInt8 × List UInt8 × Int := match rdBytes 1048576 l with
  | .ok (d, r) => (d, r, 0)
  | .error e => ([], l, e)
theorem rd2_c {w : World} {b4 b11 b9 b5 n2 : Nat} {l : List UInt8} {e : Int} {c0 c1 c2 c3 c4 c5 c6 c7 c8 c9 c10 : Value} (HB4 : Blk w b4 [.pointer (some ⟨b11, 0, none⟩)] 109) (HB11 : Blk w b11 [.pointer (some ⟨b9, 0, none⟩), .int .i64 e] 113) (HR9 : Rd nRd w b9 (fun k => n2 ≤ k ∧ k < b9) l) (HB5 : Blk w b5 [c0, c1, c2, c3, c4, c5, c6, c7, c8, c9, c10] 26) (hne : b9 < b5 ∧ b9 < b11 ∧ b9 < b4 ∧ b5 ≠ b4 ∧ b5 ≠ b11) (hl : l.length ≤ 10000000000) :
    CallsR Try.prog 78 (#[] ++ #[.pointer (some ⟨b4, 0, none⟩), .pointer (some ⟨b5, 0, none⟩)]) w (fun o W' => ∃ e' : Int, o = .int .i64 e' ∧ (e' = (rE1 l).2.2 ∧ Rd nRd W' b9 (fun k => n2 ≤ k ∧ k < b9) (rE1 l).2.1 ∧ ∃ a v, Blk W' b5 [c0, c1, c2, c3, c4, c5, c6, c7, .slice a (rE1 l).1.length v, c9, c10] 26 ∧ SlV tEnF W' (fun i => w.heap.size ≤ i) (.slice a (rE1 l).1.length v) (rE1 l).1) ∧ Keep (fun k => k = b9 ∨ k = b5) w W') := by
  have hF : ∀ k, (n2 ≤ k ∧ k < b9) → k < b9 := fun k h => h.2
  have zl5 := HB5.lt
  show CallsR _ _ #[_, _] _ _
  refine enter 13 Try.func78 rfl rfl (by simp) ?_
  refine c_seq ?_
  have E := Keep.refl (K := fun k => k = b9 ∨ k = b5) w
  refine wp_reg (by decide +kernel) ?_
  refine l_v (v_assign rfl) ?_
  refine l_nil ?_
  refine n_then ?_
  refine c_seq ?_
  refine wp_reg (by decide +kernel) ?_
  refine l_v (v_load (by kernel_rfl) rfl (by first | exact HB5.cell rfl | exact HB11.cell rfl | exact HB4.cell rfl | assumption)) ?_
  refine l_v (v_nilCheck rfl) ?_
  refine l_v (v_fieldAddr (off := 0) (ft := 110) (by kernel_rfl) rfl) ?_
  refine l_v (v_load (by kernel_rfl) rfl (by first | exact HB5.pv 0 _ rfl | exact HB11.pv 0 _ rfl | exact HB4.pv 0 _ rfl | assumption)) ?_
  refine l_to (to_f3 (by kernel_rfl) (show _ = (Value.pointer _) from rfl) (show _ = (Value.int _ _) from rfl) rfl (CallsR.mono (takeE_c (cap := #[]) (most := 64) HR9 hF (by decide) (by decide) (by omega) (by kernel_rfl) rdE rdE_short (fun w1 c l1 e1 hc1 hr1 hl1 => oneE_c hr1 (fun k h => by have := h.2; omega) (by omega))) ?_))
  rintro r w6 ⟨hr6, k6⟩
  have zs_k6 := k6.size
  obtain ⟨a6, c6', er6, rs, l2, rfl, HO6, HR6, hx6⟩ := TryV_any hr6
  replace E := E.step k6 (by intro i hi he; (try dsimp only [NoK] at hi he ⊢); first | exact he.elim | omega | exact he)
  replace HB4 := HB4.keep k6 (by intro h; (try dsimp only at h); first | omega)
  replace HB11 := HB11.keep k6 (by intro h; (try dsimp only at h); first | omega)
  replace HB5 := HB5.keep k6 (by intro h; (try dsimp only at h); first | omega)
  have zo_HO6 := fun (b : Nat) h => HO6.own_lt (b := b) h
  refine l_v (v_move (t := .tuple _) rfl) ?_
  refine l_v (v_extract (t := .slice _ _ _) rfl rfl) ?_
  refine l_v (v_extract (t := .int _ _) rfl rfl) ?_
  refine l_v (v_fieldAddr (off := 8) (ft := 23) (by kernel_rfl) rfl) ?_
  refine l_to (to_store rfl rfl (show _ = (Value.slice _ _ _) from rfl) rfl (by kernel_rfl) HB5 (by simp) ?_)
  rintro w31 HB5 k31 z31
  have zs_k31 := k31.size
  try simp only [List.set_cons_zero, List.set_cons_succ] at HB5
  replace E := E.step k31 (by intro i hi he; (try dsimp only [NoK] at hi he ⊢); first | exact he.elim | omega | exact he)
  replace HB4 := HB4.keep k31 (by intro h; (try dsimp only at h); first | omega)
  replace HB11 := HB11.keep k31 (by intro h; (try dsimp only at h); first | omega)
  replace HO6 := HO6.keep k31 (by intro i ho he; have he0 := he; have ho0 := ho; (try dsimp only [NoK] at he); (try simp only [Value.ownBlock, Option.some.injEq, reduceCtorEq] at ho); (try simp only [Value.ownBlock, Option.some.injEq, reduceCtorEq] at he); first | exact he.elim | exact ho.elim | omega | (have := zo_HO6 _ ho0; omega)) (by intro i _ hi _ he; have he0 := he; have hi := hi; have he := he; (try dsimp only [NoK, AllB] at hi he); (try simp only [Value.ownBlock, Option.some.injEq, reduceCtorEq] at he); all_goals first | exact hi.elim | exact hi.1.elim | exact he.elim | omega | (rcases hi with hi | hi <;> omega) | (rcases he with he | he <;> omega))
  replace HR6 := HR6.keep k31 (by intro h; have h := h; (try dsimp only [NoK] at h); first | exact h | omega | (rcases h with h | h <;> omega)) (by intro i hi he; have hi0 := hi; have hi := hi; have he := he; (try dsimp only [NoK] at hi he); first | exact he.elim | omega | (have := hF i hi0; omega))
  refine l_v (v_assign (t := .int _ _) rfl) ?_
  refine l_nil ?_
  refine n_then ?_
  refine c_seq ?_
  refine wp_reg (by decide +kernel) ?_
  refine l_v (v_move (t := .int _ _) rfl) ?_
  refine l_v (v_assign (t := .int _ _) rfl) ?_
  refine l_nil ?_
  refine n_then ?_
  refine c_ret ?_
  refine ret1v rfl (by decide) (show _ = (Value.int _ _) from rfl) ?_
  have hq : rE1 l = (rs, l2, er6) := by
    rcases hx6 with ⟨he, hq⟩ | ⟨he, h1, h2, _, _, hq⟩
    · rw [rE1, show tryRd (rdList rdE) 64 l = _ from hq, he]
    · rw [rE1, show tryRd (rdList rdE) 64 l = _ from hq, h1, h2]
  rw [hq]
  exact ⟨er6, rfl, ⟨rfl, HR6, a6, c6', HB5, HO6.view.mono fun b _ h => Or.elim h (fun h => by omega) (fun h => by omega)⟩, E⟩
theorem flag_eq (l : List UInt8) : flagV l = .tuple #[.bool (rF1 l).1, .int .i64 (rF1 l).2.2] ∧ restF l = (rF1 l).2.1 := by
  unfold flagV restF rF1
  rcases rdFlag l with _ | ⟨b, r⟩ <;> exact ⟨rfl, rfl⟩
theorem rd3_c {w : World} {b4 b11 b9 b5 n2 : Nat} {l : List UInt8} {e : Int} {c0 c1 c2 c3 c4 c5 c6 c7 c8 c9 c10 : Value} (HB4 : Blk w b4 [.pointer (some ⟨b11, 0, none⟩)] 109) (HB11 : Blk w b11 [.pointer (some ⟨b9, 0, none⟩), .int .i64 e] 113) (HR9 : Rd nRd w b9 (fun k => n2 ≤ k ∧ k < b9) l) (HB5 : Blk w b5 [c0, c1, c2, c3, c4, c5, c6, c7, c8, c9, c10] 26) (hne : b9 < b5 ∧ b9 < b11 ∧ b9 < b4 ∧ b5 ≠ b4 ∧ b5 ≠ b11) (hl : l.length ≤ 10000000000) :
    CallsR Try.prog 81 (#[] ++ #[.pointer (some ⟨b4, 0, none⟩), .pointer (some ⟨b5, 0, none⟩)]) w (fun o W' => ∃ e' : Int, o = .int .i64 e' ∧ (e' = (rF1 l).2.2 ∧ Rd nRd W' b9 (fun k => n2 ≤ k ∧ k < b9) (rF1 l).2.1 ∧ Blk W' b5 [c0, c1, c2, c3, c4, c5, c6, c7, c8, .bool (rF1 l).1, c10] 26) ∧ Keep (fun k => k = b9 ∨ k = b5) w W') := by
  have hF : ∀ k, (n2 ≤ k ∧ k < b9) → k < b9 := fun k h => h.2
  have zl5 := HB5.lt
  show CallsR _ _ #[_, _] _ _
  refine enter 13 Try.func81 rfl rfl (by simp) ?_
  refine c_seq ?_
  have E := Keep.refl (K := fun k => k = b9 ∨ k = b5) w
  refine wp_reg (by decide +kernel) ?_
  refine l_v (v_assign rfl) ?_
  refine l_nil ?_
  refine n_then ?_
  refine c_seq ?_
  refine wp_reg (by decide +kernel) ?_
  refine l_v (v_load (by kernel_rfl) rfl (by first | exact HB5.cell rfl | exact HB11.cell rfl | exact HB4.cell rfl | assumption)) ?_
  refine l_v (v_nilCheck rfl) ?_
  refine l_v (v_fieldAddr (off := 0) (ft := 110) (by kernel_rfl) rfl) ?_
  refine l_v (v_load (by kernel_rfl) rfl (by first | exact HB5.pv 0 _ rfl | exact HB11.pv 0 _ rfl | exact HB4.pv 0 _ rfl | assumption)) ?_
  refine l_to (to_f1 (by kernel_rfl) (show _ = (Value.pointer _) from rfl) (CallsR.mono (rFlag_c HR9 (fun h => by omega)) ?_))
  rintro r w6 ⟨hr6, HR9, k6⟩
  have zs_k6 := k6.size
  obtain ⟨hv6, hv7⟩ := flag_eq l
  rw [hv6] at hr6
  rw [hv7] at HR9
  subst hr6
  replace E := E.step k6 (by intro i hi he; (try dsimp only [NoK] at hi he ⊢); first | exact he.elim | omega | exact he)
  replace HB4 := HB4.keep k6 (by intro h; (try dsimp only at h); first | omega)
  replace HB11 := HB11.keep k6 (by intro h; (try dsimp only at h); first | omega)
  replace HB5 := HB5.keep k6 (by intro h; (try dsimp only at h); first | omega)
  refine l_v (v_move (t := .tuple _) rfl) ?_
  refine l_v (v_extract (t := .bool _) rfl rfl) ?_
  refine l_v (v_extract (t := .int _ _) rfl rfl) ?_
  refine l_v (v_fieldAddr (off := 9) (ft := 4) (by kernel_rfl) rfl) ?_
  refine l_to (to_store rfl rfl (show _ = (Value.bool _) from rfl) rfl (by kernel_rfl) HB5 (by simp) ?_)
  rintro w31 HB5 k31 z31
  have zs_k31 := k31.size
  try simp only [List.set_cons_zero, List.set_cons_succ] at HB5
  replace E := E.step k31 (by intro i hi he; (try dsimp only [NoK] at hi he ⊢); first | exact he.elim | omega | exact he)
  replace HB4 := HB4.keep k31 (by intro h; (try dsimp only at h); first | omega)
  replace HB11 := HB11.keep k31 (by intro h; (try dsimp only at h); first | omega)
  replace HR9 := HR9.keep k31 (by intro h; have h := h; (try dsimp only [NoK] at h); first | exact h | omega | (rcases h with h | h <;> omega)) (by intro i hi he; have hi0 := hi; have hi := hi; have he := he; (try dsimp only [NoK] at hi he); first | exact he.elim | omega | (have := hF i hi0; omega))
  refine l_v (v_assign (t := .int _ _) rfl) ?_
  refine l_nil ?_
  refine n_then ?_
  refine c_seq ?_
  refine wp_reg (by decide +kernel) ?_
  refine l_v (v_move (t := .int _ _) rfl) ?_
  refine l_v (v_assign (t := .int _ _) rfl) ?_
  refine l_nil ?_
  refine n_then ?_
  refine c_ret ?_
  refine ret1v rfl (by decide) (show _ = (Value.int _ _) from rfl) ?_
  exact ⟨_, rfl, ⟨rfl, HR9, HB5⟩, E⟩
theorem rd4_c {w : World} {b4 b11 b9 b5 n2 : Nat} {l : List UInt8} {e : Int} {c0 c1 c2 c3 c4 c5 c6 c7 c8 c9 c10 : Value} (HB4 : Blk w b4 [.pointer (some ⟨b11, 0, none⟩)] 109) (HB11 : Blk w b11 [.pointer (some ⟨b9, 0, none⟩), .int .i64 e] 113) (HR9 : Rd nRd w b9 (fun k => n2 ≤ k ∧ k < b9) l) (HB5 : Blk w b5 [c0, c1, c2, c3, c4, c5, c6, c7, c8, c9, c10] 26) (hne : b9 < b5 ∧ b9 < b11 ∧ b9 < b4 ∧ b5 ≠ b4 ∧ b5 ≠ b11) (hl : l.length ≤ 10000000000) :
    CallsR Try.prog 83 (#[] ++ #[.pointer (some ⟨b4, 0, none⟩), .pointer (some ⟨b5, 0, none⟩)]) w (fun o W' => ∃ e' : Int, o = .int .i64 e' ∧ (e' = (rS1 l).2.2 ∧ Rd nRd W' b9 (fun k => n2 ≤ k ∧ k < b9) (rS1 l).2.1 ∧ ∃ a v, Blk W' b5 [c0, c1, c2, c3, c4, c5, c6, c7, c8, c9, .slice a (rS1 l).1.length v] 26 ∧ BvF W' (fun i => w.heap.size ≤ i) (.slice a (rS1 l).1.length v) (rS1 l).1) ∧ Keep (fun k => k = b9 ∨ k = b5) w W') := by
  have hF : ∀ k, (n2 ≤ k ∧ k < b9) → k < b9 := fun k h => h.2
  have zl5 := HB5.lt
  show CallsR _ _ #[_, _] _ _
  refine enter 13 Try.func83 rfl rfl (by simp) ?_
  refine c_seq ?_
  have E := Keep.refl (K := fun k => k = b9 ∨ k = b5) w
  refine wp_reg (by decide +kernel) ?_
  refine l_v (v_assign rfl) ?_
  refine l_nil ?_
  refine n_then ?_
  refine c_seq ?_
  refine wp_reg (by decide +kernel) ?_
  refine l_v (v_load (by kernel_rfl) rfl (by first | exact HB5.cell rfl | exact HB11.cell rfl | exact HB4.cell rfl | assumption)) ?_
  refine l_v (v_nilCheck rfl) ?_
  refine l_v (v_fieldAddr (off := 0) (ft := 110) (by kernel_rfl) rfl) ?_
  refine l_v (v_load (by kernel_rfl) rfl (by first | exact HB5.pv 0 _ rfl | exact HB11.pv 0 _ rfl | exact HB4.pv 0 _ rfl | assumption)) ?_
  refine l_to (to_f2 (by kernel_rfl) (show _ = (Value.pointer _) from rfl) (show _ = (Value.int _ _) from rfl) (CallsR.mono (Bytes2_c (most := 1048576) HR9 hF (by decide) (by decide) (by omega)) ?_))
  rintro r w6 ⟨hr6, k6⟩
  have zs_k6 := k6.size
  obtain ⟨a6, c6', er6, rs, l2, rfl, HO6, HR6, hx6⟩ := TryV_any hr6
  replace E := E.step k6 (by intro i hi he; (try dsimp only [NoK] at hi he ⊢); first | exact he.elim | omega | exact he)
  replace HB4 := HB4.keep k6 (by intro h; (try dsimp only at h); first | omega)
  replace HB11 := HB11.keep k6 (by intro h; (try dsimp only at h); first | omega)
  replace HB5 := HB5.keep k6 (by intro h; (try dsimp only at h); first | omega)
  have zo_HO6 := fun (b : Nat) h => HO6.own_lt (b := b) h
  refine l_v (v_move (t := .tuple _) rfl) ?_
  refine l_v (v_extract (t := .slice _ _ _) rfl rfl) ?_
  refine l_v (v_extract (t := .int _ _) rfl rfl) ?_
  refine l_v (v_fieldAddr (off := 10) (ft := 24) (by kernel_rfl) rfl) ?_
  refine l_to (to_store rfl rfl (show _ = (Value.slice _ _ _) from rfl) rfl (by kernel_rfl) HB5 (by simp) ?_)
  rintro w31 HB5 k31 z31
  have zs_k31 := k31.size
  try simp only [List.set_cons_zero, List.set_cons_succ] at HB5
  replace E := E.step k31 (by intro i hi he; (try dsimp only [NoK] at hi he ⊢); first | exact he.elim | omega | exact he)
  replace HB4 := HB4.keep k31 (by intro h; (try dsimp only at h); first | omega)
  replace HB11 := HB11.keep k31 (by intro h; (try dsimp only at h); first | omega)
  replace HO6 := HO6.keep k31 (by intro i ho he; have he0 := he; have ho0 := ho; (try dsimp only [NoK] at he); (try simp only [Value.ownBlock, Option.some.injEq, reduceCtorEq] at ho); (try simp only [Value.ownBlock, Option.some.injEq, reduceCtorEq] at he); first | exact he.elim | exact ho.elim | omega | (have := zo_HO6 _ ho0; omega)) (by intro i _ hi _ he; have he0 := he; have hi := hi; have he := he; (try dsimp only [NoK, AllB] at hi he); (try simp only [Value.ownBlock, Option.some.injEq, reduceCtorEq] at he); all_goals first | exact hi.elim | exact hi.1.elim | exact he.elim | omega | (rcases hi with hi | hi <;> omega) | (rcases he with he | he <;> omega))
  replace HR6 := HR6.keep k31 (by intro h; have h := h; (try dsimp only [NoK] at h); first | exact h | omega | (rcases h with h | h <;> omega)) (by intro i hi he; have hi0 := hi; have hi := hi; have he := he; (try dsimp only [NoK] at hi he); first | exact he.elim | omega | (have := hF i hi0; omega))
  refine l_v (v_assign (t := .int _ _) rfl) ?_
  refine l_nil ?_
  refine n_then ?_
  refine c_seq ?_
  refine wp_reg (by decide +kernel) ?_
  refine l_v (v_move (t := .int _ _) rfl) ?_
  refine l_v (v_assign (t := .int _ _) rfl) ?_
  refine l_nil ?_
  refine n_then ?_
  refine c_ret ?_
  refine ret1v rfl (by decide) (show _ = (Value.int _ _) from rfl) ?_
  have hq : rS1 l = (rs, l2, er6) := by
    rcases hx6 with ⟨he, hq⟩ | ⟨he, h1, h2, _, _, hq⟩
    · rw [rS1, show rdBytes 1048576 l = _ from hq, he]
    · rw [rS1, show rdBytes 1048576 l = _ from hq, h1, h2]
  rw [hq]
  exact ⟨er6, rfl, ⟨rfl, HR6, a6, c6', HB5, tByF.mono HO6.byF fun b _ h => Or.elim h (fun h => by omega) (fun h => by omega)⟩, E⟩
end Go.Proofs.Ytaidpdjlchnonaa
