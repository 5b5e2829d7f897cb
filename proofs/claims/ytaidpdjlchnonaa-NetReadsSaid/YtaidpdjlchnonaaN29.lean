/- A part of the proof: steps and lemmas for the walks through the given program. -/
import Derived.Test.YtaidpdjlchnonaaN28
namespace Go.Proofs.Ytaidpdjlchnonaa
open Go.Vc
set_option linter.unusedVariables false
set_option linter.unusedSimpArgs false
set_option maxRecDepth 100000

theorem then_c {w : World} {g b4 b11 : Nat} {cap : Array Value} {is : Bool} {e : Int} {p : Option Addr} {P0 : World → Prop} {Q : Int → World → Prop} {Kg : Nat → Prop} (HB4 : Blk w b4 [.pointer (some ⟨b11, 0, none⟩)] 109) (HB11 : Blk w b11 [.pointer p, .int .i64 e] 113) (hb : kBody Try.prog g = true) (hP0 : P0 w)
    (hP : ∀ W W', P0 W → Ext W W' → P0 W') (hQ : ∀ e' W W', Q e' W → Keep (fun k => k = b11) W W' → Q e' W') (hk4 : ¬ Kg b4) (hk11 : ¬ Kg b11) (hne : b4 ≠ b11)
    (hg : is = true → e = 0 → ∀ W, P0 W → CallsR Try.prog g (#[] ++ cap) W (fun o W' => ∃ e' : Int, o = .int .i64 e' ∧ Q e' W' ∧ Keep Kg W W')) :
    CallsR Try.prog 77 (#[.bool is, .func (.func g) #[] cap] ++ #[.pointer (some ⟨b4, 0, none⟩)]) w (fun _ W' => if is = true ∧ e = 0 then (∃ e', Blk W' b11 [.pointer p, .int .i64 e'] 113 ∧ Q e' W' ∧ Keep (fun k => Kg k ∨ k = b11) w W') else (P0 W' ∧ Blk W' b11 [.pointer p, .int .i64 e] 113 ∧ Ext w W')) := by
  show CallsR _ _ #[_, _, _] _ _
  have EL0 : Ext w w := Keep.refl _
  refine enter 18 Try.func77 rfl rfl (by simp) ?_
  refine c_seq ?_
  have E := Keep.refl (K := fun k => Kg k ∨ k = b11) w
  refine wp_reg (by decide +kernel) ?_
  refine l_v (v_move (t := .bool _) rfl) ?_
  refine l_v (v_move (t := .bool _) rfl) ?_
  refine l_g1 rfl rfl (fun hG => v_load (by kernel_rfl) rfl (by first | exact HB11.cell rfl | exact HB4.cell rfl | assumption)) ?_
  refine l_g1 rfl rfl (fun hG => v_nilCheck (gd hG rfl)) ?_
  refine l_g1 rfl rfl (fun hG => v_fieldAddr (off := 1) (ft := 30) (by kernel_rfl) (gd hG rfl)) ?_
  refine l_g1 rfl rfl (fun hG => v_load (by kernel_rfl) (gd hG rfl) (by first | exact HB11.pv 1 _ rfl | exact HB4.pv 1 _ rfl | assumption)) ?_
  refine l_g1 rfl rfl (fun hG => v_eql (gd hG rfl) rfl) ?_
  refine l_v (v_and rfl rfl) ?_
  refine l_nil ?_
  refine n_then ?_
  refine c_cond rfl rfl (fun hc => ?_) (fun hc => ?_)
  · skip
    have hh : is = true ∧ e = 0 := by simpa using hc
    refine wp_any (by kernel_rfl) ?_
    have e101 : Ext w { w with drawn := w.drawn + 1 } := Keep.drawn _ _
    generalize hw101 : ({ w with drawn := w.drawn + 1 } : World) = w101 at e101 ⊢
    clear hw101
    have zs_e101 := e101.size
    replace E := E.trans (Ext.keep e101)
    replace HB4 := HB4.ext e101
    replace HB11 := HB11.ext e101
    replace EL0 := EL0.trans (Ext.keep e101)
    refine r_cut 3 rfl (by decide +kernel) (by decide +kernel) (by decide +kernel) ?_
    refine wp_regJW (Kg) (Ch1J 2 (P0) (fun v W => ∃ e', v = .int .i64 e' ∧ Q e' W)) (by decide +kernel) (by decide +kernel) (fun vals done hd => Ch1J.start (hP _ _ hP0 EL0) (hd 2 (by decide))) ?_
    refine rj_vJ (fun done vals w hR hcl hdk hJ hdn hd => v_load (by kernel_rfl) rfl (by first | exact (HB11.keep hR (by intro h; have he0 := h; (try dsimp only at h); (try simp only [Value.ownBlock, Option.some.injEq] at h); first | omega | (have he := he0; first | exact Or.inl he | exact absurd he hk4 | exact absurd he hk11))).cell rfl | exact (HB4.keep hR (by intro h; have he0 := h; (try dsimp only at h); (try simp only [Value.ownBlock, Option.some.injEq] at h); first | omega | (have he := he0; first | exact Or.inl he | exact absurd he hk4 | exact absurd he hk11))).cell rfl | assumption)) (fun done vals w hdk hJ => hJ.src (by decide)) ?_
    refine rj_vJ (fun done vals w hR hcl hdk hJ hdn hd => v_move rfl) (fun done vals w hdk hJ => hJ.src (by decide)) ?_
    refine rj_d (fun done vals w hR hcl hdk hJ hdn hd => by
        obtain ⟨h0, hn⟩ := hJ.st hdk
        exact to_call0 hb (hd 1 rfl) (CallsR.mono (hg hh.1 hh.2 _ h0) fun v w1 h => ⟨h.choose_spec.2.2, hn _ _ (⟨_, h.choose_spec.1, h.choose_spec.2.1⟩)⟩)) ?_
    refine rj_nil (fun vals w102 k102 J102 => ?_)
    rintro _ - rfl _ - rfl v15 qv15 -
    have zs_k102 := k102.size
    have hX102 := J102.fin
    rw [← qv15] at hX102
    clear qv15
    obtain ⟨e1, rfl, hq⟩ := hX102
    replace E := E.step k102 (by intro i hi he; have he0 := he; (try dsimp only [NoK] at hi he ⊢); (try simp only [Value.ownBlock, Option.some.injEq] at he); first | exact he.elim | omega | exact he | (first | exact Or.inl he | exact absurd he hk4 | exact absurd he hk11))
    replace HB4 := HB4.keep k102 (by intro h; have he0 := h; (try dsimp only at h); (try simp only [Value.ownBlock, Option.some.injEq] at h); first | omega | (have he := he0; first | exact Or.inl he | exact absurd he hk4 | exact absurd he hk11))
    replace HB11 := HB11.keep k102 (by intro h; have he0 := h; (try dsimp only at h); (try simp only [Value.ownBlock, Option.some.injEq] at h); first | omega | (have he := he0; first | exact Or.inl he | exact absurd he hk4 | exact absurd he hk11))
    refine fin_nilJ ?_
    refine n_then ?_
    refine r_cut 2 rfl (by decide +kernel) (by decide +kernel) (by decide +kernel) ?_
    refine wp_regdW (NoK) (by decide +kernel) (by decide +kernel) ?_
    refine rt_v (fun vals w hR hd => v_nilCheck rfl) ?_
    refine rt_v (fun vals w hR hd => v_fieldAddr (off := 1) (ft := 30) (by kernel_rfl) (hd 0 rfl)) ?_
    refine rt_nil (fun w103 e103 => ?_)
    rintro _ rfl _ rfl
    have zs_e103 := e103.size
    replace E := E.trans (Ext.keep e103)
    replace HB4 := HB4.ext e103
    replace HB11 := HB11.ext e103
    refine fin_nil ?_
    refine n_then ?_
    refine r_one (by decide +kernel) rfl ?_
    refine l_to (to_store rfl rfl (show _ = (Value.int _ _) from rfl) rfl (by kernel_rfl) HB11 (by simp) ?_)
    rintro w31 HB11 k31 z31
    have zs_k31 := k31.size
    try simp only [List.set_cons_zero, List.set_cons_succ] at HB11
    replace E := E.step k31 (by intro i hi he; have he0 := he; (try dsimp only [NoK] at hi he ⊢); (try simp only [Value.ownBlock, Option.some.injEq] at he); first | exact he.elim | omega | exact he | (first | exact Or.inl he | exact absurd he hk4 | exact absurd he hk11))
    replace HB4 := HB4.keep k31 (by intro h; have he0 := h; (try dsimp only at h); (try simp only [Value.ownBlock, Option.some.injEq] at h); first | omega | (have he := he0; first | exact Or.inl he | exact absurd he hk4 | exact absurd he hk11))
    refine l_nil ?_
    refine end0 rfl ?_
    rw [if_pos hh]
    exact ⟨e1, HB11, hQ _ _ _ (hQ _ _ _ hq (Ext.keep e103)) k31, E⟩
  · skip
    refine c_skip ?_
    refine end0 rfl ?_
    have hh : ¬ (is = true ∧ e = 0) := by simpa using hc
    rw [if_neg hh]
    exact ⟨hP _ _ hP0 EL0, HB11, EL0⟩
end Go.Proofs.Ytaidpdjlchnonaa
