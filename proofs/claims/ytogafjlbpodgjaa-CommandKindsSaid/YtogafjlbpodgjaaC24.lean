/- A part of the proof: steps and lemmas for the walks through the given program. -/
import Derived.Test.YtogafjlbpodgjaaCe
import Derived.Test.YtogafjlbpodgjaaVc47
namespace Go.Proofs.Ytogafjlbpodgjaa
open Go.Vc
set_option linter.unusedVariables false
set_option linter.unusedSimpArgs false
set_option maxRecDepth 100000

theorem Kall_c {w : World} : CallsR Try.prog 91 #[.int .i64 1, .int .i64 10] w (fun o w' => ∃ b2 b3, w.heap.size ≤ b2 ∧ w.heap.size ≤ b3 ∧ o = .func (.func 102) #[] #[.pointer (some ⟨b2, 0, none⟩), .pointer (some ⟨b3, 0, none⟩)] ∧ Blk w' b2 [.int .i64 1] 31 ∧ Blk w' b3 [.int .i64 10] 31 ∧ Ext w w') := by
  refine enter 6 Try.func91 rfl rfl (by simp) ?_
  refine c_seq ?_
  have E := Keep.refl (K := NoK) w
  refine wp_reg zd ?_
  refine l_to (to_box (zvI rfl) ?_)
  rintro b2 w2 zb2 HB2 e2 z2
  have zs_e2 := e2.size
  replace E := E.trans (Ext.keep e2)
  try simp only [Value.cells] at HB2
  refine l_to (to_box (zvI rfl) ?_)
  rintro b3 w3 zb3 HB3 e3 z3
  have zs_e3 := e3.size
  replace E := E.trans (Ext.keep e3)
  replace HB2 := HB2.ext e3
  try simp only [Value.cells] at HB3
  refine l_v (v_assign rfl) ?_
  refine l_nil ?_
  refine n_then ?_
  refine c_seq ?_
  refine wp_reg zd ?_
  refine l_v (v_makeFunc (by simp [ev]; rfl) (by simp [ev]; rfl)) ?_
  refine l_v (v_assign rfl) ?_
  refine l_nil ?_
  refine n_then ?_
  refine c_ret ?_
  refine ret1v rfl (by decide) rfl ?_
  exact ⟨b2, b3, by omega, by omega, rfl, HB2, HB3, E⟩
theorem Kinds_c {w : World} : CallsR Try.prog 67 #[] w (fun o w' => o = .func (.func 90) #[] #[] ∧ Ext w w') := by
  refine enter 1 Try.func67 rfl rfl (by simp) ?_
  refine c_seq ?_
  have E := Keep.refl (K := NoK) w
  refine wp_reg zd ?_
  refine l_v (v_assign rfl) ?_
  refine l_nil ?_
  refine n_then ?_
  refine c_seq ?_
  refine wp_reg zd ?_
  refine l_v (v_assign rfl) ?_
  refine l_nil ?_
  refine n_then ?_
  refine c_ret ?_
  refine ret1v rfl (by decide) rfl ?_
  exact ⟨rfl, E⟩
def yKd (pre : List Nat) (x : Nat) (_ : World) : Prop := x = pre.length ∧ x < 10
theorem Kall1_seq {w0 : World} {K : Nat → Prop} {b2 b3 : Nat} (hb2 : Blk w0 b2 [.int .i64 1] 31) (hb3 : Blk w0 b3 [.int .i64 10] 31) (hK2 : ¬ K b2) (hK3 : ¬ K b3) :
    SeqT Try.prog 102 #[.pointer (some ⟨b2, 0, none⟩), .pointer (some ⟨b3, 0, none⟩)] (fun x : Nat => [.int .i64 ((x : Int) + 1)]) yKd K (fun xs => xs.length = 10) (fun _ => True) w0 := by
 refine fun l J Jx W hx hz hJ hJx hY h0 => ?_
 refine CallsR.mono (R := fun _ W' => (∃ xs : List Nat, xs.length = 10 ∧ J xs W') ∨ ∃ pre, True ∧ Jx pre W') ?_ fun _ _ h => h
 show CallsR _ _ (#[.func (.yield l) #[] #[], .pointer (some ⟨b2, 0, none⟩), .pointer (some ⟨b3, 0, none⟩)]) W _
 refine enter 16 Try.func102 rfl rfl (by simp) ?_
 refine c_seq ?_
 refine wp_reg zd ?_
 refine l_v (v_load zk rfl ((hb2.ext hx).cell rfl)) ?_
 refine l_v (v_assign (t := .int _ _) rfl) ?_
 refine l_nil ?_
 refine n_then ?_
 refine c_block ?_
 refine c_loop (τ := List Nat) [4, 6, 7, 8, 9, 10, 11, 12, 13, 14, 15] (fun pre => [(4, .int .i64 ((pre.length : Int) + 1))]) (fun pre w => Keep K w0 w ∧ J pre w ∧ pre.length ≤ 10) (fun pre => 10 - pre.length) [] (by exact ⟨rfl, trivial⟩) (by exact ⟨hx.keep, h0, Nat.zero_le _⟩) ?_
 rintro pre w2 j ⟨k1, hj, hn⟩
 by_cases hgg : pre.length < 10
 ·
  refine c_seq ?_
  refine c_seq ?_
  refine wp_reg zd ?_
  refine l_v (v_move (t := .int _ _) rfl) ?_
  refine l_v (v_load zk rfl ((hb3.keep k1 hK3).cell rfl)) ?_
  refine l_v (OpVat.as (b := true) (v_leq rfl rfl) (decide_eq_true (by omega))) ?_
  refine l_v (v_move (t := .bool _) rfl) ?_
  refine l_gt rfl rfl (OpTo.of_v (v_move (t := .func _ _ _) rfl) ?_)
  refine l_gt rfl rfl (OpTo.of_v (v_move (t := .int _ _) rfl) ?_)
  refine l_gt rfl rfl (to_yield1 rfl (zvI rfl) (YieldAt.mono (hY pre pre.length w2 hj ⟨rfl, hgg⟩) ?_))
  rintro en w7 ⟨v, rfl, hv⟩
  refine ⟨v, rfl, ?_⟩
  obtain ⟨bb, rfl, hb1, hb2'⟩ := yb hv
  refine l_v (v_andT rfl rfl) ?_
  refine l_nil ?_
  refine n_then ?_
  refine c_cond rfl rfl (fun hc2 => ?_) (fun hc2 => ?_)
  ·
   obtain rfl : bb = true := by cases bb <;> simp_all
   obtain ⟨hj7, k7⟩ := hb1 rfl
   refine c_skip ?_
   refine n_then ?_
   refine c_seq ?_
   refine c_block ?_
   refine c_skip ?_
   refine n_blk ?_
   refine n_then ?_
   refine wp_reg zd ?_
   refine l_v (v_move (t := .int _ _) rfl) ?_
   refine l_v (v_add rfl rfl (by first | exact wr_i64 (by omega) (by omega) | rfl)) ?_
   refine l_v (v_assign (t := .int _ _) rfl) ?_
   refine l_nil ?_
   refine n_then ?_
   refine ⟨pre ++ [pre.length], _, rfl, by (repeat (first | exact Off.of_over _ _ _ | refine Off.upd ?_ (by decide) _ | refine Off.overs ?_ (by decide) _)), ⟨by first | rfl | exact congrArg (Value.int _) (by omega) | (simp; done) | (exact congrArg (Value.int _) (by simp)), trivial⟩, ?_, ?_⟩
   ·
    exact ⟨k1.trans k7, hj7, by simp; omega⟩
   ·
    simp; omega
  ·
   obtain rfl : bb = false := by cases bb <;> simp_all
   refine c_exit ?_
   refine x_then ?_
   refine x_then ?_
   refine x_hit ?_
   refine end0 rfl ?_
   exact .inr ⟨_, trivial, (hb2' rfl).1⟩
 ·
  refine c_seq ?_
  refine c_seq ?_
  refine wp_reg zd ?_
  refine l_v (v_move (t := .int _ _) rfl) ?_
  refine l_v (v_load zk rfl ((hb3.keep k1 hK3).cell rfl)) ?_
  refine l_v (OpVat.as (b := false) (v_leq rfl rfl) (decide_eq_false (by omega))) ?_
  refine l_v (v_move (t := .bool _) rfl) ?_
  refine l_skip (u := .bool false) rfl rfl rfl ?_
  refine l_skip (u := .bool false) rfl rfl rfl ?_
  refine l_skip (u := .bool false) rfl rfl rfl ?_
  refine l_v (v_andC rfl) ?_
  refine l_nil ?_
  refine n_then ?_
  refine c_cond rfl rfl (fun hc2 => ?_) (fun hc2 => ?_)
  ·
   cases hc2
  ·
   refine c_exit ?_
   refine x_then ?_
   refine x_then ?_
   refine x_hit ?_
   refine end0 rfl ?_
   exact .inl ⟨pre, by omega, hj⟩
theorem Kinds1_seq {w0 : World} {K : Nat → Prop} (hKb : ∀ i, K i → i < w0.heap.size + 2) :
    SeqT Try.prog 90 #[] (fun x : Nat => [.int .i64 ((x : Int) + 1)]) yKd K (fun xs => xs.length = 10) (fun _ => True) w0 := by
 refine fun l J Jx w hx hz hJ hJx hYo h0 => ?_
 refine CallsR.mono (R := fun _ W' => (∃ xs : List Nat, xs.length = 10 ∧ J xs W') ∨ ∃ pre, True ∧ Jx pre W') ?_ fun _ _ h => h
 show CallsR _ _ (#[.func (.yield l) #[] #[]]) w _
 refine enterM 9 Try.func90 rfl rfl (by simp) ?_
 refine c_seq ?_
 have E := Keep.refl (K := K) w
 refine wp_reg zd ?_
 refine l_to (to_box (show _ = (Value.func _ _ _) from rfl) ?_)
 rintro b1 w1 zb1 HB1 e1 z1
 have zs_e1 := e1.size
 replace E := E.trans (Ext.keep e1)
 try simp only [Value.cells] at HB1
 refine l_nil ?_
 refine n_then ?_
 refine c_seq ?_
 refine wp_reg zd ?_
 refine l_to (to_f2 zk (zvI rfl) (zvI rfl) (CallsR.mono (Kall_c) ?_))
 rintro _ w2 ⟨b2, b3, hb2, hb3, rfl, HB2, HB3, e2⟩
 have zs_e2 := e2.size
 replace E := E.trans (Ext.keep e2)
 replace HB1 := HB1.ext e2
 refine l_nil ?_
 refine n_then ?_
 refine c_block ?_
 refine c_rangeT (N := 9) rfl (show _ = (Value.func _ _ _) from rfl) zk (by decide) E (fun x : Nat => [.int .i64 ((x : Int) + 1)]) (fun _ => rfl) (yKd) (fun xs => xs.length = 10) (fun _ => True) (K) (fun i h => ⟨fun _ => h, by have := hKb i h; omega⟩) ((Kall1_seq (K := fun i => K i ∨ i = w2.heap.size ∨ i = w2.heap.size + 1) HB2 HB3 (fun h => by have := HB2.lt; rcases h with h | h; (have := hKb _ h; omega); omega) (fun h => by have := HB3.lt; rcases h with h | h; (have := hKb _ h; omega); omega))) (fun pre W => J pre W) (fun c pre W => c = .ret ∧ Jx pre W) (fun s A B t h => hJ _ _ _ (t.le (by omega)) h) (fun c s A B t h => ⟨h.1, hJx _ _ _ (t.le (by omega)) h.2⟩) (hJ _ _ _ (Ext.turn e2) (hJ _ _ _ (Ext.turn e1) h0)) (fun pre x e1 W => Holds [(1, .pointer (some ⟨b1, 0, none⟩)), (2, .int .i64 ((x : Int) + 1))] e1 ∧ x = pre.length ∧ x < 10) (fun pre x e1 W W' t h => h) ?_ ?_ ?_ ?_
 ·
  rintro l pre x w101 E EK hY hj
  have zs_EK101 := EK.size
  have zs_E101 := E.size
  replace HB1 := HB1.keep EK (by intro h; have he0 := h; (try dsimp only at h); (try simp only [Value.ownBlock, Option.some.injEq] at h); first | omega | (have he := he0; have := hKb _ he; omega))
  replace HB2 := HB2.keep EK (by intro h; have he0 := h; (try dsimp only at h); (try simp only [Value.ownBlock, Option.some.injEq] at h); first | omega | (have he := he0; have := hKb _ he; omega))
  replace HB3 := HB3.keep EK (by intro h; have he0 := h; (try dsimp only at h); (try simp only [Value.ownBlock, Option.some.injEq] at h); first | omega | (have he := he0; have := hKb _ he; omega))
  have EL1 := Keep.refl (K := NoK) w101
  refine wp_reg zd ?_
  refine l_v (v_assign (t := .int _ _) rfl) ?_
  refine l_nil ?_
  refine n_then ?_
  exact ⟨_, rfl, EL1, hj, ⟨rfl, rfl, trivial⟩, hY⟩
 ·
  rintro l pre x e1 w102 E EK hj ⟨hh, hxp, hx10⟩
  have zs_EK102 := EK.size
  have zs_E102 := E.size
  replace HB1 := HB1.keep EK (by intro h; have he0 := h; (try dsimp only at h); (try simp only [Value.ownBlock, Option.some.injEq] at h); first | omega | (have he := he0; have := hKb _ he; omega))
  replace HB2 := HB2.keep EK (by intro h; have he0 := h; (try dsimp only at h); (try simp only [Value.ownBlock, Option.some.injEq] at h); first | omega | (have he := he0; have := hKb _ he; omega))
  replace HB3 := HB3.keep EK (by intro h; have he0 := h; (try dsimp only at h); (try simp only [Value.ownBlock, Option.some.injEq] at h); first | omega | (have he := he0; have := hKb _ he; omega))
  obtain ⟨jj, rfl⟩ : ∃ j, e1 = updL _ j := ⟨_, hh.upd⟩
  have EL1 := Keep.refl (K := K) w102
  refine c_block ?_
  refine c_seq ?_
  refine wp_reg zd ?_
  refine l_v (v_load zk rfl (by first | exact HB3.cell rfl | exact HB2.cell rfl | exact HB1.cell rfl | assumption)) ?_
  refine l_v (v_move (t := .int _ _) rfl) ?_
  refine l_to (to_yield1 rfl (zvI rfl) (YieldAt.mono (hYo pre x _ hj ⟨hxp, hx10⟩) ?_))
  rintro en w7 ⟨v, rfl, hv⟩
  refine ⟨v, rfl, ?_⟩
  obtain ⟨bb, rfl, hb1, hb2'⟩ := yb hv
  refine l_v (v_not rfl) ?_
  refine l_nil ?_
  refine n_then ?_
  refine c_cond rfl rfl (fun hc => ?_) (fun hc => ?_)
  ·
   obtain rfl : bb = false := by cases bb <;> simp_all
   obtain ⟨hj7, k7⟩ := hb2' rfl
   have zs_k7 := k7.size
   replace HB1 := HB1.keep k7 (by intro h; have he0 := h; (try dsimp only at h); (try simp only [Value.ownBlock, Option.some.injEq] at h); first | omega | (have he := he0; have := hKb _ he; omega))
   replace HB2 := HB2.keep k7 (by intro h; have he0 := h; (try dsimp only at h); (try simp only [Value.ownBlock, Option.some.injEq] at h); first | omega | (have he := he0; have := hKb _ he; omega))
   replace HB3 := HB3.keep k7 (by intro h; have he0 := h; (try dsimp only at h); (try simp only [Value.ownBlock, Option.some.injEq] at h); first | omega | (have he := he0; have := hKb _ he; omega))
   replace E := E.step k7 (by intro i hi he; have he0 := he; (try dsimp only [NoK] at hi he ⊢); (try simp only [Value.ownBlock, Option.some.injEq] at he); first | exact he.elim | omega | exact he | (have := hKb _ he; omega))
   replace EL1 := EL1.step k7 (by intro i hi he; have he0 := he; (try dsimp only [NoK] at hi he ⊢); (try simp only [Value.ownBlock, Option.some.injEq] at he); first | exact he.elim | omega | exact he | (have := hKb _ he; omega))
   refine c_ret ?_
   refine r_blk ?_
   refine ⟨EL1, ?_⟩
   exact ⟨rfl, hj7⟩
  ·
   obtain rfl : bb = true := by cases bb <;> simp_all
   obtain ⟨hj7, k7⟩ := hb1 rfl
   have zs_k7 := k7.size
   replace HB1 := HB1.keep k7 (by intro h; have he0 := h; (try dsimp only at h); (try simp only [Value.ownBlock, Option.some.injEq] at h); first | omega | (have he := he0; have := hKb _ he; omega))
   replace HB2 := HB2.keep k7 (by intro h; have he0 := h; (try dsimp only at h); (try simp only [Value.ownBlock, Option.some.injEq] at h); first | omega | (have he := he0; have := hKb _ he; omega))
   replace HB3 := HB3.keep k7 (by intro h; have he0 := h; (try dsimp only at h); (try simp only [Value.ownBlock, Option.some.injEq] at h); first | omega | (have he := he0; have := hKb _ he; omega))
   replace E := E.step k7 (by intro i hi he; have he0 := he; (try dsimp only [NoK] at hi he ⊢); (try simp only [Value.ownBlock, Option.some.injEq] at he); first | exact he.elim | omega | exact he | (have := hKb _ he; omega))
   replace EL1 := EL1.step k7 (by intro i hi he; have he0 := he; (try dsimp only [NoK] at hi he ⊢); (try simp only [Value.ownBlock, Option.some.injEq] at he); first | exact he.elim | omega | exact he | (have := hKb _ he; omega))
   refine c_skip ?_
   refine n_blk ?_
   refine ⟨EL1, ?_⟩
   exact hj7
 ·
  rintro D xs w103 hD E EK hS hj HD
  have zs_EK103 := EK.size
  have zs_E103 := E.size
  replace HB1 := HB1.keep EK (by intro h; have he0 := h; (try dsimp only at h); (try simp only [Value.ownBlock, Option.some.injEq] at h); first | omega | (have he := he0; have := hKb _ he; omega))
  replace HB2 := HB2.keep EK (by intro h; have he0 := h; (try dsimp only at h); (try simp only [Value.ownBlock, Option.some.injEq] at h); first | omega | (have he := he0; have := hKb _ he; omega))
  replace HB3 := HB3.keep EK (by intro h; have he0 := h; (try dsimp only at h); (try simp only [Value.ownBlock, Option.some.injEq] at h); first | omega | (have he := he0; have := hKb _ he; omega))
  refine n_blk ?_
  refine end0M1 HD rfl ?_
  have E := keep_put E (by omega : w.heap.size ≤ D) (.deferred none)
  exact .inl ⟨_, hS, hJ _ _ _ (turn_put HD (by omega) _) hj⟩
 ·
  rintro D _ pre w104 hD E EK hpre ⟨rfl, hj⟩ HD
  have zs_EK104 := EK.size
  have zs_E104 := E.size
  replace HB1 := HB1.keep EK (by intro h; have he0 := h; (try dsimp only at h); (try simp only [Value.ownBlock, Option.some.injEq] at h); first | omega | (have he := he0; have := hKb _ he; omega))
  replace HB2 := HB2.keep EK (by intro h; have he0 := h; (try dsimp only at h); (try simp only [Value.ownBlock, Option.some.injEq] at h); first | omega | (have he := he0; have := hKb _ he; omega))
  replace HB3 := HB3.keep EK (by intro h; have he0 := h; (try dsimp only at h); (try simp only [Value.ownBlock, Option.some.injEq] at h); first | omega | (have he := he0; have := hKb _ he; omega))
  refine c_ret ?_
  refine r_blk ?_
  refine ret0M1 HD rfl ?_
  have E := keep_put E (by omega : w.heap.size ≤ D) (.deferred none)
  exact .inr ⟨_, trivial, hJx _ _ _ (turn_put HD (by omega) _) hj⟩
theorem onceK_c {w : World} {mo : Int} : CallsR Try.prog 33 #[.int .i64 mo] w (fun o w' => o = .bool true ∧ Ext w w') := by
 refine enterM 21 Try.func33 rfl rfl (by simp) ?_
 refine c_seq ?_
 have E := Keep.refl (K := NoK) w
 refine wp_reg zd ?_
 refine l_to (to_box (zvI rfl) ?_)
 rintro b1 w1 zb1 HB1 e1 z1
 have zs_e1 := e1.size
 replace E := E.trans (Ext.keep e1)
 try simp only [Value.cells] at HB1
 refine l_to (to_alloc (z := (.bool false)) (by unfold kZero; kernel_rfl) ?_)
 rintro b2 w2 zb2 HB2 e2 z2
 have zs_e2 := e2.size
 replace E := E.trans (Ext.keep e2)
 replace HB1 := HB1.ext e2
 try simp only [Value.cells] at HB2
 refine l_nil ?_
 refine n_then ?_
 refine c_seq ?_
 refine wp_reg zd ?_
 refine l_to (to_alloc (z := (.int .i64 0)) (by unfold kZero; kernel_rfl) ?_)
 rintro b3 w3 zb3 HB3 e3 z3
 have zs_e3 := e3.size
 replace E := E.trans (Ext.keep e3)
 replace HB1 := HB1.ext e3
 replace HB2 := HB2.ext e3
 try simp only [Value.cells] at HB3
 refine l_to (to_store rfl rfl (zvI rfl) rfl zk HB3 (by simp) ?_)
 rintro w31 HB3 k31 z31
 have zs_k31 := k31.size
 try simp only [List.set_cons_zero] at HB3
 replace E := E.step k31 dj3
 replace HB1 := HB1.keep k31 dj4
 replace HB2 := HB2.keep k31 dj4
 refine l_nil ?_
 refine n_then ?_
 refine c_seq ?_
 refine wp_reg zd ?_
 refine l_to (to_f0 zk (CallsR.mono (Kinds_c) ?_))
 rintro _ w4 ⟨rfl, e4⟩
 have zs_e4 := e4.size
 replace E := E.trans (Ext.keep e4)
 replace HB1 := HB1.ext e4
 replace HB2 := HB2.ext e4
 replace HB3 := HB3.ext e4
 refine l_v (v_assign (t := .func _ _ _) rfl) ?_
 refine l_nil ?_
 refine n_then ?_
 refine c_seq ?_
 refine c_seq ?_
 refine wp_reg zd ?_
 refine l_v (v_move (t := .func _ _ _) rfl) ?_
 refine l_v (v_feqlnil (ps := #[123]) (rs := #[]) (v := false) zk rfl rfl) ?_
 refine l_nil ?_
 refine n_then ?_
 refine c_cond rfl rfl (fun hn => ?_) (fun hn => ?_)
 ·
  cases hn
 ·
  refine c_skip ?_
  refine n_then ?_
  refine c_seq ?_
  refine c_seq ?_
  refine wp_reg zd ?_
  refine l_v (v_move (t := .func _ _ _) rfl) ?_
  refine l_nil ?_
  refine n_then ?_
  refine c_block ?_
  refine c_rangeT (N := 21) rfl (show _ = (Value.func _ _ _) from rfl) zk (by decide) E (fun x : Nat => [.int .i64 ((x : Int) + 1)]) (fun _ => rfl) (yKd) (fun xs => xs.length = 10) (fun _ => True) (fun i => i = b2 ∨ i = b3) (fun i h => by have h := h; (try dsimp only at h); exact ⟨fun _ => by omega, by omega⟩) (Kinds1_seq (fun i h => by omega)) (fun pre W => Blk W b3 [.int .i64 (pre.length : Int)] 3 ∧ Blk W b2 [.bool false] 4) (fun c pre W => c = .ret ∧ Blk W b2 [.bool true] 4) (fun s A B t h => ⟨h.1.turn t, h.2.turn t⟩) (fun c s A B t h => ⟨h.1, h.2.turn t⟩) (⟨HB3, HB2⟩) (fun pre x e1 W => Holds [(1, .pointer (some ⟨b1, 0, none⟩)), (2, .pointer (some ⟨b2, 0, none⟩)), (3, .pointer (some ⟨b3, 0, none⟩)), (5, .int .i64 ((x : Int) + 1))] e1 ∧ x = pre.length ∧ x < 10) (fun pre x e1 W W' t h => h) ?_ ?_ ?_ ?_
  ·
   rintro l pre x w101 E EK hY ⟨HB3, HB2⟩
   have zs_EK101 := EK.size
   have zs_E101 := E.size
   replace HB1 := HB1.keep EK dj4
   have EL1 := Keep.refl (K := NoK) w101
   refine wp_reg zd ?_
   refine l_v (v_assign (t := .int _ _) rfl) ?_
   refine l_nil ?_
   refine n_then ?_
   exact ⟨_, rfl, EL1, ⟨HB3, HB2⟩, ⟨rfl, rfl, rfl, rfl, trivial⟩, hY⟩
  ·
   rintro l pre x e1 w102 E EK ⟨HB3, HB2⟩ ⟨hh, hxp, hx10⟩
   have zs_EK102 := EK.size
   have zs_E102 := E.size
   replace HB1 := HB1.keep EK dj4
   obtain ⟨jj, rfl⟩ : ∃ j, e1 = updL _ j := ⟨_, hh.upd⟩
   have EL1 := Keep.refl (K := fun i => i = b2 ∨ i = b3) w102
   refine c_block ?_
   refine c_seq ?_
   refine wp_reg zd ?_
   refine l_v (v_load zk rfl (by first | exact HB2.cell rfl | exact HB3.cell rfl | exact HB1.cell rfl | assumption)) ?_
   refine l_v (v_add rfl rfl (by first | exact wr_i64 (by omega) (by omega) | rfl)) ?_
   refine l_to (to_store rfl rfl (zvI rfl) rfl zk HB3 (by simp) ?_)
   rintro w41 HB3 k41 z41
   have zs_k41 := k41.size
   try simp only [List.set_cons_zero] at HB3
   replace HB1 := HB1.keep k41 dj4
   replace E := E.step k41 dj3
   replace HB2 := HB2.keep k41 dj4
   replace EL1 := EL1.step k41 dj3
   refine l_nil ?_
   refine n_then ?_
   refine c_seq ?_
   refine c_seq ?_
   refine wp_reg zd ?_
   refine l_v (v_move (t := .int _ _) rfl) ?_
   refine l_v (v_load zk rfl (by first | exact HB3.cell rfl | exact HB2.cell rfl | exact HB1.cell rfl | assumption)) ?_
   refine l_v (v_neq rfl rfl) ?_
   refine l_nil ?_
   refine n_then ?_
   refine c_cond rfl rfl (fun hq => ?_) (fun hq => ?_)
   ·
    simp [hxp] at hq
   ·
    refine c_skip ?_
    refine n_then ?_
    refine c_seq ?_
    refine wp_reg zd ?_
    refine l_v (v_load zk rfl (by first | exact HB3.cell rfl | exact HB2.cell rfl | exact HB1.cell rfl | assumption)) ?_
    refine l_v (v_load zk rfl (by first | exact HB3.cell rfl | exact HB2.cell rfl | exact HB1.cell rfl | assumption)) ?_
    refine l_v (v_eql rfl rfl) ?_
    refine l_nil ?_
    refine n_then ?_
    refine c_cond rfl rfl (fun hx => ?_) (fun hx => ?_)
    ·
     refine c_seq ?_
     refine wp_reg zd ?_
     refine l_to (to_store rfl rfl (zvB rfl) rfl zk HB2 (by simp) ?_)
     rintro w51 HB2 k51 z51
     have zs_k51 := k51.size
     try simp only [List.set_cons_zero] at HB2
     replace HB1 := HB1.keep k51 dj4
     replace E := E.step k51 dj3
     replace EL1 := EL1.step k51 dj3
     replace HB3 := HB3.keep k51 dj4
     refine l_nil ?_
     refine n_then ?_
     refine c_ret ?_
     refine r_blk ?_
     refine ⟨EL1, ?_⟩
     exact ⟨rfl, HB2⟩
    ·
     refine c_skip ?_
     refine n_blk ?_
     refine ⟨EL1, ?_⟩
     refine ⟨?_, HB2⟩
     simpa using HB3
  ·
   rintro D xs w103 hD E EK hS ⟨HB3, HB2⟩ HD
   have zs_EK103 := EK.size
   have zs_E103 := E.size
   replace HB1 := HB1.keep EK dj4
   refine n_blk ?_
   refine n_then ?_
   refine c_seq ?_
   refine wp_reg zd ?_
   refine l_v (v_load zk rfl (by first | exact HB2.cell rfl | exact HB3.cell rfl | exact HB1.cell rfl | assumption)) ?_
   refine l_v (v_eql rfl rfl) ?_
   refine l_to (to_store rfl rfl (zvB rfl) rfl zk HB2 (by simp) ?_)
   rintro w61 HB2 k61 z61
   have zs_k61 := k61.size
   try simp only [List.set_cons_zero] at HB2
   replace HB1 := HB1.keep k61 dj4
   replace E := E.step k61 dj3
   replace HB3 := HB3.keep k61 dj4
   replace HD := defB_keep HD k61 (by intro h; have h := h; (try dsimp only at h); omega)
   refine l_nil ?_
   refine n_then ?_
   refine c_ret ?_
   refine retM1s HD rfl (by decide) rfl zk (HB2.cell rfl) ?_
   have E := keep_put E (by omega : w.heap.size ≤ D) (.deferred none)
   refine ⟨?_, E⟩
   simp [hS]
  ·
   rintro D _ pre w104 hD E EK hpre ⟨rfl, HB2⟩ HD
   have zs_EK104 := EK.size
   have zs_E104 := E.size
   replace HB1 := HB1.keep EK dj4
   refine c_ret ?_
   refine r_blk ?_
   refine r_then ?_
   refine retM1s HD rfl (by decide) rfl zk (HB2.cell rfl) ?_
   have E := keep_put E (by omega : w.heap.size ≤ D) (.deferred none)
   exact ⟨rfl, E⟩
theorem CommandKinds_c {w : World} {mo : Int} : CallsR Try.prog 9 #[.int .i64 mo] w (fun o w' => o = .bool true ∧ Ext w w') := by
  refine enter 11 Try.func9 rfl rfl (by simp) ?_
  refine c_seq ?_
  have E := Keep.refl (K := NoK) w
  refine wp_reg zd ?_
  refine l_v (v_assign rfl) ?_
  refine l_nil ?_
  refine n_then ?_
  refine c_seq ?_
  refine wp_reg zd ?_
  refine l_v (v_move (t := .int _ _) rfl) ?_
  refine l_to (to_f1 zk (zvI rfl) (CallsR.mono (onceK_c) ?_))
  rintro _ w101 ⟨rfl, e101⟩
  have zs_e101 := e101.size
  replace E := E.trans (Ext.keep e101)
  refine l_v (v_move (t := .bool _) rfl) ?_
  refine l_g1f rfl rfl (fun hG => to_f1 zk (zvI rfl) (onceK_c)) ?_
  rintro w102 e102
  have zs_e102 := e102.size
  replace E := E.trans (Ext.keep e102)
  refine l_v (v_and rfl rfl) ?_
  refine l_v (v_move (t := .bool _) rfl) ?_
  refine l_g1f rfl rfl (fun hG => to_f0 zk (known_c)) ?_
  rintro w103 e103
  have zs_e103 := e103.size
  replace E := E.trans (Ext.keep e103)
  refine l_v (v_and rfl rfl) ?_
  refine l_v (v_assign (t := .bool _) rfl) ?_
  refine l_nil ?_
  refine n_then ?_
  refine c_ret ?_
  refine ret1v rfl (by decide) (zvB rfl) ?_
  exact ⟨rfl, E⟩
end Go.Proofs.Ytogafjlbpodgjaa
