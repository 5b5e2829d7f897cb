/- A part of the proof: steps and lemmas for the walks through the given program. -/
import Derived.Test.YtlhanmlpionomaaDg
namespace Go.Proofs.Ytlhanmlpionomaa
open Go.Vc
set_option linter.unusedVariables false
set_option linter.unusedSimpArgs false
set_option maxRecDepth 100000

def resS (S : TbS) (ks : List Int) : TbS := fun c => if c ∈ ks then S c else none
theorem resS_nil (S : TbS) : resS S [] = S0 := by funext c; simp [resS, S0]
theorem resS_all {S : TbS} (hok : TbOk S) : resS S (ksS S) = S := by
  funext c
  unfold resS
  split
  · rfl
  · next h =>
    cases hS : S c with
    | none => rfl
    | some x => exact absurd ((ksS_mem hok).2 (by rw [hS]; rfl)) h
theorem res_step {S : TbS} (hok : TbOk S) {i : Nat} {c : Int} (hc : (ksS S)[i]? = some c) : putN (resS S ((ksS S).take i)) c (numS S c) (ansS S c) = (0, resS S ((ksS S).take (i + 1))) := by
  have hm : c ∈ ksS S := List.mem_of_getElem? hc
  have hs := (ksS_mem hok).1 hm
  obtain ⟨r1, r2⟩ := ks_rng S c hm
  obtain ⟨r3, r4⟩ := numS_rng hok c
  have h0 : 0 < numS S c := by rw [numS_some hok] at hs; exact of_decide_eq_true hs
  have hn : c ∉ (ksS S).take i := by
    intro h
    obtain ⟨j, hj⟩ := List.mem_iff_getElem?.1 h
    rw [List.getElem?_take] at hj
    split at hj
    · next hji =>
      have hnd : (ksS S).Nodup := ksP_nodup _
      have := (List.getElem?_inj (List.getElem?_eq_some_iff.1 hj).1 hnd).1 (hj.trans hc.symm)
      omega
    · cases hj
  have hz : numS (resS S ((ksS S).take i)) c = 0 := by simp [numS, resS, hn]
  rw [putN, if_pos ⟨by simp; omega, ansS_may hok c⟩, if_neg (by rw [hz]; omega)]
  refine Prod.ext rfl ?_
  funext k
  simp only [updS, resS]
  rw [List.take_add_one, hc]
  by_cases hk : k = c
  · subst hk; simp [some_eq hs]
  · simp [hk]
/-- the lines of a table that a text is -/
theorem lines_of {S : TbS} (hok : TbOk S) {l : List UInt8} (h : tbW S = l) : tryRd (rdList rdLn) 4 l = .ok ((ksS S).map (lnK S), []) := by
  have := tbW_back hok []
  rw [List.append_nil, h] at this; exact this
set_option maxHeartbeats 8000000 in
theorem TRead_c {w : World} {F : Nat → Prop} {v : Value} {l : List UInt8} (HS1 : Bv w F v l) (hl : l.length ≤ 1000000) : CallsR Try.prog 35 #[v] w (fun o w' => ((∃ b bm S, o = .tuple #[.pointer (some ⟨b, 0, none⟩), .int .i64 0] ∧ w.heap.size ≤ b ∧ w.heap.size ≤ bm ∧ b ≠ bm ∧ Blk w' b [.map (some bm)] 65 ∧ TbI w' (fun i => w.heap.size ≤ i ∧ i ≠ bm) bm S ∧ TbOk S ∧ tbW S = l) ∨ (o = .tuple #[.pointer none, .int .i64 4] ∧ ∀ S, TbOk S → tbW S ≠ l)) ∧ Ext w w') := by
  obtain ⟨a0, c0, rfl⟩ := HS1.shape
  refine enter 46 Try.func35 rfl rfl (by simp) ?_
  refine c_seq ?_
  have E := Keep.refl (K := NoK) w
  replace HS1 := HS1.all
  refine wp_reg (by decide +kernel) ?_
  refine l_v (v_assign rfl) ?_
  refine l_v (v_assign rfl) ?_
  refine l_nil ?_
  refine n_then ?_
  refine c_seq ?_
  refine wp_reg (by decide +kernel) ?_
  refine l_v (v_move (t := .slice _ _ _) rfl) ?_
  refine l_to (to_f1 (by kernel_rfl) (show _ = (Value.slice _ _ _) from rfl) (CallsR.mono (Open_c HS1 (by omega)) ?_))
  rintro _ w11 ⟨b4, rfl, HR4, hb4, e11, zb4⟩
  have zs_e11 := e11.size
  replace E := E.trans (Ext.keep e11)
  replace HS1 := HS1.ext e11
  refine l_v (v_assign (t := .pointer _) rfl) ?_
  refine l_nil ?_
  refine n_then ?_
  refine c_seq ?_
  refine wp_reg (by decide +kernel) ?_
  refine l_v (v_move (t := .pointer _) rfl) ?_
  refine l_to (to_f3 (by kernel_rfl) (show _ = (Value.pointer _) from rfl) (show _ = (Value.int _ _) from rfl) rfl (CallsR.mono (takeLn_c (cap := #[]) HR4 (fun k hk => hk.2) (by decide) (by decide) (by omega) (by kernel_rfl) rdLn rdLn_short (fun w1 c l1 e hc r hl => oneLn_c r (fun k hk => by have := hk.2; omega) (by omega))) ?_))
  rintro r w14 ⟨hr14, k14⟩
  have zs_k14 := k14.size
  obtain ⟨a5, c5, er, ls, l2, rfl, HO5, HR5, hx5⟩ := TryV_any hr14
  have HS5 := HO5.view.mono (F' := fun k => w.heap.size ≤ k ∧ k < w14.heap.size) (fun k hk h => ⟨by rcases h with h | h <;> omega, hk⟩)
  have hls : ∀ S, TbOk S → tbW S = l → er = 0 ∧ ls = (ksS S).map (lnK S) := by
    intro S hS h
    have h2 := lines_of hS h
    rcases hx5 with ⟨he, hq⟩ | ⟨_, _, _, _, _, hq⟩
    · rw [show tryRd (rdList rdLn) 4 l = _ from hq] at h2; cases h2; exact ⟨he, rfl⟩
    · rw [show tryRd (rdList rdLn) 4 l = _ from hq] at h2; cases h2
  replace E := E.step k14 (by intro i hi he; (try dsimp only [NoK] at hi he ⊢); first | exact he.elim | omega | exact he)
  replace HS1 := HS1.keep k14 (by intro i _ hi he; (try dsimp only [NoK, AllB] at hi he); first | exact hi.elim | exact he.elim | omega | (rcases hi with hi | hi <;> omega) | (rcases he with he | he <;> omega))
  have zo_HO5 := fun (b : Nat) h => HO5.own_lt (b := b) h
  refine l_v (v_move (t := .tuple _) rfl) ?_
  refine l_v (v_extract (t := .slice _ _ _) rfl rfl) ?_
  refine l_v (v_extract (t := .int _ _) rfl rfl) ?_
  refine l_v (v_assign (t := .slice _ _ _) rfl) ?_
  refine l_v (v_assign (t := .int _ _) rfl) ?_
  refine l_nil ?_
  refine n_then ?_
  refine c_seq ?_
  refine wp_reg (by decide +kernel) ?_
  refine l_to (to_f0 (by kernel_rfl) (CallsR.mono (New_c) ?_))
  rintro _ w17 ⟨b7, m7, rfl, hm7, hb7, hn7, HB7, HT7, e17⟩
  have zs_e17 := e17.size
  have zb7 := HB7.lt
  have zm7 := HT7.lt
  have HT7 : TbI _ NoK m7 S0 := HT7
  replace E := E.trans (Ext.keep e17)
  replace HS1 := HS1.ext e17
  replace HS5 := HS5.ext e17
  obtain ⟨n2, hn2⟩ : ∃ n, n = w17.heap.size := ⟨_, rfl⟩
  have hmx := HS5.len_max
  refine l_v (v_assign (t := .pointer _) rfl) ?_
  refine l_nil ?_
  refine n_then ?_
  refine c_seq ?_
  refine c_seq ?_
  refine wp_reg (by decide +kernel) ?_
  refine l_v (v_move (t := .slice _ _ _) rfl) ?_
  refine l_v (v_len (et := 103) (by kernel_rfl) rfl) ?_
  refine l_v (v_move rfl) ?_
  refine l_nil ?_
  refine n_then ?_
  refine c_block ?_
  refine c_loop (τ := Nat × TbS) [2, 3, 9, 20, 21, 22, 23, 24, 25, 26, 27, 28, 29, 30, 31, 32, 33, 34, 35] (fun (i, S3) => [(20, .int .i64 i)]) (fun (i, S3) W => Ext w W ∧ Keep (fun i => i = m7) w17 W ∧ i ≤ ls.length ∧ TbOk S3 ∧ (∀ S, TbOk S → tbW S = l → S3 = resS S ((ksS S).take i)) ∧ TbI W (fun i => n2 ≤ i) m7 S3) (fun (i, S3) => ls.length - i) (0, S0) (by exact ⟨rfl, trivial⟩) (by exact ⟨E, Keep.refl _, Nat.zero_le _, ok_new, fun S _ _ => by rw [List.take_zero, resS_nil], HT7.mono (fun i hi h => h.elim)⟩) ?_
  rintro ⟨i, S3⟩ w101 j ⟨E, EL1, h1, hok3, hS3, HT8⟩
  have zs_EL1 := EL1.size
  replace HS1 := HS1.keep EL1 (by intro i _ hi he; (try dsimp only [NoK, AllB] at hi he); first | exact hi.elim | exact he.elim | omega | (rcases hi with hi | hi <;> omega) | (rcases he with he | he <;> omega))
  replace HS5 := HS5.keep EL1 (by intro i _ hi he; (try dsimp only [NoK, AllB] at hi he); first | exact hi.elim | exact he.elim | omega | (rcases hi with hi | hi <;> omega) | (rcases he with he | he <;> omega))
  replace HB7 := HB7.keep EL1 (by intro h; (try dsimp only at h); first | omega)
  refine c_seq ?_
  refine wp_reg (by decide +kernel) ?_
  refine l_v (v_lss rfl rfl) ?_
  refine l_nil ?_
  refine n_then ?_
  refine c_seq ?_
  refine c_cond rfl rfl (fun hlt => ?_) (fun hlt => ?_)
  · skip
    have hlt := dtrue hlt
    obtain ⟨x, hx, hdr⟩ := getE (l := ls) (i := i) (by omega)
    obtain ⟨q, cs, hq', hF, _, HPq, hr⟩ := HS5.el hx
    cases hq'
    obtain ⟨a3, c3, a4, c4, rfl, HS3, HS4, g1, g2, g3⟩ := tLn_cells hr
    have HG3 := AgV.mkAn' HS3 HS4 g3
    obtain ⟨n3, hn3⟩ : ∃ n, n = w101.heap.size := ⟨_, rfl⟩
    replace HT8 := HT8.mono (F' := fun i => n2 ≤ i ∧ i < n3) fun i hi h => ⟨h, by omega⟩
    refine c_skip ?_
    refine n_then ?_
    refine c_seq ?_
    refine c_block ?_
    refine c_seq ?_
    refine wp_reg (by decide +kernel) ?_
    refine l_v (v_indexAddr (et := 103) (sz := 5) (k := i) (by kernel_rfl) (by kernel_rfl) rfl rfl (by first | rfl | omega) (by omega)) ?_
    refine l_v (v_loadA (by kernel_rfl) rfl (by first | exact HPq | exact HB7.pv | assumption) rfl) ?_
    refine l_to (to_alloc (z := (.agg #[.int .i64 0, .int .i64 0, .int .i64 0, .slice none 0 0, .slice none 0 0])) (by unfold kZero; kernel_rfl) ?_)
    rintro b9 w9 zb9 HB9 e9 z9
    have zs_e9 := e9.size
    replace E := E.trans (Ext.keep e9)
    replace HS1 := HS1.ext e9
    replace HS5 := HS5.ext e9
    replace HB7 := HB7.ext e9
    replace HT8 := HT8.ext e9
    replace EL1 := EL1.trans (Ext.keep e9)
    replace HPq := HPq.ext e9
    replace HG3 := HG3.ext e9
    try simp only [Value.cells] at HB9
    refine l_to (to_storeA (n := 5) rfl rfl (show _ = (Value.agg _) from rfl) (by kernel_rfl) rfl (by first | (simp [slice_one]; done) | (simp only [List.forall_mem_cons, List.cons_append, List.nil_append]; repeat' (first | exact rfl | apply And.intro | (intro u hu; cases hu; done)))) HB9 (by first | exact of_decide_eq_true rfl | (simp; done) | decide | (simp only [List.length_set, hlen]; exact of_decide_eq_true rfl)) ?_)
    rintro w102 HX102 k102 z102
    have zs_k102 := k102.size
    replace E := E.step k102 (by intro i hi he; (try dsimp only [NoK] at hi he ⊢); first | exact he.elim | omega | exact he)
    replace HS1 := HS1.keep k102 (by intro i _ hi he; (try dsimp only [NoK, AllB] at hi he); first | exact hi.elim | exact he.elim | omega | (rcases hi with hi | hi <;> omega) | (rcases he with he | he <;> omega))
    replace HS5 := HS5.keep k102 (by intro i _ hi he; (try dsimp only [NoK, AllB] at hi he); first | exact hi.elim | exact he.elim | omega | (rcases hi with hi | hi <;> omega) | (rcases he with he | he <;> omega))
    replace HB7 := HB7.keep k102 (by intro h; (try dsimp only at h); first | omega)
    replace HT8 := HT8.keep k102 (by intro i _ hi he; (try dsimp only [NoK, AllB] at hi he); first | exact hi.elim | exact he.elim | omega | (rcases hi with hi | hi <;> omega) | (rcases he with he | he <;> omega))
    replace EL1 := EL1.step k102 (by intro i hi he; (try dsimp only [NoK] at hi he ⊢); first | exact he.elim | omega | exact he)
    replace HPq := HPq.keep k102 (by intro h; (try dsimp only at h); (try simp only [add_block] at h); first | omega)
    replace HG3 := HG3.keep k102 (by intro i _ hi he; (try dsimp only [NoK, AllB] at hi he); first | exact hi.elim | exact he.elim | omega | (rcases hi with hi | hi <;> omega) | (rcases he with he | he <;> omega))
    replace HB9 := HX102
    clear HX102
    try simp only [List.set_cons_zero, List.set_cons_succ, setAt, List.take_zero, List.take_succ_cons, List.drop_zero, List.drop_succ_cons, List.nil_append, List.cons_append, List.append_nil, List.length_cons, List.length_nil, Nat.zero_add, Nat.reduceAdd, List.drop_nil] at HB9
    refine l_nil ?_
    refine n_then ?_
    refine c_seq ?_
    refine wp_reg (by decide +kernel) ?_
    refine l_v (v_move (t := .pointer _) rfl) ?_
    refine l_v (v_fieldAddr (off := 0) (ft := 3) (by kernel_rfl) rfl) ?_
    refine l_v (v_load (by kernel_rfl) rfl (by first | exact HB9.pv 0 _ rfl | exact HPq 0 _ rfl | exact HB7.pv 0 _ rfl | assumption)) ?_
    refine l_v (v_fieldAddr (off := 1) (ft := 79) (by kernel_rfl) rfl) ?_
    refine l_v (v_fieldAddr (off := 0) (ft := 2) (by kernel_rfl) rfl) ?_
    refine l_v (v_load (by kernel_rfl) rfl ((pv_sub 1 4 HB9.pv) 0 _ rfl)) ?_
    refine l_v (v_fieldAddr (off := 1) (ft := 79) (by kernel_rfl) rfl) ?_
    refine l_v (v_fieldAddr (off := 1) (ft := 33) (by kernel_rfl) rfl) ?_
    refine l_v (v_loadA (by kernel_rfl) rfl (show Pv _ _ [_, _, _] from pv_sub 1 3 (pv_sub 1 4 HB9.pv)) rfl) ?_
    refine l_to (to_f4 (by kernel_rfl) (show _ = (Value.pointer _) from rfl) (show _ = (Value.int _ _) from rfl) (show _ = (Value.int _ _) from rfl) (show _ = (Value.agg _) from rfl) (CallsR.mono (put_k (n2 := n2) (r := putN S3 x.1 x.2.1 x.2.2) rfl HB7 HT8 (fun i h => h.1) (by omega) (by omega) hn7 HG3 g2) ?_))
    rintro _ w33 ⟨⟨rfl, HT9⟩, k33⟩
    have zs_k33 := k33.size
    replace E := E.step k33 (by intro i hi he; (try dsimp only [NoK] at hi he ⊢); first | exact he.elim | omega | exact he)
    replace HS1 := HS1.keep k33 (by intro i _ hi he; (try dsimp only [NoK, AllB] at hi he); first | exact hi.elim | exact he.elim | omega | (rcases hi with hi | hi <;> omega) | (rcases he with he | he <;> omega))
    replace HS5 := HS5.keep k33 (by intro i _ hi he; (try dsimp only [NoK, AllB] at hi he); first | exact hi.elim | exact he.elim | omega | (rcases hi with hi | hi <;> omega) | (rcases he with he | he <;> omega))
    replace HB7 := HB7.keep k33 (by intro h; (try dsimp only at h); first | omega)
    replace EL1 := EL1.step k33 (by intro i hi he; (try dsimp only [NoK] at hi he ⊢); first | exact he.elim | omega | exact he)
    replace HPq := HPq.keep k33 (by intro h; (try dsimp only at h); (try simp only [add_block] at h); first | omega)
    replace HG3 := HG3.keep k33 (by intro i _ hi he; (try dsimp only [NoK, AllB] at hi he); first | exact hi.elim | exact he.elim | omega | (rcases hi with hi | hi <;> omega) | (rcases he with he | he <;> omega))
    replace HB9 := HB9.keep k33 (by intro h; (try dsimp only at h); first | omega)
    have hst : ∀ S, TbOk S → tbW S = l → putN S3 x.1 x.2.1 x.2.2 = (0, resS S ((ksS S).take (i + 1))) := by
      intro S hS h
      obtain ⟨_, hl9⟩ := hls S hS h
      rw [hl9, List.getElem?_map] at hx
      obtain ⟨c, hc, hcx⟩ := Option.map_eq_some_iff.1 hx
      subst hcx
      rw [hS3 S hS h]
      exact res_step hS hc
    refine l_v (v_neq rfl rfl) ?_
    refine l_nil ?_
    refine n_then ?_
    refine c_cond rfl rfl (fun hz => ?_) (fun hz => ?_)
    · skip
      refine c_seq ?_
      refine wp_reg (by decide +kernel) ?_
      refine l_v (v_assign rfl) ?_
      refine l_v (v_assign rfl) ?_
      refine l_nil ?_
      refine n_then ?_
      refine c_ret ?_
      refine r_blk ?_
      refine r_then ?_
      refine r_then ?_
      refine r_blk ?_
      refine r_then ?_
      refine ret2v rfl (by decide) (by decide) (show _ = (Value.pointer _) from rfl) (show _ = (Value.int _ _) from rfl) ?_
      refine ⟨.inr ⟨rfl, fun S hS h => ?_⟩, E⟩
      rw [hst S hS h] at hz
      simp at hz
    · skip
      refine c_skip ?_
      refine n_blk ?_
      refine n_then ?_
      refine wp_reg (by decide +kernel) ?_
      refine l_v (v_add rfl rfl (by first | exact wr_i64 (by omega) (by omega) | rfl)) ?_
      refine l_v (v_move (t := .int _ _) rfl) ?_
      refine l_nil ?_
      refine n_then ?_
      refine ⟨(i + 1, (putN S3 x.1 x.2.1 x.2.2).2), _, rfl, by (repeat (first | exact Off.of_over _ _ _ | refine Off.upd ?_ (by decide) _ | refine Off.overs ?_ (by decide) _)), ⟨by first | rfl | exact congrArg (Value.int _) (by omega) | (simp; done), trivial⟩, ⟨E, EL1, ?_⟩, ?_⟩
      · skip
        exact ⟨by omega, putN_ok hok3, fun S hS h => by rw [hst S hS h], HT9.mono (fun i hi h => h.1)⟩
      · (dsimp only; omega)
  · skip
    have hi : i = ls.length := by have := dfalse hlt; omega
    have hfin : ∀ S, TbOk S → tbW S = l → er = 0 ∧ S3 = S := by
      intro S hS h
      obtain ⟨h7, hl9⟩ := hls S hS h
      refine ⟨h7, ?_⟩
      have := hS3 S hS h
      rw [hi, hl9, List.length_map, List.take_length, resS_all hS] at this
      exact this
    by_cases he : er = 0
    · skip
      refine c_exit ?_
      refine x_then ?_
      refine x_then ?_
      refine x_hit ?_
      refine n_then ?_
      refine c_seq ?_
      refine c_seq ?_
      refine wp_reg (by decide +kernel) ?_
      refine l_v (v_move (t := .int _ _) rfl) ?_
      refine l_v (OpVat.as (b := false) (v_neq rfl rfl) (by simp [he])) ?_
      refine l_v (v_move (t := .bool _) rfl) ?_
      refine l_gt rfl rfl (OpTo.of_v (v_move (t := .pointer _) rfl) ?_)
      refine l_gt rfl rfl (to_f1 (by kernel_rfl) (show _ = (Value.pointer _) from rfl) (CallsR.mono (TBytes_c HB7 HT8 hok3) ?_))
      rintro _ w40 ⟨⟨a40, c40, rfl, HS40⟩, e40⟩
      have zs_e40 := e40.size
      replace E := E.trans (Ext.keep e40)
      replace HS1 := HS1.ext e40
      replace HS5 := HS5.ext e40
      replace HB7 := HB7.ext e40
      replace HT8 := HT8.ext e40
      refine l_gt rfl rfl (OpTo.of_v (v_move (t := .slice _ _ _) rfl) ?_)
      refine l_gt rfl rfl (to_f2 (by kernel_rfl) (show _ = (Value.slice _ _ _) from rfl) (show _ = (Value.slice _ _ _) from rfl) (CallsR.mono (Equal_c HS40 HS1) ?_))
      rintro _ w103 ⟨rfl, e103⟩
      have zs_e103 := e103.size
      replace E := E.trans (Ext.keep e103)
      replace HS1 := HS1.ext e103
      replace HS5 := HS5.ext e103
      replace HB7 := HB7.ext e103
      replace HT8 := HT8.ext e103
      replace HS40 := HS40.ext e103
      refine l_gt rfl rfl (OpTo.of_v (v_not rfl) ?_)
      refine l_v (v_orT rfl rfl) ?_
      refine l_nil ?_
      refine n_then ?_
      refine c_cond rfl rfl (fun hq => ?_) (fun hq => ?_)
      · skip
        refine c_seq ?_
        refine wp_reg (by decide +kernel) ?_
        refine l_v (v_assign rfl) ?_
        refine l_v (v_assign rfl) ?_
        refine l_nil ?_
        refine n_then ?_
        refine c_ret ?_
        refine r_then ?_
        refine ret2v rfl (by decide) (by decide) (show _ = (Value.pointer _) from rfl) (show _ = (Value.int _ _) from rfl) ?_
        refine ⟨.inr ⟨rfl, fun S hS h => ?_⟩, E⟩
        rw [(hfin S hS h).2, h] at hq
        simp at hq
      · skip
        refine c_skip ?_
        refine n_then ?_
        refine c_seq ?_
        refine wp_reg (by decide +kernel) ?_
        refine l_v (v_move (t := .pointer _) rfl) ?_
        refine l_v (v_assign (t := .pointer _) rfl) ?_
        refine l_v (v_assign rfl) ?_
        refine l_nil ?_
        refine n_then ?_
        refine c_ret ?_
        refine ret2v rfl (by decide) (by decide) (show _ = (Value.pointer _) from rfl) (show _ = (Value.int _ _) from rfl) ?_
        refine ⟨.inl ⟨b7, m7, S3, rfl, by omega, by omega, hn7, HB7, HT8.mono (fun i hi h => by omega), hok3, ?_⟩, E⟩
        simpa using hq
    · skip
      refine c_exit ?_
      refine x_then ?_
      refine x_then ?_
      refine x_hit ?_
      refine n_then ?_
      refine c_seq ?_
      refine c_seq ?_
      refine wp_reg (by decide +kernel) ?_
      refine l_v (v_move (t := .int _ _) rfl) ?_
      refine l_v (OpVat.as (b := true) (v_neq rfl rfl) (by simp [he])) ?_
      refine l_v (v_move (t := .bool _) rfl) ?_
      refine l_skip (u := .bool true) rfl rfl rfl ?_
      refine l_skip (u := .bool true) rfl rfl rfl ?_
      refine l_skip (u := .bool true) rfl rfl rfl ?_
      refine l_skip (u := .bool true) rfl rfl rfl ?_
      refine l_skip (u := .bool true) rfl rfl rfl ?_
      refine l_v (v_orC rfl) ?_
      refine l_nil ?_
      refine n_then ?_
      refine c_cond rfl rfl (fun hq => ?_) (fun hq => ?_)
      · skip
        refine c_seq ?_
        refine wp_reg (by decide +kernel) ?_
        refine l_v (v_assign rfl) ?_
        refine l_v (v_assign rfl) ?_
        refine l_nil ?_
        refine n_then ?_
        refine c_ret ?_
        refine r_then ?_
        refine ret2v rfl (by decide) (by decide) (show _ = (Value.pointer _) from rfl) (show _ = (Value.int _ _) from rfl) ?_
        exact ⟨.inr ⟨rfl, fun S hS h => he (hfin S hS h).1⟩, E⟩
      · skip
        cases hq
end Go.Proofs.Ytlhanmlpionomaa

namespace Go.Proofs.Ytlhanmlpionomaa
open Go.Vc
set_option linter.unusedVariables false
set_option linter.unusedSimpArgs false
set_option maxRecDepth 100000

end Go.Proofs.Ytlhanmlpionomaa
