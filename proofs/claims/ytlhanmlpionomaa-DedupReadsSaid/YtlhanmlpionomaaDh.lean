/- A part of the proof: steps and lemmas for the walks through the given program. -/
import Derived.Test.YtlhanmlpionomaaDg
namespace Go.Proofs.Ytlhanmlpionomaa
open Go.Vc
set_option linter.unusedVariables false
set_option linter.unusedSimpArgs false
set_option maxRecDepth 100000

def resS (S : TbS) (ks : List Int) : TbS := fun c => if c ∈ ks then S c else none
theorem resS_nil (S : TbS) : resS S [] = S0 := by funext c; simp [resS, S0]
theorem resS_all {S : TbS} (hok : TbOk S) : resS S (ksS S) = S := by
  funext c
  unfold resS
  split
  · rfl
  · next h =>
    cases hS : S c with
    | none => rfl
    | some x => exact absurd ((ksS_mem hok).2 (by rw [hS]; rfl)) h
theorem res_step {S : TbS} (hok : TbOk S) {i : Nat} {c : Int} (hc : (ksS S)[i]? = some c) : putN (resS S ((ksS S).take i)) c (numS S c) (ansS S c) = (0, resS S ((ksS S).take (i + 1))) := by
  have hm : c ∈ ksS S := List.mem_of_getElem? hc
  have hs := (ksS_mem hok).1 hm
  obtain ⟨r1, r2⟩ := ks_rng S c hm
  obtain ⟨r3, r4⟩ := numS_rng hok c
  have h0 : 0 < numS S c := by rw [numS_some hok] at hs; exact of_decide_eq_true hs
  have hn : c ∉ (ksS S).take i := by
    intro h
    obtain ⟨j, hj⟩ := List.mem_iff_getElem?.1 h
    rw [List.getElem?_take] at hj
    split at hj
    · next hji =>
      have hnd : (ksS S).Nodup := ksP_nodup _
      have := (List.getElem?_inj (List.getElem?_eq_some_iff.1 hj).1 hnd).1 (hj.trans hc.symm)
      omega
    · cases hj
  have hz : numS (resS S ((ksS S).take i)) c = 0 := by simp [numS, resS, hn]
  rw [putN, if_pos ⟨by simp; omega, ansS_may hok c⟩, if_neg (by rw [hz]; omega)]
  refine Prod.ext rfl ?_
  funext k
  simp only [updS, resS]
  rw [List.take_add_one, hc]
  by_cases hk : k = c
  · subst hk; simp [some_eq hs]
  · simp [hk]
/-- the lines of a table that a text is -/
theorem lines_of {S : TbS} (hok : TbOk S) {l : List UInt8} (h : tbW S = l) : tryRd (rdList rdLn) 4 l = .ok ((ksS S).map (lnK S), []) := by
  have := tbW_back hok []
  rw [List.append_nil, h] at this; exact this
set_option maxHeartbeats 8000000 in
theorem TRead_c {w : World} {F : Nat → Prop} {v : Value} {l : List UInt8} (HS1 : Bv w F v l) (hl : l.length ≤ 1000000) : CallsR Try.prog 35 #[v] w (fun o w' => ((∃ b bm S, o = .tuple #[.pointer (some ⟨b, 0, none⟩), .int .i64 0] ∧ w.heap.size ≤ b ∧ w.heap.size ≤ bm ∧ b ≠ bm ∧ Blk w' b [.map (some bm)] 65 ∧ TbI w' (fun i => w.heap.size ≤ i ∧ i ≠ bm) bm S ∧ TbOk S ∧ tbW S = l) ∨ (o = .tuple #[.pointer none, .int .i64 4] ∧ ∀ S, TbOk S → tbW S ≠ l)) ∧ Ext w w') := by
  obtain ⟨a0, c0, rfl⟩ := HS1.shape
  refine enter 46 Try.func35 rfl rfl (by simp) ?_
  refine c_seq ?_
  have E := Keep.refl (K := NoK) w
  replace HS1 := HS1.all
  refine wp_reg (by decide +kernel) ?_
  refine l_v (v_assign rfl) ?_
  refine l_v (v_assign rfl) ?_
  refine l_nil ?_
  refine n_then ?_
  refine c_seq ?_
  refine wp_reg (by decide +kernel) ?_
  refine l_v (v_move (t := .slice _ _ _) rfl) ?_
  refine l_to (to_f1 (by kernel_rfl) (show _ = (Value.slice _ _ _) from rfl) (CallsR.mono (Open_c HS1 (by omega)) ?_))
  rintro _ w11 ⟨b4, rfl, HR4, hb4, e11, zb4⟩
  have zs_e11 := e11.size
  replace E := E.trans (Ext.keep e11)
  replace HS1 := HS1.ext e11
  refine l_v (v_assign (t := .pointer _) rfl) ?_
  refine l_nil ?_
  refine n_then ?_
  refine c_seq ?_
  refine wp_reg (by decide +kernel) ?_
  refine l_v (v_move (t := .pointer _) rfl) ?_
  refine l_to (to_f3 (by kernel_rfl) (show _ = (Value.pointer _) from rfl) (show _ = (Value.int _ _) from rfl) rfl (CallsR.mono (takeLn_c (cap := #[]) HR4 (fun k hk => hk.2) (by decide) (by decide) (by omega) (by kernel_rfl) rdLn rdLn_short (fun w1 c l1 e hc r hl => oneLn_c r (fun k hk => by have := hk.2; omega) (by omega))) ?_))
  rintro r w14 ⟨hr14, k14⟩
  have zs_k14 := k14.size
  obtain ⟨a5, c5, er, ls, l2, rfl, HO5, HR5, hx5⟩ := TryV_any hr14
  have HS5 := HO5.view.mono (F' := fun k => w.heap.size ≤ k ∧ k < w14.heap.size) (fun k hk h => ⟨by rcases h with h | h <;> omega, hk⟩)
  have hls : ∀ S, TbOk S → tbW S = l → er = 0 ∧ ls = (ksS S).map (lnK S) := by
    intro S hS h
    have h2 := lines_of hS h
    rcases hx5 with ⟨he, hq⟩ | ⟨_, _, _, _, _, hq⟩
    · rw [show tryRd (rdList rdLn) 4 l = _ from hq] at h2; cases h2; exact ⟨he, rfl⟩
    · rw [show tryRd (rdList rdLn) 4 l = _ from hq] at h2; cases h2
  replace E := E.step k14 (by intro i hi he; (try dsimp only [NoK] at hi he ⊢); first | exact he.elim | omega | exact he)
  replace HS1 := HS1.keep k14 (by intro i _ hi he; (try dsimp only [NoK, AllB] at hi he); first | exact hi.elim | exact he.elim | omega | (rcases hi with hi | hi <;> omega) | (rcases he with he | he <;> omega))
  have zo_HO5 := fun (b : Nat) h => HO5.own_lt (b := b) h
  refine l_v (v_move (t := .tuple _) rfl) ?_
  refine l_v (v_extract (t := .slice _ _ _) rfl rfl) ?_
  refine l_v (v_extract (t := .int _ _) rfl rfl) ?_
  refine l_v (v_assign (t := .slice _ _ _) rfl) ?_
  refine l_v (v_assign (t := .int _ _) rfl) ?_
  refine l_nil ?_
  refine n_then ?_
  refine c_seq ?_
  refine wp_reg (by decide +kernel) ?_
  refine l_to (to_f0 (by kernel_rfl) (CallsR.mono (New_c) ?_))
  rintro _ w17 ⟨b7, m7, rfl, hm7, hb7, hn7, HB7, HT7, e17⟩
  have zs_e17 := e17.size
  have zb7 := HB7.lt
  have zm7 := HT7.lt
  have HT7 : TbI _ NoK m7 S0 := HT7
  replace E := E.trans (Ext.keep e17)
  replace HS1 := HS1.ext e17
  replace HS5 := HS5.ext e17
  obtain ⟨n2, hn2⟩ : ∃ n, n = w17.heap.size := ⟨_, rfl⟩
  have hmx := HS5.len_max
  refine l_v (v_assign (t := .pointer _) rfl) ?_
  refine l_nil ?_
  refine n_then ?_
  refine c_seq ?_
  refine c_seq ?_
  refine wp_reg (by decide +kernel) ?_
  refine l_v (v_move (t := .slice _ _ _) rfl) ?_
  refine l_v (v_len (et := 103) (by kernel_rfl) rfl) ?_
  refine l_v (v_move rfl) ?_
  refine l_nil ?_
  refine n_then ?_
  refine c_block ?_
  refine c_loop (τ := Nat × TbS) [2, 3, 9, 20, 21, 22, 23, 24, 25, 26, 27, 28, 29, 30, 31, 32, 33, 34, 35] (fun (i, S3) => [(20, .int .i64 i)]) (fun (i, S3) W => Ext w W ∧ Keep (fun i => i = m7) w17 W ∧ i ≤ ls.length ∧ TbOk S3 ∧ (∀ S, TbOk S → tbW S = l → S3 = resS S ((ksS S).take i)) ∧ TbI W (fun i => n2 ≤ i) m7 S3) (fun (i, S3) => ls.length - i) (0, S0) (by exact ⟨rfl, trivial⟩) (by exact ⟨E, Keep.refl _, Nat.zero_le _, ok_new, fun S _ _ => by rw [List.take_zero, resS_nil], HT7.mono (fun i hi h => h.elim)⟩) ?_
  rintro ⟨i, S3⟩ w101 j ⟨E, EL1, h1, hok3, hS3, HT8⟩
  have zs_EL1 := EL1.size
  replace HS1 := HS1.keep EL1 (by intro i _ hi he; (try dsimp only [NoK, AllB] at hi he); first | exact hi.elim | exact he.elim | omega | (rcases hi with hi | hi <;> omega) | (rcases he with he | he <;> omega))
  replace HS5 := HS5.keep EL1 (by intro i _ hi he; (try dsimp only [NoK, AllB] at hi he); first | exact hi.elim | exact he.elim | omega | (rcases hi with hi | hi <;> omega) | (rcases he with he | he <;> omega))
  replace HB7 := HB7.keep EL1 (by intro h; (try dsimp only at h); first | omega)
  refine c_seq ?_
  refine wp_reg (by decide +kernel) ?_
  refine l_v (v_lss rfl rfl) ?_
  refine l_nil ?_
  refine n_then ?_
  refine c_seq ?_
  refine c_cond rfl rfl (fun hlt => ?_) (fun hlt => ?_)
  · skip
    have hlt := dtrue hlt
    obtain ⟨x, hx, hdr⟩ := getE (l := ls) (i := i) (by omega)
    obtain ⟨q, cs, hq', hF, _, HPq, hr⟩ := HS5.el hx
    cases hq'
    obtain ⟨a3, c3, a4, c4, rfl, HS3, HS4, g1, g2, g3⟩ := tLn_cells hr
    have HG3 := AgV.mkAn' HS3 HS4 g3
    obtain ⟨n3, hn3⟩ : ∃ n, n = w101.heap.size := ⟨_, rfl⟩
    replace HT8 := HT8.mono (F' := fun i => n2 ≤ i ∧ i < n3) fun i hi h => ⟨h, by omega⟩
    refine c_skip ?_
    refine n_then ?_
    refine c_seq ?_
    refine c_block ?_
    refine c_seq ?_
    refine wp_reg (by decide +kernel) ?_
    refine l_v (v_indexAddr (et := 103) (sz := 5) (k := i) (by kernel_rfl) (by kernel_rfl) rfl rfl (by first | rfl | omega) (by omega)) ?_
    refine l_v (v_loadA (by kernel_rfl) rfl (by first | exact HPq | exact HB7.pv | assumption) rfl) ?_
    refine l_to (to_alloc (z := (.agg #[.int .i64 0, .int .i64 0, .int .i64 0, .slice none 0 0, .slice none 0 0])) (by unfold kZero; kernel_rfl) ?_)
    rintro b9 w9 zb9 HB9 e9 z9
    have zs_e9 := e9.size
    replace E := E.trans (Ext.keep e9)
    replace HS1 := HS1.ext e9
    replace HS5 := HS5.ext e9
    replace HB7 := HB7.ext e9
    replace HT8 := HT8.ext e9
    replace EL1 := EL1.trans (Ext.keep e9)
    replace HPq := HPq.ext e9
    replace HG3 := HG3.ext e9
    try simp only [Value.cells] at HB9
    refine l_to (to_storeA (n := 5) rfl rfl (show _ = (Value.agg _) from rfl) (by kernel_rfl) rfl (by first | (simp [slice_one]; done) | (simp only [List.forall_mem_cons, List.cons_append, List.nil_append]; repeat' (first | exact rfl | apply And.intro | (intro u hu; cases hu; done)))) HB9 (by first | exact of_decide_eq_true rfl | (simp; done) | decide | (simp only [List.length_set, hlen]; exact of_decide_eq_true rfl)) ?_)
    rintro w102 HX102 k102 z102
    have zs_k102 := k102.size
    replace E := E.step k102 (by intro i hi he; (try dsimp only [NoK] at hi he ⊢); first | exact he.elim | omega | exact he)
    replace HS1 := HS1.keep k102 (by intro i _ hi he; (try dsimp only [NoK, AllB] at hi he); first | exact hi.elim | exact he.elim | omega | (rcases hi with hi | hi <;> omega) | (rcases he with he | he <;> omega))
    replace HS5 := HS5.keep k102 (by intro i _ hi he; (try dsimp only [NoK, AllB] at hi he); first | exact hi.elim | exact he.elim | omega | (rcases hi with hi | hi <;> omega) | (rcases he with he | he <;> omega))
    replace HB7 := HB7.keep k102 (by intro h; (try dsimp only at h); first | omega)
    replace HT8 := HT8.keep k102 (by intro i _ hi he; (try dsimp only [NoK, AllB] at hi he); first | exact hi.elim | exact he.elim | omega | (rcases hi with hi | hi <;> omega) | (rcases he with he | he <;> omega))
    replace EL1 := EL1.step k102 (by intro i hi he; (try dsimp only [NoK] at hi he ⊢); first | exact he.elim | omega | exact he)
    replace HPq := HPq.keep k102 (by intro h; (try dsimp only at h); (try simp only [add_block] at h); first | omega)
    replace HG3 := HG3.keep k102 (by intro i _ hi he; (try dsimp only [NoK, AllB] at hi he); first | exact hi.elim | exact he.elim | omega | (rcases hi with hi | hi <;> omega) | (rcases he with he | he <;> omega))
    replace HB9 := HX102
    clear HX102
    try simp only [List.set_cons_zero, List.set_cons_succ, setAt, List.take_zero, List.take_succ_cons, List.drop_zero, List.drop_succ_cons, List.nil_append, List.cons_append, List.append_nil, List.length_cons, List.length_nil, Nat.zero_add, Nat.reduceAdd, List.drop_nil] at HB9
    refine l_nil ?_
    refine n_then ?_
    refine c_seq ?_
    refine wp_reg (by decide +kernel) ?_
    refine l_v (v_move (t := .pointer _) rfl) ?_
    refine l_v (v_fieldAddr (off := 0) (ft := 3) (by kernel_rfl) rfl) ?_
    refine l_v (v_load (by kernel_rfl) rfl (by first | exact HB9.pv 0 _ rfl | exact HPq 0 _ rfl | exact HB7.pv 0 _ rfl | assumption)) ?_
    refine l_v (v_fieldAddr (off := 1) (ft := 79) (by kernel_rfl) rfl) ?_
    refine l_v (v_fieldAddr (off := 0) (ft := 2) (by kernel_rfl) rfl) ?_
    refine l_v (v_load (by kernel_rfl) rfl ((pv_sub 1 4 HB9.pv) 0 _ rfl)) ?_
    refine l_v (v_fieldAddr (off := 1) (ft := 79) (by kernel_rfl) rfl) ?_
    refine l_v (v_fieldAddr (off := 1) (ft := 33) (by kernel_rfl) rfl) ?_
    refine l_v (v_loadA (by kernel_rfl) rfl (show Pv _ _ [_, _, _] from pv_sub 1 3 (pv_sub 1 4 HB9.pv)) rfl) ?_
    refine l_to (to_f4 (by kernel_rfl) (show _ = (Value.pointer _) from rfl) (show _ = (Value.int _ _) from rfl) (show _ = (Value.int _ _) from rfl) (show _ = (Value.agg _) from rfl) (CallsR.mono (put_k (n2 := n2) (r := putN S3 x.1 x.2.1 x.2.2) rfl HB7 HT8 (fun i h => h.1) (by omega) (by omega) hn7 HG3 g2) ?_))
    rintro _ w33 ⟨⟨rfl, HT9⟩, k33⟩
    have zs_k33 := k33.size
    replace E := E.step k33 (by intro i hi he; (try dsimp only [NoK] at hi he ⊢); first | exact he.elim | omega | exact he)
    replace HS1 := HS1.keep k33 (by intro i _ hi he; (try dsimp only [NoK, AllB] at hi he); first | exact hi.elim | exact he.elim | omega | (rcases hi with hi | hi <;> omega) | (rcases he with he | he <;> omega))
    replace HS5 := HS5.keep k33 (by intro i _ hi he; (try dsimp only [NoK, AllB] at hi he); first | exact hi.elim | exact he.elim | omega | (rcases hi with hi | hi <;> omega) | (rcases he with he | he <;> omega))
    replace HB7 := HB7.keep k33 (by intro h; (try dsimp only at h); first | omega)
    replace EL1 := EL1.step k33 (by intro i hi he; (try dsimp only [NoK] at hi he ⊢); first | exact he.elim | omega | exact he)
    replace HPq := HPq.keep k33 (by intro h; (try dsimp only at h); (try simp only [add_block] at h); first | omega)
    replace HG3 := HG3.keep k33 (by intro i _ hi he; (try dsimp only [NoK, AllB] at hi he); first | exact hi.elim | exact he.elim | omega | (rcases hi with hi | hi <;> omega) | (rcases he with he | he <;> omega))
    replace HB9 := HB9.keep k33 (by intro h; (try dsimp only at h); first | omega)
    have hst : ∀ S, TbOk S → tbW S = l → putN S3 x.1 x.2.1 x.2.2 = (0, resS S ((ksS S).take (i + 1))) := by
      intro S hS h
      obtain ⟨_, hl9⟩ := hls S hS h
      rw [hl9, List.getElem?_map] at hx
      obtain ⟨c, hc, hcx⟩ := Option.map_eq_some_iff.1 hx
      subst hcx
      rw [hS3 S hS h]
      exact res_step hS hc
    refine l_v (v_neq rfl rfl) ?_
    refine l_nil ?_
    refine n_then ?_
    refine c_cond rfl rfl (fun hz => ?_) (fun hz => ?_)
    · skip
      refine c_seq ?_
      refine wp_reg (by decide +kernel) ?_
      refine l_v (v_assign rfl) ?_
      refine l_v (v_assign rfl) ?_
      refine l_nil ?_
      refine n_then ?_
      refine c_ret ?_
      refine r_blk ?_
      refine r_then ?_
      refine r_then ?_
      refine r_blk ?_
      refine r_then ?_
      refine ret2v rfl (by decide) (by decide) (show _ = (Value.pointer _) from rfl) (show _ = (Value.int _ _) from rfl) ?_
      refine ⟨.inr ⟨rfl, fun S hS h => ?_⟩, E⟩
      rw [hst S hS h] at hz
      simp at hz
    · skip
      refine c_skip ?_
      refine n_blk ?_
      refine n_then ?_
      refine wp_reg (by decide +kernel) ?_
      refine l_v (v_add rfl rfl (by first | exact wr_i64 (by omega) (by omega) | rfl)) ?_
      refine l_v (v_move (t := .int _ _) rfl) ?_
      refine l_nil ?_
      refine n_then ?_
      refine ⟨(i + 1, (putN S3 x.1 x.2.1 x.2.2).2), _, rfl, by (repeat (first | exact Off.of_over _ _ _ | refine Off.upd ?_ (by decide) _ | refine Off.overs ?_ (by decide) _)), ⟨by first | rfl | exact congrArg (Value.int _) (by omega) | (simp; done), trivial⟩, ⟨E, EL1, ?_⟩, ?_⟩
      · skip
        exact ⟨by omega, putN_ok hok3, fun S hS h => by rw [hst S hS h], HT9.mono (fun i hi h => h.1)⟩
      · (dsimp only; omega)
  · skip
    have hi : i = ls.length := by have := dfalse hlt; omega
    have hfin : ∀ S, TbOk S → tbW S = l → er = 0 ∧ S3 = S := by
      intro S hS h
      obtain ⟨h7, hl9⟩ := hls S hS h
      refine ⟨h7, ?_⟩
      have := hS3 S hS h
      rw [hi, hl9, List.length_map, List.take_length, resS_all hS] at this
      exact this
    by_cases he : er = 0
    · skip
      refine c_exit ?_
      refine x_then ?_
      refine x_then ?_
      refine x_hit ?_
      refine n_then ?_
      refine c_seq ?_
      refine c_seq ?_
      refine wp_reg (by decide +kernel) ?_
      refine l_v (v_move (t := .int _ _) rfl) ?_
      refine l_v (OpVat.as (b := false) (v_neq rfl rfl) (by simp [he])) ?_
      refine l_v (v_move (t := .bool _) rfl) ?_
      refine l_gt rfl rfl (OpTo.of_v (v_move (t := .pointer _) rfl) ?_)
      refine l_gt rfl rfl (to_f1 (by kernel_rfl) (show _ = (Value.pointer _) from rfl) (CallsR.mono (TBytes_c HB7 HT8 hok3) ?_))
      rintro _ w40 ⟨⟨a40, c40, rfl, HS40⟩, e40⟩
      have zs_e40 := e40.size
      replace E := E.trans (Ext.keep e40)
      replace HS1 := HS1.ext e40
      replace HS5 := HS5.ext e40
      replace HB7 := HB7.ext e40
      replace HT8 := HT8.ext e40
      refine l_gt rfl rfl (OpTo.of_v (v_move (t := .slice _ _ _) rfl) ?_)
      refine l_gt rfl rfl (to_f2 (by kernel_rfl) (show _ = (Value.slice _ _ _) from rfl) (show _ = (Value.slice _ _ _) from rfl) (CallsR.mono (Equal_c HS40 HS1) ?_))
      rintro _ w103 ⟨rfl, e103⟩
      have zs_e103 := e103.size
      replace E := E.trans (Ext.keep e103)
      replace HS1 := HS1.ext e103
      replace HS5 := HS5.ext e103
      replace HB7 := HB7.ext e103
      replace HT8 := HT8.ext e103
      replace HS40 := HS40.ext e103
      refine l_gt rfl rfl (OpTo.of_v (v_not rfl) ?_)
      refine l_v (v_orT rfl rfl) ?_
      refine l_nil ?_
      refine n_then ?_
      refine c_cond rfl rfl (fun hq => ?_) (fun hq => ?_)
      · skip
        refine c_seq ?_
        refine wp_reg (by decide +kernel) ?_
        refine l_v (v_assign rfl) ?_
        refine l_v (v_assign rfl) ?_
        refine l_nil ?_
        refine n_then ?_
        refine c_ret ?_
        refine r_then ?_
        refine ret2v rfl (by decide) (by decide) (show _ = (Value.pointer _) from rfl) (show _ = (Value.int _ _) from rfl) ?_
        refine ⟨.inr ⟨rfl, fun S hS h => ?_⟩, E⟩
        rw [(hfin S hS h).2, h] at hq
        simp at hq
      · skip
        refine c_skip ?_
        refine n_then ?_
        refine c_seq ?_
        refine wp_reg (by decide +kernel) ?_
        refine l_v (v_move (t := .pointer _) rfl) ?_
        refine l_v (v_assign (t := .pointer _) rfl) ?_
        refine l_v (v_assign rfl) ?_
        refine l_nil ?_
        refine n_then ?_
        refine c_ret ?_
        refine ret2v rfl (by decide) (by decide) (show _ = (Value.pointer _) from rfl) (show _ = (Value.int _ _) from rfl) ?_
        refine ⟨.inl ⟨b7, m7, S3, rfl, by omega, by omega, hn7, HB7, HT8.mono (fun i hi h => by omega), hok3, ?_⟩, E⟩
        simpa using hq
    · skip
      refine c_exit ?_
      refine x_then ?_
      refine x_then ?_
      refine x_hit ?_
      refine n_then ?_
      refine c_seq ?_
      refine c_seq ?_
      refine wp_reg (by decide +kernel) ?_
      refine l_v (v_move (t := .int _ _) rfl) ?_
      refine l_v (OpVat.as (b := true) (v_neq rfl rfl) (by simp [he])) ?_
      refine l_v (v_move (t := .bool _) rfl) ?_
      refine l_skip (u := .bool true) rfl rfl rfl ?_
      refine l_skip (u := .bool true) rfl rfl rfl ?_
      refine l_skip (u := .bool true) rfl rfl rfl ?_
      refine l_skip (u := .bool true) rfl rfl rfl ?_
      refine l_skip (u := .bool true) rfl rfl rfl ?_
      refine l_v (v_orC rfl) ?_
      refine l_nil ?_
      refine n_then ?_
      refine c_cond rfl rfl (fun hq => ?_) (fun hq => ?_)
      · skip
        refine c_seq ?_
        refine wp_reg (by decide +kernel) ?_
        refine l_v (v_assign rfl) ?_
        refine l_v (v_assign rfl) ?_
        refine l_nil ?_
        refine n_then ?_
        refine c_ret ?_
        refine r_then ?_
        refine ret2v rfl (by decide) (by decide) (show _ = (Value.pointer _) from rfl) (show _ = (Value.int _ _) from rfl) ?_
        exact ⟨.inr ⟨rfl, fun S hS h => he (hfin S hS h).1⟩, E⟩
      · skip
        cases hq
end Go.Proofs.Ytlhanmlpionomaa

namespace Go.Proofs.Ytlhanmlpionomaa
open Go.Vc
set_option linter.unusedVariables false
set_option linter.unusedSimpArgs false
set_option maxRecDepth 100000

def smR (most : Nat) (l : List UInt8) : Int := match rdNum l with
  | none => -1
  | some (n, _) => if most < n then -1 else n
theorem smR_rng (most : Nat) (l : List UInt8) : -1 ≤ smR most l ∧ smR most l ≤ most := by
  unfold smR
  split
  · omega
  · split <;> omega
theorem smR_at {n : Nat} {r : List UInt8} {most : Nat} (h : n ≤ most) (hm : most < 18446744073709551616) : smR most (wNum n ++ r) = n ∧ rest (wNum n ++ r) = r := by
  have := rdNum_wNum (n := n) (by omega) r
  constructor
  · rw [smR, this]; simp only []; rw [if_neg (by omega)]
  · rw [rest, this]
theorem refSmall_c {w : World} {b most : Nat} {F : Nat → Prop} {l : List UInt8} (HR : Rf w b F l) (hF : ¬ F b) (hm : most ≤ 9223372036854775807) : CallsR Try.prog 62 #[.pointer (some ⟨b, 0, none⟩), .int .u64 most] w (fun r w' => r = .int .i64 (smR most l) ∧ Rf w' b F (rest l) ∧ Keep (fun k => k = b) w w') := by
  refine enter 21 Try.func62 rfl rfl (by simp) ?_
  refine c_seq ?_
  have E := Keep.refl (K := fun k => k = b) w
  refine wp_reg (by decide +kernel) ?_
  refine l_v (v_assign rfl) ?_
  refine l_nil ?_
  refine n_then ?_
  refine c_seq ?_
  refine wp_reg (by decide +kernel) ?_
  refine l_v (v_move (t := .pointer _) rfl) ?_
  refine l_to (to_f1 (by kernel_rfl) (show _ = (Value.pointer _) from rfl) (CallsR.mono (refRNumber_c HR hF) ?_))
  rintro r w9 ⟨hr9, HR9, k9⟩
  have zs_k9 := k9.size
  obtain ⟨n1, f1, hn1, hb1, hx1⟩ := numV_any l
  rw [hn1] at hr9
  subst hr9
  replace E := E.step k9 (by intro i hi he; (try dsimp only [NoK] at hi he ⊢); first | exact he.elim | omega | exact he)
  refine l_v (v_move (t := .tuple _) rfl) ?_
  refine l_v (v_extract (t := .int _ _) rfl rfl) ?_
  refine l_v (v_extract (t := .int _ _) rfl rfl) ?_
  refine l_v (v_assign (t := .int _ _) rfl) ?_
  refine l_v (v_assign (t := .int _ _) rfl) ?_
  refine l_nil ?_
  refine n_then ?_
  refine c_seq ?_
  refine c_seq ?_
  refine wp_reg (by decide +kernel) ?_
  refine l_v (v_move (t := .int _ _) rfl) ?_
  refine l_v (v_neq rfl rfl) ?_
  refine l_v (v_move (t := .bool _) rfl) ?_
  refine l_g1 rfl rfl (fun hG => v_move (t := .int _ _) rfl) ?_
  refine l_g1 rfl rfl (fun hG => v_move (t := .int _ _) rfl) ?_
  refine l_g1 rfl rfl (fun hG => v_gtr (gd hG rfl) (gd hG rfl)) ?_
  refine l_v (v_or rfl rfl) ?_
  refine l_nil ?_
  refine n_then ?_
  refine c_cond rfl rfl (fun hc => ?_) (fun hc => ?_)
  · skip
    refine c_seq ?_
    refine wp_reg (by decide +kernel) ?_
    refine l_v (v_assign rfl) ?_
    refine l_nil ?_
    refine n_then ?_
    refine c_ret ?_
    refine r_then ?_
    refine ret1v rfl (by decide) (show _ = (Value.int _ _) from rfl) ?_
    refine ⟨?_, HR9, E⟩
    rcases hx1 with ⟨z1, _, d1⟩ | ⟨z1, _, _, d1⟩
    · subst z1
      simp only [Bool.or_eq_true, decide_eq_true_eq, Bool.not_eq_true', decide_eq_false_iff_not, ne_eq, not_true_eq_false, false_or] at hc
      rw [smR, d1]; simp only []; rw [if_pos (by omega)]
    · rw [smR, d1]
  · skip
    simp only [Bool.or_eq_false_iff, decide_eq_false_iff_not, Bool.not_eq_false', decide_eq_true_eq, ne_eq, Decidable.not_not] at hc
    refine c_skip ?_
    refine n_then ?_
    refine c_seq ?_
    refine wp_reg (by decide +kernel) ?_
    refine l_v (v_move (t := .int _ _) rfl) ?_
    refine l_v (v_conv (ds := .int .u64) (by kernel_rfl) (by kernel_rfl) rfl (by first | exact wr_i64 (by omega) (by omega) | rfl)) ?_
    refine l_v (v_assign (t := .int _ _) rfl) ?_
    refine l_nil ?_
    refine n_then ?_
    refine c_ret ?_
    refine ret1v rfl (by decide) (show _ = (Value.int _ _) from rfl) ?_
    refine ⟨?_, HR9, E⟩
    rcases hx1 with ⟨z1, _, d1⟩ | ⟨z1, _, _, d1⟩
    · rw [smR, d1]; simp only []; rw [if_neg (by omega)]
    · omega
/-- where a reader of a table's text stands -/
def posL (S : TbS) (i : Nat) : List UInt8 := (((ksS S).drop i).map fun c => spLn (lnK S c)).flatten
theorem posL_zero (S : TbS) : tbW S = wNum (ksS S).length ++ posL S 0 := by rw [tbW_eq, posL, List.drop_zero, ks_cnt]
theorem posL_step {S : TbS} {i : Nat} (h : i < (ksS S).length) : ∃ c, (ksS S)[i]? = some c ∧ posL S i = spLn (lnK S c) ++ posL S (i + 1) := by
  refine ⟨(ksS S)[i], List.getElem?_eq_getElem h, ?_⟩
  rw [posL, List.drop_eq_getElem_cons h, posL, List.map_cons, List.flatten_cons]
theorem posL_end {S : TbS} {i : Nat} (h : (ksS S).length ≤ i) : posL S i = [] := by
  rw [posL, List.drop_eq_nil_of_le h]; rfl
def posP (x : LnV) (j : Nat) (t : List UInt8) : List UInt8 := ((x.2.2.2.1.drop j).map spPr).flatten ++ wBytes x.2.2.2.2 ++ t
theorem posP_zero {x : LnV} (hx : okLn x) (t : List UInt8) : smR 4 (spLn x ++ t) = x.1 ∧ smR 2147483647 (rest (spLn x ++ t)) = x.2.1 ∧ smR 13 (rest (rest (spLn x ++ t))) = x.2.2.1 ∧ smR 32 (rest (rest (rest (spLn x ++ t)))) = x.2.2.2.1.length ∧ rest (rest (rest (rest (spLn x ++ t)))) = posP x 0 t := by
  obtain ⟨c, n, e, ps, nx⟩ := x
  obtain ⟨⟨h1, h2⟩, ⟨h3, h4⟩, ⟨h5, h6⟩, h7, h8, h9⟩ := hx
  simp only at h1 h2 h3 h4 h5 h6 h7 h8 h9
  obtain ⟨c, rfl⟩ := Int.eq_ofNat_of_zero_le h1
  obtain ⟨n, rfl⟩ := Int.eq_ofNat_of_zero_le h3
  obtain ⟨e, rfl⟩ := Int.eq_ofNat_of_zero_le h5
  simp only [spLn, posP, wList, List.append_assoc, Int.toNat_natCast, List.drop_zero]
  have a1 := smR_at (n := c) (r := wNum n ++ (wNum e ++ (wNum ps.length ++ ((ps.map spPr).flatten ++ (wBytes nx ++ t))))) (most := 4) (by omega) (by decide)
  have a2 := smR_at (n := n) (r := wNum e ++ (wNum ps.length ++ ((ps.map spPr).flatten ++ (wBytes nx ++ t)))) (most := 2147483647) (by omega) (by decide)
  have a3 := smR_at (n := e) (r := wNum ps.length ++ ((ps.map spPr).flatten ++ (wBytes nx ++ t))) (most := 13) (by omega) (by decide)
  have a4 := smR_at (n := ps.length) (r := (ps.map spPr).flatten ++ (wBytes nx ++ t)) (most := 32) (by omega) (by decide)
  rw [a1.2, a2.2, a3.2]
  exact ⟨a1.1, a2.1, a3.1, a4.1, a4.2⟩
theorem posP_step {x : LnV} (hx : okLn x) {j : Nat} {p : PrV} (hp : x.2.2.2.1[j]? = some p) (t : List UInt8) : rdBytes 24 (posP x j t) = .ok (p.1, wBytes p.2 ++ posP x (j + 1) t) ∧ rdBytes 40 (wBytes p.2 ++ posP x (j + 1) t) = .ok (p.2, posP x (j + 1) t) := by
  have hlt := (List.getElem?_eq_some_iff.1 hp).1
  have hpe := (List.getElem?_eq_some_iff.1 hp).2
  obtain ⟨k1, k2⟩ := hx.2.2.2.2.2 p (List.mem_of_getElem? hp)
  refine ⟨?_, rdBytes_wB k2 (by decide)⟩
  have : posP x j t = wBytes p.1 ++ (wBytes p.2 ++ posP x (j + 1) t) := by
    rw [posP, List.drop_eq_getElem_cons hlt, hpe, posP]; simp [spPr]
  rw [this]
  exact rdBytes_wB k1 (by decide)
theorem posP_end {x : LnV} (hx : okLn x) {j : Nat} (hj : x.2.2.2.1.length ≤ j) (t : List UInt8) : rdBytes 25 (posP x j t) = .ok (x.2.2.2.2, t) := by
  have : posP x j t = wBytes x.2.2.2.2 ++ t := by rw [posP, List.drop_eq_nil_of_le hj]; simp
  rw [this]
  exact rdBytes_wB hx.2.2.2.2.1 (by decide)
end Go.Proofs.Ytlhanmlpionomaa
