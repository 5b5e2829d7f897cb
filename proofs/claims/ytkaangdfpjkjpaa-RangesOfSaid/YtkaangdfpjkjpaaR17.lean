/- A part of the proof: steps and lemmas for the walks through the given program. -/
import Derived.Test.YtkaangdfpjkjpaaGt
namespace Go.Proofs.Ytkaangdfpjkjpaa
open Go.Vc
set_option linter.unusedVariables false
set_option linter.unusedSimpArgs false
set_option maxRecDepth 100000

theorem refFind_c {w : World} {F G : Nat → Prop} {v kv : Value} {e : Int} {rs : List RgV} {k : List UInt8} (HG1 : AgV tMp w F v (e, rs)) (HS2 : Bv w G kv k) : CallsR Try.prog 25 #[v, kv] w (fun o w' => o = .int .i64 (optI (findO (e, rs) (hasB k))) ∧ Ext w w') := by
  obtain ⟨a, c, rfl, HSr, he⟩ := HG1.mp
  obtain ⟨a3, c3, rfl⟩ := HS2.shape
  simp only at HSr he
  have hmx := HSr.len_max
  refine enter 25 Try.func25 rfl rfl (by simp) ?_
  refine c_seq ?_
  have E := Keep.refl (K := NoK) w
  replace HG1 := HG1.all
  replace HS2 := HS2.all
  replace HSr := HSr.all
  refine wp_reg (by decide +kernel) ?_
  refine l_to (to_box (show _ = (Value.agg _) from rfl) ?_)
  rintro b101 w101 zb101 HB101 e101 z101
  have zs_e101 := e101.size
  replace E := E.trans (Ext.keep e101)
  replace HG1 := HG1.ext e101
  replace HS2 := HS2.ext e101
  replace HSr := HSr.ext e101
  try simp only [Value.cells] at HB101
  refine l_v (v_assign rfl) ?_
  refine l_nil ?_
  refine n_then ?_
  refine c_seq ?_
  refine c_seq ?_
  refine wp_reg (by decide +kernel) ?_
  refine l_v (v_assign rfl) ?_
  refine l_nil ?_
  refine n_then ?_
  refine c_block ?_
  refine c_loop (τ := Nat) [4, 5, 6, 7, 8, 9, 10, 11, 12, 13, 14, 15, 16, 17, 18, 19, 20, 21, 22, 23, 24] (fun i => [(5, .int .i64 i)]) (fun i W => Ext w W ∧ Keep (NoK) w101 W ∧ i ≤ rs.length ∧ (mayM (e, rs) = true → findO (e, rs) (hasB k) = ((rs.drop i).findIdx? (hasB k)).map (fun j => j + i))) (fun i => rs.length - i) 0 (by exact ⟨rfl, trivial⟩) (by exact ⟨E, Keep.refl _, Nat.zero_le _, fun hm => by rw [findO, if_pos hm, List.drop_zero]; simp⟩) ?_
  rintro i w102 j ⟨E, EL1, h1, h2⟩
  have zs_EL1 := EL1.size
  replace HG1 := HG1.ext EL1
  replace HS2 := HS2.ext EL1
  replace HSr := HSr.ext EL1
  replace HB101 := HB101.ext EL1
  refine c_seq ?_
  refine c_seq ?_
  refine wp_reg (by decide +kernel) ?_
  refine l_v (v_move (t := .int _ _) rfl) ?_
  refine l_v (v_fieldAddr (off := 1) (ft := 22) (by kernel_rfl) rfl) ?_
  refine l_v (v_load (by kernel_rfl) rfl (by first | exact HB101.pv 1 _ rfl | assumption)) ?_
  refine l_v (v_len (et := 37) (by kernel_rfl) rfl) ?_
  refine l_v (v_lss rfl rfl) ?_
  refine l_v (v_move (t := .bool _) rfl) ?_
  refine l_g1 rfl rfl (fun hG => v_loadA (by kernel_rfl) rfl (by first | exact HB101.pv | assumption) rfl) ?_
  refine l_g1f rfl rfl (fun hG => to_f1 (by kernel_rfl) (gd hG rfl) (refMay_c HG1)) ?_
  rintro w103 e103
  have zs_e103 := e103.size
  replace E := E.trans (Ext.keep e103)
  replace HG1 := HG1.ext e103
  replace HS2 := HS2.ext e103
  replace HSr := HSr.ext e103
  replace HB101 := HB101.ext e103
  replace EL1 := EL1.trans (Ext.keep e103)
  refine l_v (v_and rfl rfl) ?_
  refine l_nil ?_
  refine n_then ?_
  refine c_cond rfl rfl (fun hlt => ?_) (fun hlt => ?_)
  · skip
    have hlt2 : i < rs.length ∧ mayM (e, rs) = true := by simpa only [Bool.and_eq_true, decide_eq_true_eq, Int.ofNat_lt] using hlt
    obtain ⟨r, hx, hdr⟩ := getE (l := rs) (i := i) (by omega)
    refine c_skip ?_
    refine n_then ?_
    refine c_seq ?_
    refine c_block ?_
    refine c_seq ?_
    refine wp_reg (by decide +kernel) ?_
    refine l_v (v_fieldAddr (off := 1) (ft := 22) (by kernel_rfl) rfl) ?_
    refine l_v (v_load (by kernel_rfl) rfl (by first | exact HB101.pv 1 _ rfl | assumption)) ?_
    refine l_v (v_move (t := .int _ _) rfl) ?_
    refine l_to (to_index (et := 37) (by kernel_rfl) (by kernel_rfl) (show _ = (Value.slice _ _ _) from rfl) HSr (show _ = (Value.int _ _) from rfl) rfl hx ?_)
    rintro q cs hF HPq hr
    have HG3 : AgV tRg _ _ _ r := ⟨cs, rfl, hr⟩
    obtain ⟨b3, d3, b5, d5, rfl, _, _, hg⟩ := tRg_cells hr
    refine l_v (v_loadA (by kernel_rfl) rfl (by first | exact HPq | exact HB101.pv | assumption) rfl) ?_
    refine l_v (v_move (t := .slice _ _ _) rfl) ?_
    refine l_to (to_f2 (by kernel_rfl) (show _ = (Value.agg _) from rfl) (show _ = (Value.slice _ _ _) from rfl) (CallsR.mono (refHas_c HG3 HS2) ?_))
    rintro _ w104 ⟨rfl, e104⟩
    have zs_e104 := e104.size
    replace E := E.trans (Ext.keep e104)
    replace HG1 := HG1.ext e104
    replace HS2 := HS2.ext e104
    replace HSr := HSr.ext e104
    replace HB101 := HB101.ext e104
    replace EL1 := EL1.trans (Ext.keep e104)
    replace HPq := HPq.ext e104
    replace HG3 := HG3.ext e104
    refine l_nil ?_
    refine n_then ?_
    refine c_cond rfl rfl (fun hh => ?_) (fun hh => ?_)
    · skip
      refine c_seq ?_
      refine wp_reg (by decide +kernel) ?_
      refine l_v (v_move (t := .int _ _) rfl) ?_
      refine l_v (v_assign (t := .int _ _) rfl) ?_
      refine l_nil ?_
      refine n_then ?_
      refine c_ret ?_
      refine r_blk ?_
      refine r_then ?_
      refine r_then ?_
      refine r_blk ?_
      refine r_then ?_
      refine ret1v rfl (by decide) (show _ = (Value.int _ _) from rfl) ?_
      refine ⟨?_, E⟩
      rw [h2 hlt2.2, hdr, List.findIdx?_cons, if_pos (show hasB k r = true from hh)]; simp [optI]
    · skip
      refine c_skip ?_
      refine n_blk ?_
      refine n_then ?_
      refine wp_reg (by decide +kernel) ?_
      refine l_v (v_move (t := .int _ _) rfl) ?_
      refine l_v (v_add rfl rfl (by first | exact wr_i64 (by omega) (by omega) | rfl)) ?_
      refine l_v (v_assign (t := .int _ _) rfl) ?_
      refine l_nil ?_
      refine n_then ?_
      refine ⟨i + 1, _, rfl, by (repeat (first | exact Off.of_over _ _ _ | refine Off.upd ?_ (by decide) _)), ⟨by first | rfl | exact congrArg (Value.int _) (by omega) | (simp; done), trivial⟩, ⟨E, EL1, ?_⟩, ?_⟩
      · skip
        refine ⟨by omega, fun hm => ?_⟩
        rw [h2 hm, hdr, List.findIdx?_cons, if_neg (by rw [show hasB k r = false from hh]; simp), Option.map_map]
        congr 1
        funext j
        show j + 1 + i = j + (i + 1)
        omega
      · (dsimp only; omega)
  · skip
    refine c_exit ?_
    refine x_then ?_
    refine x_then ?_
    refine x_hit ?_
    refine n_then ?_
    refine c_seq ?_
    refine wp_reg (by decide +kernel) ?_
    refine l_v (v_assign rfl) ?_
    refine l_nil ?_
    refine n_then ?_
    refine c_ret ?_
    refine ret1v rfl (by decide) (show _ = (Value.int _ _) from rfl) ?_
    refine ⟨?_, E⟩
    by_cases hm : mayM (e, rs) = true
    · have h3 : ¬ i < rs.length := by rw [hm, Bool.and_true] at hlt; have := dfalse hlt; omega
      rw [h2 hm, List.drop_eq_nil_of_le (by omega)]; rfl
    · rw [findO, if_neg hm]; rfl
theorem RangesFind_c {w : World} {F G : Nat → Prop} {v kv : Value} {e : Int} {rs : List RgV} {k : List UInt8} (HG1 : AgV tMp w F v (e, rs)) (HS2 : Bv w G kv k) : CallsR Try.prog 5 #[v, kv] w (fun o w' => o = .bool true ∧ Ext w w') := by
  obtain ⟨a, c, rfl, HSr, he⟩ := HG1.mp
  obtain ⟨a3, c3, rfl⟩ := HS2.shape
  simp only at HSr he
  refine enter 52 Try.func5 rfl rfl (by simp) ?_
  refine c_seq ?_
  have E := Keep.refl (K := NoK) w
  replace HG1 := HG1.all
  replace HS2 := HS2.all
  replace HSr := HSr.all
  refine wp_reg (by decide +kernel) ?_
  refine l_to (to_box (show _ = (Value.agg _) from rfl) ?_)
  rintro b2 w2 zb2 HB2 e2 z2
  have zs_e2 := e2.size
  replace E := E.trans (Ext.keep e2)
  replace HG1 := HG1.ext e2
  replace HS2 := HS2.ext e2
  replace HSr := HSr.ext e2
  try simp only [Value.cells] at HB2
  refine l_v (v_assign rfl) ?_
  refine l_nil ?_
  refine n_then ?_
  refine c_seq ?_
  refine c_seq ?_
  refine wp_reg (by decide +kernel) ?_
  refine l_v (v_loadA (by kernel_rfl) rfl (by first | exact HB2.pv | assumption) rfl) ?_
  refine l_to (to_f1 (by kernel_rfl) (show _ = (Value.agg _) from rfl) (CallsR.mono (much_c HG1) ?_))
  rintro _ w101 ⟨rfl, e101⟩
  have zs_e101 := e101.size
  replace E := E.trans (Ext.keep e101)
  replace HG1 := HG1.ext e101
  replace HS2 := HS2.ext e101
  replace HSr := HSr.ext e101
  replace HB2 := HB2.ext e101
  refine l_v (v_move (t := .bool _) rfl) ?_
  refine l_g1 rfl rfl (fun hG => v_move (t := .slice _ _ _) rfl) ?_
  refine l_g1 rfl rfl (fun hG => v_len (et := 5) (by kernel_rfl) (gd hG rfl)) ?_
  refine l_g1 rfl rfl (fun hG => v_gtr (gd hG rfl) rfl) ?_
  refine l_v (v_or rfl rfl) ?_
  refine l_nil ?_
  refine n_then ?_
  refine c_cond rfl rfl (fun hc => ?_) (fun hc => ?_)
  · skip
    refine c_seq ?_
    refine wp_reg (by decide +kernel) ?_
    refine l_to (to_f0 (by kernel_rfl) (CallsR.mono (known_c) ?_))
    rintro _ w102 ⟨rfl, e102⟩
    have zs_e102 := e102.size
    replace E := E.trans (Ext.keep e102)
    replace HG1 := HG1.ext e102
    replace HS2 := HS2.ext e102
    replace HSr := HSr.ext e102
    replace HB2 := HB2.ext e102
    refine l_v (v_assign (t := .bool _) rfl) ?_
    refine l_nil ?_
    refine n_then ?_
    refine c_ret ?_
    refine r_then ?_
    refine ret1v rfl (by decide) (show _ = (Value.bool _) from rfl) ?_
    exact ⟨rfl, E⟩
  · skip
    refine c_skip ?_
    refine n_then ?_
    refine c_seq ?_
    refine wp_reg (by decide +kernel) ?_
    refine l_v (v_loadA (by kernel_rfl) rfl (by first | exact HB2.pv | assumption) rfl) ?_
    refine l_v (v_move (t := .slice _ _ _) rfl) ?_
    refine l_to (to_f2 (by kernel_rfl) (show _ = (Value.agg _) from rfl) (show _ = (Value.slice _ _ _) from rfl) (CallsR.mono (Find_c HG1 HS2) ?_))
    rintro _ w5 ⟨⟨x, rfl, HG5⟩, e5⟩
    have zs_e5 := e5.size
    replace HG5 := HG5.all
    obtain ⟨a6, c6, a7, c7, rfl, HS6, HS7, hg6⟩ := HG5.rg
    replace E := E.trans (Ext.keep e5)
    replace HG1 := HG1.ext e5
    replace HS2 := HS2.ext e5
    replace HSr := HSr.ext e5
    replace HB2 := HB2.ext e5
    refine l_v (v_move (t := .tuple _) rfl) ?_
    refine l_v (v_extract (t := .agg _) rfl rfl) ?_
    refine l_v (v_extract (t := .int _ _) rfl rfl) ?_
    refine l_to (to_alloc (z := (.agg #[.slice none 0 0, .slice none 0 0, .bool false, .int .i64 0])) (by unfold kZero; kernel_rfl) ?_)
    rintro b6 w6 zb6 HB6 e6 z6
    have zs_e6 := e6.size
    replace E := E.trans (Ext.keep e6)
    replace HG1 := HG1.ext e6
    replace HS2 := HS2.ext e6
    replace HSr := HSr.ext e6
    replace HB2 := HB2.ext e6
    replace HG5 := HG5.ext e6
    try simp only [Value.cells] at HB6
    refine l_to (to_storeA (n := 4) rfl rfl (show _ = (Value.agg _) from rfl) (by kernel_rfl) rfl (by first | (simp [slice_one]; done) | (simp only [List.forall_mem_cons, List.cons_append, List.nil_append]; repeat' (first | exact rfl | apply And.intro | (intro u hu; cases hu; done)))) HB6 (by first | exact of_decide_eq_true rfl | (simp; done) | decide) ?_)
    rintro w103 HX103 k103 z103
    have zs_k103 := k103.size
    replace E := E.step k103 (by intro i hi he; (try dsimp only [NoK] at hi he ⊢); first | exact he.elim | omega | exact he)
    replace HG1 := HG1.keep k103 (by intro i _ hi he; (try dsimp only [NoK, AllB] at hi he); first | exact hi.elim | exact he.elim | omega | (rcases hi with hi | hi <;> omega) | (rcases he with he | he <;> omega))
    replace HS2 := HS2.keep k103 (by intro i _ hi he; (try dsimp only [NoK, AllB] at hi he); first | exact hi.elim | exact he.elim | omega | (rcases hi with hi | hi <;> omega) | (rcases he with he | he <;> omega))
    replace HSr := HSr.keep k103 (by intro i _ hi he; (try dsimp only [NoK, AllB] at hi he); first | exact hi.elim | exact he.elim | omega | (rcases hi with hi | hi <;> omega) | (rcases he with he | he <;> omega))
    replace HB2 := HB2.keep k103 (by intro h; (try dsimp only at h); first | omega)
    replace HG5 := HG5.keep k103 (by intro i _ hi he; (try dsimp only [NoK, AllB] at hi he); first | exact hi.elim | exact he.elim | omega | (rcases hi with hi | hi <;> omega) | (rcases he with he | he <;> omega))
    replace HB6 := HX103
    clear HX103
    try simp only [List.set_cons_zero, List.set_cons_succ, setAt, List.take_zero, List.take_succ_cons, List.drop_zero, List.drop_succ_cons, List.nil_append, List.cons_append, List.append_nil, List.length_cons, List.length_nil, Nat.zero_add, Nat.reduceAdd, List.drop_nil] at HB6
    refine l_v (v_assign (t := .int _ _) rfl) ?_
    refine l_nil ?_
    refine n_then ?_
    refine c_seq ?_
    refine wp_reg (by decide +kernel) ?_
    refine l_v (v_loadA (by kernel_rfl) rfl (by first | exact HB6.pv | exact HB2.pv | assumption) rfl) ?_
    refine l_v (v_move (t := .slice _ _ _) rfl) ?_
    refine l_to (to_f2 (by kernel_rfl) (show _ = (Value.agg _) from rfl) (show _ = (Value.slice _ _ _) from rfl) (CallsR.mono (refFind_c HG1 HS2) ?_))
    rintro _ w104 ⟨rfl, e104⟩
    have zs_e104 := e104.size
    replace E := E.trans (Ext.keep e104)
    replace HG1 := HG1.ext e104
    replace HS2 := HS2.ext e104
    replace HSr := HSr.ext e104
    replace HB2 := HB2.ext e104
    replace HG5 := HG5.ext e104
    replace HB6 := HB6.ext e104
    refine l_v (v_assign (t := .int _ _) rfl) ?_
    refine l_nil ?_
    refine n_then ?_
    refine c_seq ?_
    refine c_seq ?_
    refine wp_reg (by decide +kernel) ?_
    refine l_v (v_move (t := .int _ _) rfl) ?_
    refine l_v (v_lss rfl rfl) ?_
    refine l_nil ?_
    refine n_then ?_
    refine c_cond rfl rfl (fun hn => ?_) (fun hn => ?_)
    · skip
      refine c_seq ?_
      refine wp_reg (by decide +kernel) ?_
      refine l_v (v_loadA (by kernel_rfl) rfl (by first | exact HB6.pv | exact HB2.pv | assumption) rfl) ?_
      refine l_v (v_build (pl := [(0, 1), (1, 1), (2, 1), (3, 1)]) (z := .agg #[.slice none 0 0, .slice none 0 0, .bool false, .int .i64 0]) (zl := [.slice none 0 0, .slice none 0 0, .bool false, .int .i64 0]) (by kernel_rfl) (by unfold kZero; kernel_rfl) rfl rfl (cells := [_, _, _, _]) rfl) ?_
      refine l_to (to_f2 (by kernel_rfl) (show _ = (Value.agg _) from rfl) (show _ = (Value.agg _) from rfl) (CallsR.mono (SameRange_c HG5 (AgV.mkRg (x := []) (y := []) (SlV.nil tU8 _ AllB) (SlV.nil tU8 _ AllB) (by decide))) ?_))
      rintro _ w105 ⟨rfl, e105⟩
      have zs_e105 := e105.size
      replace E := E.trans (Ext.keep e105)
      replace HG1 := HG1.ext e105
      replace HS2 := HS2.ext e105
      replace HSr := HSr.ext e105
      replace HB2 := HB2.ext e105
      replace HG5 := HG5.ext e105
      replace HB6 := HB6.ext e105
      refine l_v (v_move (t := .bool _) rfl) ?_
      refine l_g1 rfl rfl (fun hG => v_move (t := .int _ _) rfl) ?_
      refine l_g1 rfl rfl (fun hG => v_eql (gd hG rfl) rfl) ?_
      refine l_v (v_and rfl rfl) ?_
      refine l_v (v_move (t := .bool _) rfl) ?_
      refine l_g1f rfl rfl (fun hG => to_f0 (by kernel_rfl) (known_c)) ?_
      rintro w106 e106
      have zs_e106 := e106.size
      replace E := E.trans (Ext.keep e106)
      replace HG1 := HG1.ext e106
      replace HS2 := HS2.ext e106
      replace HSr := HSr.ext e106
      replace HB2 := HB2.ext e106
      replace HG5 := HG5.ext e106
      replace HB6 := HB6.ext e106
      refine l_v (v_and rfl rfl) ?_
      refine l_v (v_assign (t := .bool _) rfl) ?_
      refine l_nil ?_
      refine n_then ?_
      refine c_ret ?_
      refine r_then ?_
      refine ret1v rfl (by decide) (show _ = (Value.bool _) from rfl) ?_
      refine ⟨?_, E⟩
      have h := optI_neg.1 (dtrue hn)
      rw [h]; rfl
    · skip
      obtain ⟨i, hi⟩ : ∃ i, findO (e, rs) (hasB k) = some i := by
        cases h : findO (e, rs) (hasB k) with
        | none => rw [h] at hn; simp [optI] at hn
        | some i => exact ⟨i, rfl⟩
      obtain ⟨_, hlt, _⟩ := findO_at hi
      simp only at hlt
      obtain ⟨q, cs, hq, hF, _, HPq, hr⟩ := HSr.el (getD_at hlt)
      subst hq
      have HG7 : AgV tRg _ _ _ (rs.getD i rg0) := ⟨cs, rfl, hr⟩
      obtain ⟨b5, d5, b7, d7, rfl, _, _, hg7⟩ := tRg_cells hr
      refine c_skip ?_
      refine n_then ?_
      refine c_seq ?_
      refine wp_regd (NoK) (by kernel_rfl) (by decide +kernel) (by decide +kernel) ?_
      refine rt_v (fun vals w hR hd => v_move (t := .int _ _) rfl) ?_
      refine rt_v (fun vals w hR hd => v_move (t := .int _ _) rfl) ?_
      refine rt_v (fun vals w hR hd => v_eql (hd 0 rfl) (hd 1 rfl)) ?_
      refine rt_v (fun vals w hR hd => v_move (t := .bool _) (hd 2 rfl)) ?_
      refine rt_g1 rfl (fun vals w hd => hd 3 rfl) (fun vals w hR hd hG => v_loadA (by kernel_rfl) rfl (by first | exact (HPq.ext hR) | exact (HB6.ext hR).pv | exact (HB2.ext hR).pv | assumption) rfl) ?_
      refine rt_g1 rfl (fun vals w hd => hd 3 rfl) (fun vals w hR hd hG => v_fieldAddr (off := 1) (ft := 22) (by kernel_rfl) rfl) ?_
      refine rt_g1 rfl (fun vals w hd => hd 3 rfl) (fun vals w hR hd hG => v_load (by kernel_rfl) (gd hG (hd 5 rfl)) (by first | exact (HPq.ext hR) 1 _ rfl | exact (HB6.ext hR).pv 1 _ rfl | exact (HB2.ext hR).pv 1 _ rfl | assumption)) ?_
      refine rt_g1 rfl (fun vals w hd => hd 3 rfl) (fun vals w hR hd hG => v_move (t := .int _ _) rfl) ?_
      refine rt_g1 rfl (fun vals w hd => hd 3 rfl) (fun vals w hR hd hG => v_indexAddr (et := 37) (sz := 4) (k := i) (by kernel_rfl) (by kernel_rfl) (gd hG (hd 6 rfl)) (gd hG (hd 7 rfl)) (by rw [hi]; rfl) (hlt)) ?_
      refine rt_g1 rfl (fun vals w hd => hd 3 rfl) (fun vals w hR hd hG => v_loadA (by kernel_rfl) (gd hG (hd 8 rfl)) (by first | exact (HPq.ext hR) | exact (HB6.ext hR).pv | exact (HB2.ext hR).pv | assumption) rfl) ?_
      refine rt_g1f rfl (fun vals w hd => hd 3 rfl) (fun vals w hR hd hG => to_f2 (by kernel_rfl) (gd hG (hd 4 rfl)) (gd hG (hd 9 rfl)) (SameRange_c (HG5.ext hR) (HG7.ext hR))) ?_
      refine rt_v (fun vals w hR hd => v_and (hd 3 rfl) (hd 10 rfl)) ?_
      refine rt_v (fun vals w hR hd => v_move (t := .bool _) (hd 11 rfl)) ?_
      refine rt_g1f rfl (fun vals w hd => hd 12 rfl) (fun vals w hR hd hG => to_f0 (by kernel_rfl) (known_c)) ?_
      refine rt_v (fun vals w hR hd => v_and (hd 12 rfl) (hd 13 rfl)) ?_
      refine rt_v (fun vals w hR hd => v_assign (t := .bool _) (hd 14 rfl)) ?_
      refine rt_nil (fun w107 e107 => ?_)
      rintro _ rfl _ rfl _ rfl _ rfl _ rfl _ rfl _ rfl _ rfl _ rfl _ rfl _ rfl _ rfl _ rfl _ rfl _ rfl _ rfl
      have zs_e107 := e107.size
      replace E := E.trans (Ext.keep e107)
      replace HG1 := HG1.ext e107
      replace HS2 := HS2.ext e107
      replace HSr := HSr.ext e107
      replace HB2 := HB2.ext e107
      replace HG5 := HG5.ext e107
      replace HB6 := HB6.ext e107
      replace HPq := HPq.ext e107
      replace HG7 := HG7.ext e107
      refine fin_nil ?_
      refine n_then ?_
      refine c_ret ?_
      refine ret1v rfl (by decide) (show _ = (Value.bool _) from rfl) ?_
      refine ⟨?_, E⟩
      have e1 : rgAt rs (some i) = rs.getD i rg0 := rfl
      rw [hi, e1, sameR_iff.2 rfl]; simp
end Go.Proofs.Ytkaangdfpjkjpaa
