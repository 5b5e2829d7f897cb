/- A part of the proof: steps and lemmas for the walks through the given program. -/
import Derived.Test.YtlhanmlpionomaaD33
namespace Go.Proofs.Ytlhanmlpionomaa
open Go.Vc
set_option linter.unusedVariables false
set_option linter.unusedSimpArgs false
set_option maxRecDepth 100000

theorem TRead_y {w : World} {F : Nat → Prop} {v : Value} {l : List UInt8} {S : TbS} (hS : TbOk S) (h : tbW S = l) (HS1 : Bv w F v l) (hl : l.length ≤ 1000000) : CallsR Try.prog 35 #[v] w (fun o w' => (∃ b bm, o = .tuple #[.pointer (some ⟨b, 0, none⟩), .int .i64 0] ∧ w.heap.size ≤ b ∧ w.heap.size ≤ bm ∧ b ≠ bm ∧ Blk w' b [.map (some bm)] 65 ∧ TbI w' (fun i => w.heap.size ≤ i ∧ i ≠ bm) bm S) ∧ Ext w w') := by
  refine CallsR.mono (TRead_c HS1 hl) fun o w' h1 => ⟨?_, h1.2⟩
  rcases h1.1 with ⟨b, bm, S', g1, g2, g3, g4, g5, g6, g7, g8⟩ | ⟨_, g⟩
  · obtain rfl : S' = S := (tbW_inj g7 hS).1 (g8.trans h.symm)
    exact ⟨b, bm, g1, g2, g3, g4, g5, g6⟩
  · exact absurd h (g S hS)
theorem TRead_n {w : World} {F : Nat → Prop} {v : Value} {l : List UInt8} (hn : ¬ ∃ S, TbOk S ∧ tbW S = l) (HS1 : Bv w F v l) (hl : l.length ≤ 1000000) : CallsR Try.prog 35 #[v] w (fun o w' => o = .tuple #[.pointer none, .int .i64 4] ∧ Ext w w') := by
  refine CallsR.mono (TRead_c HS1 hl) fun o w' h1 => ⟨?_, h1.2⟩
  rcases h1.1 with ⟨b, bm, S', g1, g2, g3, g4, g5, g6, g7, g8⟩ | ⟨g, _⟩
  · exact absurd ⟨S', g7, g8⟩ hn
  · exact g
theorem refTRead_y {w : World} {F : Nat → Prop} {v : Value} {l : List UInt8} {S : TbS} (hS : TbOk S) (h : tbW S = l) (HS1 : Bv w F v l) (hl : l.length ≤ 1000000) : CallsR Try.prog 36 #[v] w (fun o w' => (∃ b cells, o = .tuple #[.pointer (some ⟨b, 0, none⟩), .int .i64 0] ∧ w.heap.size ≤ b ∧ Blk w' b cells 48 ∧ RfC w' (fun i => w.heap.size ≤ i ∧ i ≠ b) cells S) ∧ Ext w w') := by
  refine CallsR.mono (refTRead_c HS1 hl) fun o w' h1 => ⟨?_, h1.2⟩
  rcases h1.1 with ⟨b, cells, S', g1, g2, g5, g6, g7, g8⟩ | ⟨_, g⟩
  · obtain rfl : S' = S := (tbW_inj g7 hS).1 (g8.trans h.symm)
    exact ⟨b, cells, g1, g2, g5, g6⟩
  · exact absurd h (g S hS)
theorem refTRead_n {w : World} {F : Nat → Prop} {v : Value} {l : List UInt8} (hn : ¬ ∃ S, TbOk S ∧ tbW S = l) (HS1 : Bv w F v l) (hl : l.length ≤ 1000000) : CallsR Try.prog 36 #[v] w (fun o w' => o = .tuple #[.pointer none, .int .i64 4] ∧ Ext w w') := by
  refine CallsR.mono (refTRead_c HS1 hl) fun o w' h1 => ⟨?_, h1.2⟩
  rcases h1.1 with ⟨b, cells, S', g1, g2, g5, g6, g7, g8⟩ | ⟨g, _⟩
  · exact absurd ⟨S', g7, g8⟩ hn
  · exact g
set_option maxHeartbeats 4000000 in
theorem DedupReads_y {w : World} {F : Nat → Prop} {v : Value} {l : List UInt8} {S : TbS} (hS : TbOk S) (h : tbW S = l) (HS1 : Bv w F v l) : CallsR Try.prog 8 #[v] w (fun o w' => o = .bool true ∧ Ext w w') := by
  obtain ⟨a0, c0, rfl⟩ := HS1.shape
  refine enter 50 Try.func8 rfl rfl (by simp) ?_
  refine c_seq ?_
  have E := Keep.refl (K := NoK) w
  replace HS1 := HS1.all
  refine wp_reg (by decide +kernel) ?_
  refine l_v (v_assign rfl) ?_
  refine l_nil ?_
  refine n_then ?_
  refine c_seq ?_
  refine c_seq ?_
  refine wp_reg (by decide +kernel) ?_
  refine l_v (v_move (t := .slice _ _ _) rfl) ?_
  refine l_v (v_len (et := 5) (by kernel_rfl) rfl) ?_
  refine l_v (v_gtr rfl rfl) ?_
  refine l_nil ?_
  refine n_then ?_
  refine c_cond rfl rfl (fun hl => ?_) (fun hl => ?_)
  · skip
    refine c_seq ?_
    refine wp_reg (by decide +kernel) ?_
    refine l_to (to_f0 (by kernel_rfl) (CallsR.mono (known_c) ?_))
    rintro _ w101 ⟨rfl, e101⟩
    have zs_e101 := e101.size
    replace E := E.trans (Ext.keep e101)
    replace HS1 := HS1.ext e101
    refine l_v (v_assign (t := .bool _) rfl) ?_
    refine l_nil ?_
    refine n_then ?_
    refine c_ret ?_
    refine r_then ?_
    refine ret1v rfl (by decide) (show _ = (Value.bool _) from rfl) ?_
    exact ⟨rfl, E⟩
  · skip
    have hl := dfalse hl
    refine c_skip ?_
    refine n_then ?_
    refine c_seq ?_
    refine wp_reg (by decide +kernel) ?_
    refine l_v (v_move (t := .slice _ _ _) rfl) ?_
    refine l_to (to_f1 (by kernel_rfl) (show _ = (Value.slice _ _ _) from rfl) (CallsR.mono (TRead_y hS h HS1 (by omega)) ?_))
    rintro _ w13 ⟨⟨b, bm, rfl, hb, hbm, hn, HB5, HT5⟩, e13⟩
    have zs_e13 := e13.size
    replace E := E.trans (Ext.keep e13)
    replace HS1 := HS1.ext e13
    have zb5 := HB5.lt
    have zm5 := HT5.lt
    refine l_v (v_move (t := .tuple _) rfl) ?_
    refine l_v (v_extract (t := .pointer _) rfl rfl) ?_
    refine l_v (v_extract (t := .int _ _) rfl rfl) ?_
    refine l_v (v_assign (t := .pointer _) rfl) ?_
    refine l_v (v_assign (t := .int _ _) rfl) ?_
    refine l_nil ?_
    refine n_then ?_
    refine c_seq ?_
    refine wp_reg (by decide +kernel) ?_
    refine l_v (v_move (t := .slice _ _ _) rfl) ?_
    refine l_to (to_f1 (by kernel_rfl) (show _ = (Value.slice _ _ _) from rfl) (CallsR.mono (refTRead_y hS h HS1 (by omega)) ?_))
    rintro _ w18 ⟨⟨br, cells, rfl, hbr, HB6, HT6⟩, e18⟩
    have zs_e18 := e18.size
    replace E := E.trans (Ext.keep e18)
    replace HS1 := HS1.ext e18
    replace HB5 := HB5.ext e18
    replace HT5 := HT5.ext e18
    have zb6 := HB6.lt
    replace HT5 := HT5.mono (F' := fun i => i < w18.heap.size) fun i hi h => hi
    replace HT6 := HT6.mono (F' := fun i => i < w18.heap.size) fun i hi h => hi
    refine l_v (v_move (t := .tuple _) rfl) ?_
    refine l_v (v_extract (t := .pointer _) rfl rfl) ?_
    refine l_v (v_extract (t := .int _ _) rfl rfl) ?_
    refine l_v (v_assign (t := .pointer _) rfl) ?_
    refine l_v (v_assign (t := .int _ _) rfl) ?_
    refine l_nil ?_
    refine n_then ?_
    refine c_seq ?_
    refine c_seq ?_
    refine wp_reg (by decide +kernel) ?_
    refine l_v (v_move (t := .int _ _) rfl) ?_
    refine l_to (to_f1 (by kernel_rfl) (show _ = (Value.int _ _) from rfl) (CallsR.mono (num_c) ?_))
    rintro _ w102 ⟨rfl, e102⟩
    have zs_e102 := e102.size
    replace E := E.trans (Ext.keep e102)
    replace HS1 := HS1.ext e102
    replace HB5 := HB5.ext e102
    replace HT5 := HT5.ext e102
    replace HB6 := HB6.ext e102
    replace HT6 := HT6.ext e102
    refine l_v (v_move (t := .int _ _) rfl) ?_
    refine l_v (v_neq rfl rfl) ?_
    refine l_v (v_move (t := .bool _) rfl) ?_
    refine l_g1 rfl rfl (fun hG => v_move (t := .pointer _) rfl) ?_
    refine l_g1 rfl rfl (fun hG => v_pneq (et := 65) (by kernel_rfl) (gd hG rfl) rfl) ?_
    refine l_g1 rfl rfl (fun hG => v_move (t := .pointer _) rfl) ?_
    refine l_g1 rfl rfl (fun hG => v_pneq (et := 48) (by kernel_rfl) (gd hG rfl) rfl) ?_
    refine l_g1 rfl rfl (fun hG => v_bneq (by kernel_rfl) (gd hG rfl) (gd hG rfl)) ?_
    refine l_v (v_or rfl rfl) ?_
    refine l_nil ?_
    refine n_then ?_
    refine c_cond rfl rfl (fun hq => ?_) (fun hq => ?_)
    · skip
      simp at hq
    · skip
      refine c_skip ?_
      refine n_then ?_
      refine c_seq ?_
      refine wp_regd (NoK) (by kernel_rfl) (by decide +kernel) (by decide +kernel) ?_
      refine rt_v (fun vals w hR hd => v_move (t := .pointer _) rfl) ?_
      refine rt_v (fun vals w hR hd => OpVat.as (b := false) (v_peql (et := 48) (by kernel_rfl) (hd 0 rfl) rfl) rfl) ?_
      refine rt_v (fun vals w hR hd => v_move (t := .bool _) (hd 1 rfl)) ?_
      refine rt_hv rfl (fun vals w hd => hd 2 rfl) (fun vals w hR hd => v_move (t := .pointer _) rfl) ?_
      refine rt_hto (fun v W => Bv W AllB v (tbW S)) (fun v w w' h k => h.ext k) rfl (fun vals w hd => hd 2 rfl) (fun vals w hR hd => to_f1 (by kernel_rfl) (hd 3 rfl) (CallsR.mono (TBytes_c (HB5.ext hR) (HT5.ext hR) hS) fun v w1 ⟨⟨_, _, _, h⟩, e⟩ => ⟨e, h.allB⟩)) ?_
      refine rt_hv rfl (fun vals w hd => hd 2 rfl) (fun vals w hR hd => v_b2s (et := 5) (by kernel_rfl) (by kernel_rfl) (by kernel_rfl) rfl (hd 4 rfl)) ?_
      refine rt_hv rfl (fun vals w hd => hd 2 rfl) (fun vals w hR hd => v_move (t := .slice _ _ _) rfl) ?_
      refine rt_hv rfl (fun vals w hd => hd 2 rfl) (fun vals w hR hd => v_b2s (et := 5) (by kernel_rfl) (by kernel_rfl) (by kernel_rfl) (hd 6 rfl) (by first | exact (HS1.ext hR) | assumption)) ?_
      refine rt_hv rfl (fun vals w hd => hd 2 rfl) (fun vals w hR hd => OpVat.as (b := true) (v_seq (hd 5 rfl) (hd 7 rfl)) (by simp [h])) ?_
      refine rt_hv rfl (fun vals w hd => hd 2 rfl) (fun vals w hR hd => v_move (t := .bool _) (hd 8 rfl)) ?_
      refine rt_hv rfl (fun vals w hd => hd 9 rfl) (fun vals w hR hd => v_move (t := .pointer _) rfl) ?_
      refine rt_hv rfl (fun vals w hd => hd 9 rfl) (fun vals w hR hd => v_move (t := .pointer _) rfl) ?_
      refine rt_hvf rfl (fun vals w hd => hd 9 rfl) (fun vals w hR hd => to_f3 (by kernel_rfl) (hd 10 rfl) (hd 11 rfl) (show _ = (Value.int _ _) from rfl) (once_g (LastOk.made hS (HB5.ext hR) (HT5.ext hR) (by have := hR.size; omega) (by have := hR.size; omega) (fun i _ h h2 => by have := hR.size; omega)) hS (HB6.ext hR) (HT6.ext hR))) ?_
      refine rt_hv rfl (fun vals w hd => hd 2 rfl) (fun vals w hR hd => v_andT (hd 9 rfl) (hd 12 rfl)) ?_
      refine rt_v (fun vals w hR hd => v_orT (hd 2 rfl) (hd 13 rfl)) ?_
      refine rt_v (fun vals w hR hd => v_move (t := .bool _) (hd 14 rfl)) ?_
      refine rt_hvf rfl (fun vals w hd => hd 15 rfl) (fun vals w hR hd => to_f0 (by kernel_rfl) (known_c)) ?_
      refine rt_v (fun vals w hR hd => v_andT (hd 15 rfl) (hd 16 rfl)) ?_
      refine rt_v (fun vals w hR hd => v_assign (t := .bool _) (hd 17 rfl)) ?_
      refine rt_nil (fun w103 e103 => ?_)
      rintro _ rfl _ rfl _ rfl _ rfl v36 HS36 _ rfl _ rfl _ rfl _ rfl _ rfl _ rfl _ rfl _ rfl _ rfl _ rfl _ rfl _ rfl _ rfl _ rfl
      have zs_e103 := e103.size
      replace E := E.trans (Ext.keep e103)
      replace HS1 := HS1.ext e103
      replace HB5 := HB5.ext e103
      replace HT5 := HT5.ext e103
      replace HB6 := HB6.ext e103
      replace HT6 := HT6.ext e103
      refine fin_nil ?_
      refine n_then ?_
      refine c_ret ?_
      refine ret1v rfl (by decide) (show _ = (Value.bool _) from rfl) ?_
      exact ⟨rfl, E⟩
theorem DedupReads_n {w : World} {F : Nat → Prop} {v : Value} {l : List UInt8} (hn : ¬ ∃ S, TbOk S ∧ tbW S = l) (HS1 : Bv w F v l) : CallsR Try.prog 8 #[v] w (fun o w' => o = .bool true ∧ Ext w w') := by
  obtain ⟨a0, c0, rfl⟩ := HS1.shape
  refine enter 50 Try.func8 rfl rfl (by simp) ?_
  refine c_seq ?_
  have E := Keep.refl (K := NoK) w
  replace HS1 := HS1.all
  refine wp_reg (by decide +kernel) ?_
  refine l_v (v_assign rfl) ?_
  refine l_nil ?_
  refine n_then ?_
  refine c_seq ?_
  refine c_seq ?_
  refine wp_reg (by decide +kernel) ?_
  refine l_v (v_move (t := .slice _ _ _) rfl) ?_
  refine l_v (v_len (et := 5) (by kernel_rfl) rfl) ?_
  refine l_v (v_gtr rfl rfl) ?_
  refine l_nil ?_
  refine n_then ?_
  refine c_cond rfl rfl (fun hl => ?_) (fun hl => ?_)
  · skip
    refine c_seq ?_
    refine wp_reg (by decide +kernel) ?_
    refine l_to (to_f0 (by kernel_rfl) (CallsR.mono (known_c) ?_))
    rintro _ w101 ⟨rfl, e101⟩
    have zs_e101 := e101.size
    replace E := E.trans (Ext.keep e101)
    replace HS1 := HS1.ext e101
    refine l_v (v_assign (t := .bool _) rfl) ?_
    refine l_nil ?_
    refine n_then ?_
    refine c_ret ?_
    refine r_then ?_
    refine ret1v rfl (by decide) (show _ = (Value.bool _) from rfl) ?_
    exact ⟨rfl, E⟩
  · skip
    have hl := dfalse hl
    refine c_skip ?_
    refine n_then ?_
    refine c_seq ?_
    refine wp_reg (by decide +kernel) ?_
    refine l_v (v_move (t := .slice _ _ _) rfl) ?_
    refine l_to (to_f1 (by kernel_rfl) (show _ = (Value.slice _ _ _) from rfl) (CallsR.mono (TRead_n hn HS1 (by omega)) ?_))
    rintro _ w13 ⟨rfl, e13⟩
    have zs_e13 := e13.size
    replace E := E.trans (Ext.keep e13)
    replace HS1 := HS1.ext e13
    refine l_v (v_move (t := .tuple _) rfl) ?_
    refine l_v (v_extract (t := .pointer _) rfl rfl) ?_
    refine l_v (v_extract (t := .int _ _) rfl rfl) ?_
    refine l_v (v_assign (t := .pointer _) rfl) ?_
    refine l_v (v_assign (t := .int _ _) rfl) ?_
    refine l_nil ?_
    refine n_then ?_
    refine c_seq ?_
    refine wp_reg (by decide +kernel) ?_
    refine l_v (v_move (t := .slice _ _ _) rfl) ?_
    refine l_to (to_f1 (by kernel_rfl) (show _ = (Value.slice _ _ _) from rfl) (CallsR.mono (refTRead_n hn HS1 (by omega)) ?_))
    rintro _ w18 ⟨rfl, e18⟩
    have zs_e18 := e18.size
    replace E := E.trans (Ext.keep e18)
    replace HS1 := HS1.ext e18
    refine l_v (v_move (t := .tuple _) rfl) ?_
    refine l_v (v_extract (t := .pointer _) rfl rfl) ?_
    refine l_v (v_extract (t := .int _ _) rfl rfl) ?_
    refine l_v (v_assign (t := .pointer _) rfl) ?_
    refine l_v (v_assign (t := .int _ _) rfl) ?_
    refine l_nil ?_
    refine n_then ?_
    refine c_seq ?_
    refine c_seq ?_
    refine wp_reg (by decide +kernel) ?_
    refine l_v (v_move (t := .int _ _) rfl) ?_
    refine l_to (to_f1 (by kernel_rfl) (show _ = (Value.int _ _) from rfl) (CallsR.mono (num_c) ?_))
    rintro _ w102 ⟨rfl, e102⟩
    have zs_e102 := e102.size
    replace E := E.trans (Ext.keep e102)
    replace HS1 := HS1.ext e102
    refine l_v (v_move (t := .int _ _) rfl) ?_
    refine l_v (v_neq rfl rfl) ?_
    refine l_v (v_move (t := .bool _) rfl) ?_
    refine l_g1 rfl rfl (fun hG => v_move (t := .pointer _) rfl) ?_
    refine l_g1 rfl rfl (fun hG => v_pneq (et := 65) (by kernel_rfl) (gd hG rfl) rfl) ?_
    refine l_g1 rfl rfl (fun hG => v_move (t := .pointer _) rfl) ?_
    refine l_g1 rfl rfl (fun hG => v_pneq (et := 48) (by kernel_rfl) (gd hG rfl) rfl) ?_
    refine l_g1 rfl rfl (fun hG => v_bneq (by kernel_rfl) (gd hG rfl) (gd hG rfl)) ?_
    refine l_v (v_or rfl rfl) ?_
    refine l_nil ?_
    refine n_then ?_
    refine c_cond rfl rfl (fun hq => ?_) (fun hq => ?_)
    · skip
      simp at hq
    · skip
      refine c_skip ?_
      refine n_then ?_
      refine c_seq ?_
      refine wp_regd (NoK) (by kernel_rfl) (by decide +kernel) (by decide +kernel) ?_
      refine rt_v (fun vals w hR hd => v_move (t := .pointer _) rfl) ?_
      refine rt_v (fun vals w hR hd => OpVat.as (b := true) (v_peql (et := 48) (by kernel_rfl) (hd 0 rfl) rfl) rfl) ?_
      refine rt_v (fun vals w hR hd => v_move (t := .bool _) (hd 1 rfl)) ?_
      refine rt_skip (u := .bool true) rfl (fun vals w hd => hd 2 rfl) rfl ?_
      refine rt_skip (u := .bool true) rfl (fun vals w hd => hd 2 rfl) rfl ?_
      refine rt_skip (u := .bool true) rfl (fun vals w hd => hd 2 rfl) rfl ?_
      refine rt_skip (u := .bool true) rfl (fun vals w hd => hd 2 rfl) rfl ?_
      refine rt_skip (u := .bool true) rfl (fun vals w hd => hd 2 rfl) rfl ?_
      refine rt_skip (u := .bool true) rfl (fun vals w hd => hd 2 rfl) rfl ?_
      refine rt_skip (u := .bool true) rfl (fun vals w hd => hd 2 rfl) rfl ?_
      refine rt_skip (u := undef) rfl (fun vals w hd => hd 9 rfl) rfl ?_
      refine rt_skip (u := undef) rfl (fun vals w hd => hd 9 rfl) rfl ?_
      refine rt_skip (u := undef) rfl (fun vals w hd => hd 9 rfl) rfl ?_
      refine rt_skip (u := .bool true) rfl (fun vals w hd => hd 2 rfl) rfl ?_
      refine rt_v (fun vals w hR hd => v_orC (hd 2 rfl)) ?_
      refine rt_v (fun vals w hR hd => v_move (t := .bool _) (hd 14 rfl)) ?_
      refine rt_hvf rfl (fun vals w hd => hd 15 rfl) (fun vals w hR hd => to_f0 (by kernel_rfl) (known_c)) ?_
      refine rt_v (fun vals w hR hd => v_andT (hd 15 rfl) (hd 16 rfl)) ?_
      refine rt_v (fun vals w hR hd => v_assign (t := .bool _) (hd 17 rfl)) ?_
      refine rt_nil (fun w103 e103 => ?_)
      rintro _ rfl _ rfl _ rfl _ rfl _ rfl _ rfl _ rfl _ rfl _ rfl _ rfl _ rfl _ rfl _ rfl _ rfl _ rfl _ rfl _ rfl _ rfl _ rfl
      have zs_e103 := e103.size
      replace E := E.trans (Ext.keep e103)
      replace HS1 := HS1.ext e103
      refine fin_nil ?_
      refine n_then ?_
      refine c_ret ?_
      refine ret1v rfl (by decide) (show _ = (Value.bool _) from rfl) ?_
      exact ⟨rfl, E⟩
theorem DedupReads_c {w : World} {F : Nat → Prop} {v : Value} {l : List UInt8} (HS1 : Bv w F v l) : CallsR Try.prog 8 #[v] w (fun o w' => o = .bool true ∧ Ext w w') := by
  by_cases hx : ∃ S, TbOk S ∧ tbW S = l
  · obtain ⟨S, hS, h⟩ := hx
    exact DedupReads_y hS h HS1
  · exact DedupReads_n hx HS1
end Go.Proofs.Ytlhanmlpionomaa
