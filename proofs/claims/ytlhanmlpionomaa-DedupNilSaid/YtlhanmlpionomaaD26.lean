/- A part of the proof: steps and lemmas for the walks through the given program. -/
import Derived.Test.YtlhanmlpionomaaD25
namespace Go.Proofs.Ytlhanmlpionomaa
open Go.Vc
set_option linter.unusedVariables false
set_option linter.unusedSimpArgs false
set_option maxRecDepth 100000

theorem IsT.lastOk {o : Option Addr} {n0 : Nat} {w : World} (h : IsT o false n0 w) (hn : n0 ≤ w.heap.size) : LastOk o S0 (fun i => w.heap.size ≤ i) w := fun W c k => by
  have := Last_nil (c := c) (h W (k.mono fun i hi h => by omega))
  exact this
theorem IsT.up {o : Option Addr} {is : Bool} {n0 : Nat} {w0 : World} (h : IsT o is n0 w0) {n1 : Nat} (hn : n0 ≤ n1) : IsT o is n1 w0 := fun W k => h W (k.mono fun i hi h => by omega)
set_option maxHeartbeats 8000000 in
theorem nothing_c {w : World} {o : Option Addr} (h : IsT o false w.heap.size w) : CallsR Try.prog 30 #[.pointer o] w (fun r w' => r = .bool true ∧ Ext w w') := by
  refine enter 74 Try.func30 rfl rfl (by simp) ?_
  refine c_seq ?_
  have E := Keep.refl (K := NoK) w
  refine wp_reg (by decide +kernel) ?_
  refine l_v (v_assign rfl) ?_
  refine l_nil ?_
  refine n_then ?_
  refine c_seq ?_
  refine wp_reg (by decide +kernel) ?_
  refine l_v (v_move (t := .pointer _) rfl) ?_
  refine l_to (to_f3 (by kernel_rfl) (show _ = (Value.pointer _) from rfl) (show _ = (Value.int _ _) from rfl) (show _ = (Value.int _ _) from rfl) (CallsR.mono (nLook_c (h.ext E)) ?_))
  rintro _ w10 ⟨rfl, e10⟩
  have zs_e10 := e10.size
  replace E := E.trans (Ext.keep e10)
  refine l_v (v_move (t := .tuple _) rfl) ?_
  refine l_v (v_extract (t := .agg _) rfl rfl) ?_
  refine l_v (v_extract (t := .int _ _) rfl rfl) ?_
  refine l_v (v_extract (t := .int _ _) rfl rfl) ?_
  refine l_to (to_alloc (z := (.agg #[.int .i64 0, .slice none 0 0, .slice none 0 0])) (by unfold kZero; kernel_rfl) ?_)
  rintro b3 w3 zb3 HB3 e3 z3
  have zs_e3 := e3.size
  replace E := E.trans (Ext.keep e3)
  try simp only [Value.cells] at HB3
  refine l_to (to_storeA (n := 3) rfl rfl (show _ = (Value.agg _) from rfl) (by kernel_rfl) rfl (by first | (simp [slice_one]; done) | (simp only [List.forall_mem_cons, List.cons_append, List.nil_append]; repeat' (first | exact rfl | apply And.intro | (intro u hu; cases hu; done)))) HB3 (by first | exact of_decide_eq_true rfl | (simp; done) | decide | (simp only [List.length_set, hlen]; exact of_decide_eq_true rfl)) ?_)
  rintro w101 HX101 k101 z101
  have zs_k101 := k101.size
  replace E := E.step k101 (by intro i hi he; (try dsimp only [NoK] at hi he ⊢); first | exact he.elim | omega | exact he)
  replace HB3 := HX101
  clear HX101
  try simp only [List.set_cons_zero, List.set_cons_succ, setAt, List.take_zero, List.take_succ_cons, List.drop_zero, List.drop_succ_cons, List.nil_append, List.cons_append, List.append_nil, List.length_cons, List.length_nil, Nat.zero_add, Nat.reduceAdd, List.drop_nil] at HB3
  refine l_v (v_assign (t := .int _ _) rfl) ?_
  refine l_v (v_assign (t := .int _ _) rfl) ?_
  refine l_nil ?_
  refine n_then ?_
  refine c_seq ?_
  refine wp_reg (by decide +kernel) ?_
  refine l_v (v_move (t := .pointer _) rfl) ?_
  refine l_to (to_f2 (by kernel_rfl) (show _ = (Value.pointer _) from rfl) (show _ = (Value.int _ _) from rfl) (CallsR.mono ((Last_nil (h.at E))) ?_))
  rintro _ w16 ⟨rfl, e16⟩
  have zs_e16 := e16.size
  replace E := E.trans (Ext.keep e16)
  replace HB3 := HB3.ext e16
  refine l_v (v_move (t := .tuple _) rfl) ?_
  refine l_v (v_extract (t := .int _ _) rfl rfl) ?_
  refine l_v (v_extract (t := .bool _) rfl rfl) ?_
  refine l_v (v_assign (t := .int _ _) rfl) ?_
  refine l_v (v_assign (t := .bool _) rfl) ?_
  refine l_nil ?_
  refine n_then ?_
  refine c_seq ?_
  refine wp_reg (by decide +kernel) ?_
  refine l_v (v_move (t := .int _ _) rfl) ?_
  refine l_v (OpVat.as (b := true) (v_eql rfl rfl) rfl) ?_
  refine l_v (v_move (t := .bool _) rfl) ?_
  refine l_gt rfl rfl (OpTo.of_v (v_move (t := .int _ _) rfl) ?_)
  refine l_gt rfl rfl (to_f1 (by kernel_rfl) (show _ = (Value.int _ _) from rfl) (CallsR.mono (num_c) ?_))
  rintro _ w102 ⟨rfl, e102⟩
  have zs_e102 := e102.size
  replace E := E.trans (Ext.keep e102)
  replace HB3 := HB3.ext e102
  refine l_gt rfl rfl (OpTo.of_v (OpVat.as (b := true) (v_eql rfl rfl) rfl) ?_)
  refine l_v (v_andT rfl rfl) ?_
  refine l_v (v_move (t := .bool _) rfl) ?_
  refine l_gt rfl rfl (OpTo.of_v (v_move (t := .pointer _) rfl) ?_)
  refine l_gt rfl rfl (OpTo.of_v (v_build (pl := [(0, 1), (1, 1), (2, 1)]) (z := .agg #[.int .i64 0, .slice none 0 0, .slice none 0 0]) (zl := [.int .i64 0, .slice none 0 0, .slice none 0 0]) (by kernel_rfl) (by unfold kZero; kernel_rfl) rfl rfl (cells := [_, _, _]) rfl) ?_)
  refine l_gt rfl rfl (to_f4 (by kernel_rfl) (show _ = (Value.pointer _) from rfl) (show _ = (Value.int _ _) from rfl) (show _ = (Value.int _ _) from rfl) (show _ = (Value.agg _) from rfl) (CallsR.mono (nPut_c (h.ext E) (ag0 (e := 0) ⟨by decide, by decide⟩)) ?_))
  rintro _ w103 ⟨rfl, e103⟩
  have zs_e103 := e103.size
  replace E := E.trans (Ext.keep e103)
  replace HB3 := HB3.ext e103
  refine l_gt rfl rfl (to_f1 (by kernel_rfl) (show _ = (Value.int _ _) from rfl) (CallsR.mono (num_c) ?_))
  rintro _ w104 ⟨rfl, e104⟩
  have zs_e104 := e104.size
  replace E := E.trans (Ext.keep e104)
  replace HB3 := HB3.ext e104
  refine l_gt rfl rfl (OpTo.of_v (OpVat.as (b := true) (v_eql rfl rfl) rfl) ?_)
  refine l_v (v_andT rfl rfl) ?_
  refine l_v (v_move (t := .bool _) rfl) ?_
  refine l_gt rfl rfl (OpTo.of_v (v_move (t := .pointer _) rfl) ?_)
  refine l_gt rfl rfl (to_f0 (by kernel_rfl) (CallsR.mono (New_c) ?_))
  rintro _ w35 ⟨b35, m35, rfl, hm35, hb35, hn35, HB35, HT35, e35⟩
  have zs_e35 := e35.size
  have zb35 := HB35.lt
  replace E := E.trans (Ext.keep e35)
  replace HB3 := HB3.ext e35
  refine l_gt rfl rfl (to_f2 (by kernel_rfl) (show _ = (Value.pointer _) from rfl) (show _ = (Value.pointer _) from rfl) (CallsR.mono (nJoin_c (i2 := true) ((h.ext E).up (n1 := b35 + 1) (by omega)) (isT_blk HB35 (by omega)) rfl) ?_))
  rintro _ w105 ⟨rfl, e105⟩
  have zs_e105 := e105.size
  replace E := E.trans (Ext.keep e105)
  replace HB3 := HB3.ext e105
  replace HB35 := HB35.ext e105
  refine l_gt rfl rfl (to_f1 (by kernel_rfl) (show _ = (Value.int _ _) from rfl) (CallsR.mono (num_c) ?_))
  rintro _ w106 ⟨rfl, e106⟩
  have zs_e106 := e106.size
  replace E := E.trans (Ext.keep e106)
  replace HB3 := HB3.ext e106
  replace HB35 := HB35.ext e106
  refine l_gt rfl rfl (OpTo.of_v (OpVat.as (b := true) (v_eql rfl rfl) rfl) ?_)
  refine l_v (v_andT rfl rfl) ?_
  refine l_v (v_move (t := .bool _) rfl) ?_
  refine l_gt rfl rfl (OpTo.of_v (v_move (t := .int _ _) rfl) ?_)
  refine l_gt rfl rfl (OpTo.of_v (OpVat.as (b := true) (v_eql rfl rfl) rfl) ?_)
  refine l_v (v_andT rfl rfl) ?_
  refine l_v (v_move (t := .bool _) rfl) ?_
  refine l_gt rfl rfl (OpTo.of_v (v_move (t := .bool _) rfl) ?_)
  refine l_gt rfl rfl (OpTo.of_v (v_not rfl) ?_)
  refine l_v (v_andT rfl rfl) ?_
  refine l_v (v_move (t := .bool _) rfl) ?_
  refine l_gt rfl rfl (OpTo.of_v (v_move (t := .pointer _) rfl) ?_)
  refine l_gt rfl rfl (OpTo.of_v (v_build (pl := [(0, 5), (5, 15)]) (z := .agg #[.int .i64 0, .int .i64 0, .int .i64 0, .int .i64 0, .int .i64 0, .int .i64 0, .slice none 0 0, .slice none 0 0, .int .i64 0, .slice none 0 0, .slice none 0 0, .int .i64 0, .slice none 0 0, .slice none 0 0, .int .i64 0, .slice none 0 0, .slice none 0 0, .int .i64 0, .slice none 0 0, .slice none 0 0]) (zl := [.int .i64 0, .int .i64 0, .int .i64 0, .int .i64 0, .int .i64 0, .int .i64 0, .slice none 0 0, .slice none 0 0, .int .i64 0, .slice none 0 0, .slice none 0 0, .int .i64 0, .slice none 0 0, .slice none 0 0, .int .i64 0, .slice none 0 0, .slice none 0 0, .int .i64 0, .slice none 0 0, .slice none 0 0]) (by kernel_rfl) (by unfold kZero; kernel_rfl) rfl rfl (cells := [_, _, _, _, _, _, _, _, _, _, _, _, _, _, _, _, _, _, _, _]) rfl) ?_)
  refine l_gt rfl rfl (to_box (show _ = (Value.agg _) from rfl) ?_)
  rintro b51 w51 zb51 HB51 e51 z51
  have zs_e51 := e51.size
  replace E := E.trans (Ext.keep e51)
  replace HB3 := HB3.ext e51
  replace HB35 := HB35.ext e51
  try simp only [Value.cells] at HB51
  refine l_gt rfl rfl (to_f3 (by kernel_rfl) (show _ = (Value.pointer _) from rfl) (show _ = (Value.pointer _) from rfl) (show _ = (Value.int _ _) from rfl) (CallsR.mono (once_g ((h.ext E).lastOk (by have := E.size; omega)) ok_new HB51 (RfC.new _ NoK)) ?_))
  rintro _ w107 ⟨rfl, e107⟩
  have zs_e107 := e107.size
  replace E := E.trans (Ext.keep e107)
  replace HB3 := HB3.ext e107
  replace HB35 := HB35.ext e107
  replace HB51 := HB51.ext e107
  refine l_v (v_andT rfl rfl) ?_
  refine l_v (v_move (t := .bool _) rfl) ?_
  refine l_gt rfl rfl (OpTo.of_v (v_move (t := .pointer _) rfl) ?_)
  refine l_gt rfl rfl (to_f1 (by kernel_rfl) (show _ = (Value.pointer _) from rfl) (CallsR.mono (nLen_c (h.ext E)) ?_))
  rintro _ w108 ⟨rfl, e108⟩
  have zs_e108 := e108.size
  replace E := E.trans (Ext.keep e108)
  replace HB3 := HB3.ext e108
  replace HB35 := HB35.ext e108
  replace HB51 := HB51.ext e108
  refine l_gt rfl rfl (OpTo.of_v (OpVat.as (b := true) (v_eql rfl rfl) rfl) ?_)
  refine l_v (v_andT rfl rfl) ?_
  refine l_v (v_move (t := .bool _) rfl) ?_
  refine l_gt rfl rfl (OpTo.of_v (v_move (t := .pointer _) rfl) ?_)
  refine l_gt rfl rfl (to_f1 (by kernel_rfl) (show _ = (Value.pointer _) from rfl) (CallsR.mono (nBytes_c (h.ext E)) ?_))
  rintro _ w109 ⟨rfl, e109⟩
  have zs_e109 := e109.size
  replace E := E.trans (Ext.keep e109)
  replace HB3 := HB3.ext e109
  replace HB35 := HB35.ext e109
  replace HB51 := HB51.ext e109
  refine l_gt rfl rfl (OpTo.of_v (v_len (et := 5) (by kernel_rfl) rfl) ?_)
  refine l_gt rfl rfl (OpTo.of_v (OpVat.as (b := true) (v_eql rfl rfl) rfl) ?_)
  refine l_v (v_andT rfl rfl) ?_
  refine l_v (v_move (t := .bool _) rfl) ?_
  refine l_gt rfl rfl (OpTo.of_v (v_move (t := .pointer _) rfl) ?_)
  refine l_gt rfl rfl (to_f1 (by kernel_rfl) (show _ = (Value.pointer _) from rfl) (CallsR.mono (nCopy_c (h.ext E)) ?_))
  rintro _ w110 ⟨rfl, e110⟩
  have zs_e110 := e110.size
  replace E := E.trans (Ext.keep e110)
  replace HB3 := HB3.ext e110
  replace HB35 := HB35.ext e110
  replace HB51 := HB51.ext e110
  refine l_gt rfl rfl (OpTo.of_v (OpVat.as (b := true) (v_peql (et := 65) (by kernel_rfl) rfl rfl) rfl) ?_)
  refine l_v (v_andT rfl rfl) ?_
  refine l_v (v_move (t := .bool _) rfl) ?_
  refine l_gt rfl rfl (OpTo.of_v (v_move (t := .pointer _) rfl) ?_)
  refine l_gt rfl rfl (to_f2 (by kernel_rfl) (show _ = (Value.pointer _) from rfl) (show _ = (Value.pointer _) from rfl) (CallsR.mono (nSame_c (h.ext E) (isT_nil _ _) rfl) ?_))
  rintro _ w111 ⟨rfl, e111⟩
  have zs_e111 := e111.size
  replace E := E.trans (Ext.keep e111)
  replace HB3 := HB3.ext e111
  replace HB35 := HB35.ext e111
  replace HB51 := HB51.ext e111
  refine l_v (v_andT rfl rfl) ?_
  refine l_v (v_assign (t := .bool _) rfl) ?_
  refine l_nil ?_
  refine n_then ?_
  refine c_ret ?_
  refine ret1v rfl (by decide) (show _ = (Value.bool _) from rfl) ?_
  exact ⟨rfl, E⟩
end Go.Proofs.Ytlhanmlpionomaa
