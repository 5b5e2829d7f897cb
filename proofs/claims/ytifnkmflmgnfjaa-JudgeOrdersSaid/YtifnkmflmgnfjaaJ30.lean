/- A part of the proof: steps and lemmas for the walks through the given program. -/
import Derived.Test.YtifnkmflmgnfjaaJl
import Derived.Test.YtifnkmflmgnfjaaJ25
import Derived.Test.YtifnkmflmgnfjaaJg
import Derived.Test.YtifnkmflmgnfjaaJh
import Derived.Test.YtifnkmflmgnfjaaJv
namespace Go.Proofs.Ytifnkmflmgnfjaa
open Go.Vc
set_option linter.unusedVariables false
set_option linter.unusedSimpArgs false
set_option maxRecDepth 100000

theorem refwrites_c {w : World} {F : Nat → Prop} {v : Value} {a : AkV} (HG1 : AgV tAk w F v a) : CallsR Try.prog 50 #[v] w (fun o w' => o = .bool (!(decide (a.1 = 1) || decide (a.1 = 5))) ∧ Ext w w') := by
  obtain ⟨a1, c1, a2, c2, a3, c3, a4, c4, rfl, HS1, HS2, HS3, HS4, hi1, hi2⟩ := HG1.ak
  refine enter 11 Try.func50 rfl rfl (by simp) ?_
  refine c_seq ?_
  have E := Keep.refl (K := NoK) w
  refine wp_reg zd (l_to (to_box (zvA rfl) ?_))
  rintro b1 w1 zb1 HB1 e1 z1
  have := e1.size
  try simp only [Value.cells] at HB1
  refine l_v (v_assign rfl) (l_nil (n_then (c_seq (wp_reg zd (l_v (v_fieldAddr (off := 0) (ft := 25) zk rfl) (l_v (v_load zk rfl (by first | exact HB1.pv 0 _ rfl | assumption)) ?_))))))
  refine l_v (v_neq rfl rfl) ?_
  refine l_v (zmB rfl) (l_g1 rfl rfl (fun hG => v_fieldAddr (off := 0) (ft := 25) zk rfl) ?_)
  refine l_g1 rfl rfl (fun hG => v_load zk (gd hG rfl) (by first | exact HB1.pv 0 _ rfl | assumption)) ?_
  refine l_g1 rfl rfl (fun hG => v_neq (gd hG rfl) rfl) ?_
  refine l_v (v_and rfl rfl) ?_
  refine l_v (zaB rfl) (l_nil (n_then (c_ret (ret1v rfl zq (zvB rfl) ?_))))
  replace E := E.trans e1.keep
  refine ⟨?_, E⟩
  simp
theorem bucket_c {w : World} {s : List UInt8} (hs : s.length ≤ 1000000) : CallsR Try.prog 76 #[.string ⟨s.toArray⟩] w (fun o w' => (∃ k : Nat, o = .int .i64 (k : Int) ∧ k < 1024) ∧ Ext w w') := by
 have hsl : ∀ x : Int, IntKind.u32.wrap x = x % 4294967296 := IntKind.wrap_u32'
 refine enter 21 Try.func76 rfl rfl (by simp) ?_
 refine c_seq ?_
 have E := Keep.refl (K := NoK) w
 refine wp_reg zd (l_v (v_assign rfl) (l_nil (n_then (c_seq (wp_reg zd (l_v (v_assign rfl) (l_nil (n_then (c_seq ?_)))))))))
 refine c_seq (wp_reg zd (l_v (v_assign rfl) (l_nil (n_then (c_block (c_loop (τ := Nat × Int) [3, 4, 5, 6, 7, 8, 9, 10, 11, 12, 13, 14, 15, 16, 17] (fun (i, h) => [(3, .int .u32 h), (4, .int .i64 (i : Int))]) (fun (i, h) W => Ext w W ∧ Keep (NoK) w W ∧ 0 ≤ h ∧ h < 4294967296) (fun (i, h) => s.length - i) (0, 7) (by exact ⟨rfl, rfl, trivial⟩) (by exact ⟨E, Keep.refl _, by decide, by decide⟩) ?_))))))
 rintro ⟨i, h⟩ w101 j ⟨E, EL1, h1, h2⟩
 have := EL1.size
 refine c_seq (c_seq (wp_reg zd (l_v (zmI rfl) (l_v (v_move (t := .string _) rfl) (l_v (v_slen zk rfl) ?_)))))
 refine l_v (v_lss rfl rfl) ?_
 refine l_nil (n_then (c_cond rfl rfl (fun hlt => ?_) (fun hlt => ?_)))
 ·
  have hlt := dtrue hlt
  obtain ⟨u, hu, _⟩ := getE (l := s) (i := i) zo
  obtain ⟨x1, hx1⟩ : ∃ x, IntKind.u32.wrap (h * 31) = x := ⟨_, rfl⟩
  obtain ⟨x2, hx2⟩ : ∃ x, IntKind.u32.wrap ((u.toNat : Nat) : Int) = x := ⟨_, rfl⟩
  obtain ⟨x3, hx3⟩ : ∃ x, IntKind.u32.wrap (x1 + x2) = x := ⟨_, rfl⟩
  have hx3b : 0 ≤ x3 ∧ x3 < 4294967296 := by rw [← hx3, hsl]; omega
  refine c_skip (n_then (c_seq (c_block (wp_reg zd (l_v (zmI rfl) (l_v (v_mul (t := x1) rfl rfl (hx1)) ?_))))))
  refine l_v (v_move (t := .string _) rfl) (l_v (zmI rfl) (l_v (v_sidx (k := i) zk rfl rfl (by first | rfl | omega) (hu)) ?_))
  refine l_v (v_conv (t := x2) (ds := .int .u8) zk zk rfl (hx2)) ?_
  refine l_v (v_add (t := x3) rfl rfl (hx3)) ?_
  refine l_v (zaI rfl) (l_nil (n_blk (n_then (wp_reg zd (l_v (zmI rfl) (l_v (v_add rfl rfl (by first | exact wr_i64 zo zo | rfl)) ?_))))))
  refine l_v (zaI rfl) (l_nil (n_then (⟨(i + 1, x3), _, rfl, by (repeat (first | exact Off.of_over _ _ _ | refine Off.upd ?_ zq _ | refine Off.overs ?_ zq _)), ⟨by first | rfl | exact congrArg (Value.int _) zo | (simp; done), by first | rfl | exact congrArg (Value.int _) zo | (simp; done), trivial⟩, ⟨E, EL1, ?_⟩, ?_⟩)))
  ·
   exact hx3b
  (dsimp only; omega)
 obtain ⟨k, hk⟩ : ∃ k : Nat, h % 1024 = (k : Int) := ⟨(h % 1024).toNat, by omega⟩
 have hk2 : k < 1024 := by omega
 refine c_exit (x_then (x_then (x_hit (n_then (c_seq (wp_reg zd (l_v (zmI rfl) (l_v (v_rem (t := (k : Int)) rfl rfl (by first | decide | omega) ((by rw [tm_nn h1]; exact hk))) ?_))))))))
 refine l_v (v_conv (t := (k : Int)) (ds := .int .u32) zk zk rfl ((wr_i64 zo zo))) ?_
 refine l_v (zaI rfl) (l_nil (n_then (c_ret (ret1v rfl zq (zvI rfl) ?_))))
 exact ⟨⟨k, rfl, hk2⟩, E⟩
theorem all_c {w : World} {F G : Nat → Prop} {tb : Nat} {ar ad : Option Addr} {cr cd : Nat} {cells : List Value} {r : List JdV} {d : List Bool} (HB1 : Blk w tb (.slice ar r.length cr :: .slice ad r.length cd :: cells) 101) (HSr : SlV tJd w F (.slice ar r.length cr) r) (HSd : SlV tBool w G (.slice ad r.length cd) d) (hd : d.length = r.length) (hr32 : r.length ≤ 32) : CallsR Try.prog 74 #[.pointer (some ⟨tb, 0, none⟩)] w (fun o w' => o = .bool (whlJ r d) ∧ Ext w w') := by
 refine enter 32 Try.func74 rfl rfl (by simp) ?_
 refine c_seq ?_
 have E := Keep.refl (K := NoK) w
 replace HSr := HSr.all
 replace HSd := HSd.all
 refine wp_reg zd (l_v (v_assign rfl) (l_nil (n_then (c_seq (c_seq (wp_reg zd (l_v (v_assign rfl) (l_nil (n_then ?_)))))))))
 refine c_block (c_loop (τ := Nat) [2, 3, 4, 5, 6, 7, 8, 9, 10, 11, 12, 13, 14, 15, 16, 17, 18, 19, 20, 21, 22, 23, 24, 25, 26, 27, 28, 29, 30, 31] (fun i => [(3, .int .i64 i)]) (fun i W => Ext w W ∧ Keep (NoK) w W ∧ i ≤ r.length ∧ ∀ k, k < i → wbJ r d k = true) (fun i => r.length - i) 0 (by exact ⟨rfl, trivial⟩) (by exact ⟨E, Keep.refl _, Nat.zero_le _, fun k hk => by omega⟩) ?_)
 rintro i w101 j ⟨E, EL1, h1, h2⟩
 have := EL1.size
 refine c_seq (c_seq (wp_reg zd (l_v (zmI rfl) (l_v (zmP rfl) (l_v (v_nilCheck rfl) ?_)))))
 replace HB1 := HB1.ext EL1
 refine l_v (v_fieldAddr (off := 0) (ft := 37) zk rfl) (l_v (v_load zk rfl (by first | exact HB1.pv 0 _ rfl | assumption)) ?_)
 refine l_v (v_len (et := 86) zk rfl) ?_
 refine l_v (v_lss rfl rfl) ?_
 replace HSr := HSr.ext EL1
 replace HSd := HSd.ext EL1
 refine l_nil (n_then (c_cond rfl rfl (fun hlt => ?_) (fun hlt => ?_)))
 ·
  have hlt := dtrue hlt
  obtain ⟨x, hx, _⟩ := getE (l := r) (i := i) zo
  obtain ⟨q, cs, hqq, hF, _, HPq, hrr⟩ := HSr.el hx
  subst hqq
  obtain ⟨a1, c1, a2, c2, a3, c3, a4, c4, a5, c5, a6, c6, rfl, _⟩ := tJd_cells hrr
  obtain ⟨y, hy, _⟩ := getE (l := d) (i := i) zo
  obtain ⟨q2, cs2, hqq2, hF2, _, HPd, hrd⟩ := HSd.el hy
  subst hqq2
  obtain rfl := hrd
  have hgd : d.getD i false = y := by rw [List.getD_eq_getElem?_getD, hy]; rfl
  refine c_skip (n_then (c_seq (c_block (c_seq (wp_reg zd (l_v (zmP rfl) (l_v (v_nilCheck rfl) ?_)))))))
  refine l_v (v_fieldAddr (off := 0) (ft := 37) zk rfl) (l_v (v_load zk rfl (by first | exact HPd 0 _ rfl | exact HPq 0 _ rfl | exact HB1.pv 0 _ rfl | assumption)) ?_)
  refine l_v (zmI rfl) (l_v (v_indexAddr (et := 86) (sz := 14) (k := i) zk zk rfl rfl (by first | rfl | omega) zo) ?_)
  refine l_v (v_fieldAddr (off := 10) (ft := 3) zk rfl) (l_v (v_load zk rfl (by first | exact HPd 10 _ rfl | exact pv_1 HPd | exact HPq 10 _ rfl | exact pv_1 HPq | exact HB1.pv 10 _ rfl | assumption)) ?_)
  refine l_v (v_geq rfl rfl) ?_
  refine l_v (zmB rfl) (l_g1 rfl rfl (fun hG => zmP rfl) (l_g1 rfl rfl (fun hG => v_nilCheck (gd hG rfl)) ?_))
  refine l_g1 rfl rfl (fun hG => v_fieldAddr (off := 1) (ft := 97) zk (gd hG rfl)) ?_
  refine l_g1 rfl rfl (fun hG => v_load zk (gd hG rfl) (by first | exact HPd 1 _ rfl | exact pv_1 HPd | exact HPq 1 _ rfl | exact pv_1 HPq | exact HB1.pv 1 _ rfl | assumption)) ?_
  refine l_g1 rfl rfl (fun hG => zmI rfl) (l_g1 rfl rfl (fun hG => v_indexAddr (et := 4) (sz := 1) (k := i) zk zk (gd hG rfl) (gd hG rfl) (by first | rfl | omega) zo) ?_)
  refine l_g1 rfl rfl (fun hG => v_load zk (gd hG rfl) (by first | exact pv_1 HPd | exact pv_1 HPq | exact HB1.cell rfl | assumption)) ?_
  refine l_g1 rfl rfl (fun hG => v_not (gd hG rfl)) ?_
  refine l_v (v_and rfl rfl) ?_
  refine l_nil (n_then (c_cond rfl rfl (fun hc => ?_) (fun hc => ?_)))
  ·
   refine c_seq (wp_reg zd (l_v (v_assign rfl) (l_nil (n_then (c_ret (r_blk (r_then (r_then (r_blk ?_)))))))))
   refine r_then (ret1v rfl zq (zvB rfl) ?_)
   exact ⟨by rw [whl_no (i := i) zo (by simp only [wbJ, hx, hgd, undJ]; rw [hc]; rfl)], E⟩
  refine c_skip (n_blk (n_then (wp_reg zd (l_v (zmI rfl) (l_v (v_add rfl rfl (by first | exact wr_i64 zo zo | rfl)) ?_)))))
  refine l_v (zaI rfl) (l_nil (n_then (⟨i + 1, _, rfl, by (repeat (first | exact Off.of_over _ _ _ | refine Off.upd ?_ zq _ | refine Off.overs ?_ zq _)), ⟨by first | rfl | exact congrArg (Value.int _) zo | (simp; done), trivial⟩, ⟨E, EL1, ?_⟩, ?_⟩)))
  ·
   refine ⟨by omega, fun k hk => ?_⟩
   rcases Nat.lt_or_ge k i with h | h
   ·
    exact h2 k h
   obtain rfl : k = i := by omega
   simp only [wbJ, hx, hgd, undJ]; rw [hc]; rfl
  (dsimp only; omega)
 refine c_exit (x_then (x_then (x_hit (n_then (c_seq (wp_reg zd (l_v (v_assign rfl) (l_nil (n_then ?_)))))))))
 refine c_ret (ret1v rfl zq (zvB rfl) ?_)
 refine ⟨?_, E⟩
 congr 1; symm; exact whl_iff.2 fun k hk => h2 k (by have := dfalse hlt; omega)
theorem next_c {w : World} {F G : Nat → Prop} {tb i : Nat} {ar ad : Option Addr} {cr cd : Nat} {cells : List Value} {r : List JdV} {d : List Bool} (HB1 : Blk w tb (.slice ar r.length cr :: .slice ad r.length cd :: cells) 101) (HSr : SlV tJd w F (.slice ar r.length cr) r) (HSd : SlV tBool w G (.slice ad r.length cd) d) (hd : d.length = r.length) (hr32 : r.length ≤ 32) (hans : ∀ x ∈ r, x.2.2.1 < 0 ∨ x.2.1 < x.2.2.1) (hi : i < r.length) : CallsR Try.prog 77 #[.pointer (some ⟨tb, 0, none⟩), .int .i64 i] w (fun o w' => o = .bool (mayJ r d i) ∧ Ext w w') := by
 obtain ⟨x, hx, _⟩ := getE (l := r) (i := i) hi
 have hax := hans x (List.mem_of_getElem? hx)
 replace HSr := HSr.all
 obtain ⟨q, cs, hqq, hF, _, HPi, hrr⟩ := HSr.el hx
 subst hqq
 obtain ⟨a1, c1, a2, c2, a3, c3, a4, c4, a5, c5, a6, c6, rfl, HGa, _⟩ := tJd_cells hrr
 obtain ⟨y, hy, _⟩ := getE (l := d) (i := i) zo
 replace HSd := HSd.all
 obtain ⟨q2, cs2, hqq2, hF2, _, HPd, hrd⟩ := HSd.el hy
 subst hqq2
 obtain rfl := hrd
 have hgd : d.getD i false = y := by rw [List.getD_eq_getElem?_getD, hy]; rfl
 refine enter 89 Try.func77 rfl rfl (by simp) ?_
 refine c_seq ?_
 have E := Keep.refl (K := NoK) w
 replace HSr := HSr.all
 replace HSd := HSd.all
 refine wp_reg zd (l_v (v_assign rfl) (l_nil (n_then (c_seq (c_seq (wp_reg zd (l_v (zmP rfl) (l_v (v_nilCheck rfl) ?_))))))))
 refine l_v (v_fieldAddr (off := 1) (ft := 97) zk rfl) (l_v (v_load zk rfl (by first | exact HPd 1 _ rfl | exact pv_1 HPd | exact HPi 1 _ rfl | exact pv_1 HPi | exact HB1.pv 1 _ rfl | assumption)) ?_)
 refine l_v (zmI rfl) (l_v (v_indexAddr (et := 4) (sz := 1) (k := i) zk zk rfl rfl (by first | rfl | omega) zo) ?_)
 refine l_v (v_load zk rfl (by first | exact pv_1 HPd | exact pv_1 HPi | exact HB1.cell rfl | assumption)) ?_
 refine l_v (zmB rfl) (l_g1 rfl rfl (fun hG => zmP rfl) (l_g1 rfl rfl (fun hG => v_nilCheck (gd hG rfl)) ?_))
 refine l_g1 rfl rfl (fun hG => v_fieldAddr (off := 0) (ft := 37) zk (gd hG rfl)) ?_
 refine l_g1 rfl rfl (fun hG => v_load zk (gd hG rfl) (by first | exact HPd 0 _ rfl | exact HPi 0 _ rfl | exact HB1.pv 0 _ rfl | assumption)) ?_
 refine l_g1 rfl rfl (fun hG => zmI rfl) (l_g1 rfl rfl (fun hG => v_indexAddr (et := 86) (sz := 14) (k := i) zk zk (gd hG rfl) (gd hG rfl) (by first | rfl | omega) zo) ?_)
 refine l_g1 rfl rfl (fun hG => v_fieldAddr (off := 10) (ft := 3) zk (gd hG rfl)) ?_
 refine l_g1 rfl rfl (fun hG => v_load zk (gd hG rfl) (by first | exact HPd 10 _ rfl | exact pv_1 HPd | exact HPi 10 _ rfl | exact pv_1 HPi | exact HB1.pv 10 _ rfl | assumption)) ?_
 refine l_g1 rfl rfl (fun hG => v_lss (gd hG rfl) rfl) ?_
 refine l_g1 rfl rfl (fun hG => v_move (t := .bool _) (gd hG rfl)) ?_
 refine l_g2 rfl rfl (fun hG => zmP rfl) ?_
 refine l_g2 rfl rfl (fun hG => v_nilCheck (gd hG rfl)) ?_
 refine l_g2 rfl rfl (fun hG => v_fieldAddr (off := 0) (ft := 37) zk (gd hG rfl)) ?_
 refine l_g2 rfl rfl (fun hG => v_load zk (gd hG rfl) (by first | exact HPd 0 _ rfl | exact HPi 0 _ rfl | exact HB1.pv 0 _ rfl | assumption)) ?_
 refine l_g2 rfl rfl (fun hG => zmI rfl) ?_
 refine l_g2 rfl rfl (fun hG => v_indexAddr (et := 86) (sz := 14) (k := i) zk zk (gd hG rfl) (gd hG rfl) (by first | rfl | omega) zo) ?_
 refine l_g2 rfl rfl (fun hG => v_fieldAddr (off := 0) (ft := 77) zk (gd hG rfl)) ?_
 refine l_g2 rfl rfl (fun hG => v_fieldAddr (off := 2) (ft := 28) zk (gd hG rfl)) ?_
 refine l_g2 rfl rfl (fun hG => v_loadA zk (gd hG rfl) (by first | exact (show Pv _ _ [_, _, _, _, _, _, _] from pv_sub 2 7 HPd) | exact (show Pv _ _ [_, _, _, _, _, _, _] from pv_sub 2 7 HPi) | exact (show Pv _ _ [_, _, _, _, _, _, _] from pv_sub 2 7 HB1.pv) | exact pv_at 2 HPd | exact pv_at 2 HPi | exact pv_at 2 HB1.pv | exact HPd | exact HPi | assumption) rfl) ?_
 refine l_g2f rfl rfl (fun hG => to_f1 zk (gd hG rfl) (refwrites_c HGa)) ?_
 rintro w101 e101
 have := e101.size
 refine l_g2 rfl rfl (fun hG => v_not (gd hG rfl)) ?_
 refine l_g1 rfl rfl (fun hG => v_and (gd hG rfl) (gda hG rfl)) ?_
 refine l_v (v_or rfl rfl) ?_
 replace E := E.trans e101.keep
 replace HSr := HSr.ext e101
 replace HSd := HSd.ext e101
 replace HB1 := HB1.ext e101
 replace HPi := HPi.ext e101
 replace HPd := HPd.ext e101
 replace HGa := HGa.ext e101
 refine l_nil (n_then (c_cond rfl rfl (fun hc => ?_) (fun hc => ?_)))
 ·
  refine c_seq (wp_reg zd (l_v (v_assign rfl) (l_nil (n_then (c_ret (r_then (ret1v rfl zq (zvB rfl) ?_)))))))
  refine ⟨?_, E⟩
  rw [may_un hx, hgd, opnJ]
  congr 1
  cases g1 : y <;> cases g2 : decide (x.2.2.1 < 0) <;> cases g3 : decide (x.1.2.2.1 = 1) <;> cases g4 : decide (x.1.2.2.1 = 5) <;> simp_all
 have hb : (!(d.getD i false) && (!decide (x.2.2.1 < 0) || opnJ x)) = true := by rw [hgd, opnJ]; cases g1 : y <;> cases g2 : decide (x.2.2.1 < 0) <;> cases g3 : decide (x.1.2.2.1 = 1) <;> cases g4 : decide (x.1.2.2.1 = 5) <;> simp_all
 refine c_skip (n_then (c_seq (c_seq (wp_reg zd (l_v (v_assign rfl) (l_nil (n_then (c_block (c_loop (τ := Nat) [4, 5, 37, 38, 39, 40, 41, 42, 43, 44, 45, 46, 47, 48, 49, 50, 51, 52, 53, 54, 55, 56, 57, 58, 59, 60, 61, 62, 63, 64, 65, 66, 67, 68, 69, 70, 71, 72, 73, 74, 75, 76, 77, 78, 79, 80, 81, 82, 83, 84, 85, 86, 87, 88] (fun k => [(5, .int .i64 k)]) (fun k W => Ext w W ∧ Keep (NoK) w101 W ∧ k ≤ r.length ∧ ∀ t, t < k → blkJ r d x.2.1 t = false) (fun k => r.length - k) 0 (by exact ⟨rfl, trivial⟩) (by exact ⟨E, Keep.refl _, Nat.zero_le _, fun k hk => by omega⟩) ?_)))))))))
 rintro k w102 j ⟨E, EL1, h1, h2⟩
 have := EL1.size
 refine c_seq (c_seq (wp_reg zd (l_v (zmI rfl) (l_v (zmP rfl) (l_v (v_nilCheck rfl) ?_)))))
 replace HB1 := HB1.ext EL1
 replace HPi := HPi.ext EL1
 refine l_v (v_fieldAddr (off := 0) (ft := 37) zk rfl) (l_v (v_load zk rfl (by first | exact HPi 0 _ rfl | exact HB1.pv 0 _ rfl | assumption)) ?_)
 refine l_v (v_len (et := 86) zk rfl) ?_
 refine l_v (v_lss rfl rfl) ?_
 replace HSr := HSr.ext EL1
 replace HSd := HSd.ext EL1
 refine l_nil (n_then (c_cond rfl rfl (fun hlt => ?_) (fun hlt => ?_)))
 ·
  have hlt := dtrue hlt
  obtain ⟨y2, hy2, _⟩ := getE (l := r) (i := k) zo
  obtain ⟨q', cs', hq', hF', _, HPk, hr'⟩ := HSr.el hy2
  cases hq'
  obtain ⟨d1, e1, d2, e2, d3, e3, d4, e4, d5, e5, d6, e6, rfl, _⟩ := tJd_cells hr'
  obtain ⟨z, hz, _⟩ := getE (l := d) (i := k) zo
  obtain ⟨q3, cs3, hqq3, hF3, _, HPz, hrz⟩ := HSd.el hz
  cases hqq3
  obtain rfl := hrz
  have hgz : d.getD k false = z := by rw [List.getD_eq_getElem?_getD, hz]; rfl
  refine c_skip (n_then (c_seq (c_block (c_seq (wp_regd (NoK) zk zd zd ?_)))))
  refine rt_v (fun vals w hR hd => zmI rfl) ?_
  refine rt_v (fun vals w hR hd => zmI rfl) ?_
  refine rt_v (fun vals w hR hd => v_neq (hd 0 rfl) (hd 1 rfl)) ?_
  refine rt_v (fun vals w hR hd => v_move (t := .bool _) (hd 2 rfl)) ?_
  refine rt_g1 rfl (fun vals w hd => hd 3 rfl) (fun vals w hR hd hG => zmP rfl) ?_
  refine rt_g1 rfl (fun vals w hd => hd 3 rfl) (fun vals w hR hd hG => v_nilCheck (gd hG (hd 4 rfl))) ?_
  refine rt_g1 rfl (fun vals w hd => hd 3 rfl) (fun vals w hR hd hG => v_fieldAddr (off := 1) (ft := 97) zk (gd hG (hd 5 rfl))) ?_
  refine rt_g1 rfl (fun vals w hd => hd 3 rfl) (fun vals w hR hd hG => v_load zk (gd hG (hd 6 rfl)) (by first | exact (HPz.ext hR) 1 _ rfl | exact pv_1 (HPz.ext hR) | exact (HPk.ext hR) 1 _ rfl | exact pv_1 (HPk.ext hR) | exact (HPi.ext hR) 1 _ rfl | exact pv_1 (HPi.ext hR) | exact (HB1.ext hR).pv 1 _ rfl | assumption)) ?_
  refine rt_g1 rfl (fun vals w hd => hd 3 rfl) (fun vals w hR hd hG => zmI rfl) ?_
  refine rt_g1 rfl (fun vals w hd => hd 3 rfl) (fun vals w hR hd hG => v_indexAddr (et := 4) (sz := 1) (k := k) zk zk (gd hG (hd 7 rfl)) (gd hG (hd 8 rfl)) (by first | rfl | omega) zo) ?_
  refine rt_g1 rfl (fun vals w hd => hd 3 rfl) (fun vals w hR hd hG => v_load zk (gd hG (hd 9 rfl)) (by first | exact pv_1 (HPz.ext hR) | exact pv_1 (HPk.ext hR) | exact pv_1 (HPi.ext hR) | exact (HB1.ext hR).cell rfl | assumption)) ?_
  refine rt_g1 rfl (fun vals w hd => hd 3 rfl) (fun vals w hR hd hG => v_not (gd hG (hd 10 rfl))) ?_
  refine rt_v (fun vals w hR hd => v_and (hd 3 rfl) (hd 11 rfl)) ?_
  refine rt_v (fun vals w hR hd => v_move (t := .bool _) (hd 12 rfl)) ?_
  refine rt_g1 rfl (fun vals w hd => hd 13 rfl) (fun vals w hR hd hG => zmP rfl) ?_
  refine rt_g1 rfl (fun vals w hd => hd 13 rfl) (fun vals w hR hd hG => v_nilCheck (gd hG (hd 14 rfl))) ?_
  refine rt_g1 rfl (fun vals w hd => hd 13 rfl) (fun vals w hR hd hG => v_fieldAddr (off := 0) (ft := 37) zk (gd hG (hd 15 rfl))) ?_
  refine rt_g1 rfl (fun vals w hd => hd 13 rfl) (fun vals w hR hd hG => v_load zk (gd hG (hd 16 rfl)) (by first | exact (HPz.ext hR) 0 _ rfl | exact (HPk.ext hR) 0 _ rfl | exact (HPi.ext hR) 0 _ rfl | exact (HB1.ext hR).pv 0 _ rfl | assumption)) ?_
  refine rt_g1 rfl (fun vals w hd => hd 13 rfl) (fun vals w hR hd hG => zmI rfl) ?_
  refine rt_g1 rfl (fun vals w hd => hd 13 rfl) (fun vals w hR hd hG => v_indexAddr (et := 86) (sz := 14) (k := k) zk zk (gd hG (hd 17 rfl)) (gd hG (hd 18 rfl)) (by first | rfl | omega) zo) ?_
  refine rt_g1 rfl (fun vals w hd => hd 13 rfl) (fun vals w hR hd hG => v_fieldAddr (off := 10) (ft := 3) zk (gd hG (hd 19 rfl))) ?_
  refine rt_g1 rfl (fun vals w hd => hd 13 rfl) (fun vals w hR hd hG => v_load zk (gd hG (hd 20 rfl)) (by first | exact (HPz.ext hR) 10 _ rfl | exact pv_1 (HPz.ext hR) | exact (HPk.ext hR) 10 _ rfl | exact pv_1 (HPk.ext hR) | exact (HPi.ext hR) 10 _ rfl | exact pv_1 (HPi.ext hR) | exact (HB1.ext hR).pv 10 _ rfl | assumption)) ?_
  refine rt_g1 rfl (fun vals w hd => hd 13 rfl) (fun vals w hR hd hG => v_geq (gd hG (hd 21 rfl)) rfl) ?_
  refine rt_v (fun vals w hR hd => v_and (hd 13 rfl) (hd 22 rfl)) ?_
  refine rt_v (fun vals w hR hd => v_move (t := .bool _) (hd 23 rfl)) ?_
  refine rt_g1 rfl (fun vals w hd => hd 24 rfl) (fun vals w hR hd hG => zmP rfl) ?_
  refine rt_g1 rfl (fun vals w hd => hd 24 rfl) (fun vals w hR hd hG => v_nilCheck (gd hG (hd 25 rfl))) ?_
  refine rt_g1 rfl (fun vals w hd => hd 24 rfl) (fun vals w hR hd hG => v_fieldAddr (off := 0) (ft := 37) zk (gd hG (hd 26 rfl))) ?_
  refine rt_g1 rfl (fun vals w hd => hd 24 rfl) (fun vals w hR hd hG => v_load zk (gd hG (hd 27 rfl)) (by first | exact (HPz.ext hR) 0 _ rfl | exact (HPk.ext hR) 0 _ rfl | exact (HPi.ext hR) 0 _ rfl | exact (HB1.ext hR).pv 0 _ rfl | assumption)) ?_
  refine rt_g1 rfl (fun vals w hd => hd 24 rfl) (fun vals w hR hd hG => zmI rfl) ?_
  refine rt_g1 rfl (fun vals w hd => hd 24 rfl) (fun vals w hR hd hG => v_indexAddr (et := 86) (sz := 14) (k := k) zk zk (gd hG (hd 28 rfl)) (gd hG (hd 29 rfl)) (by first | rfl | omega) zo) ?_
  refine rt_g1 rfl (fun vals w hd => hd 24 rfl) (fun vals w hR hd hG => v_fieldAddr (off := 10) (ft := 3) zk (gd hG (hd 30 rfl))) ?_
  refine rt_g1 rfl (fun vals w hd => hd 24 rfl) (fun vals w hR hd hG => v_load zk (gd hG (hd 31 rfl)) (by first | exact (HPz.ext hR) 10 _ rfl | exact pv_1 (HPz.ext hR) | exact (HPk.ext hR) 10 _ rfl | exact pv_1 (HPk.ext hR) | exact (HPi.ext hR) 10 _ rfl | exact pv_1 (HPi.ext hR) | exact (HB1.ext hR).pv 10 _ rfl | assumption)) ?_
  refine rt_g1 rfl (fun vals w hd => hd 24 rfl) (fun vals w hR hd hG => zmP rfl) ?_
  refine rt_g1 rfl (fun vals w hd => hd 24 rfl) (fun vals w hR hd hG => v_nilCheck (gd hG (hd 33 rfl))) ?_
  refine rt_g1 rfl (fun vals w hd => hd 24 rfl) (fun vals w hR hd hG => v_fieldAddr (off := 0) (ft := 37) zk (gd hG (hd 34 rfl))) ?_
  refine rt_g1 rfl (fun vals w hd => hd 24 rfl) (fun vals w hR hd hG => v_load zk (gd hG (hd 35 rfl)) (by first | exact (HPz.ext hR) 0 _ rfl | exact (HPk.ext hR) 0 _ rfl | exact (HPi.ext hR) 0 _ rfl | exact (HB1.ext hR).pv 0 _ rfl | assumption)) ?_
  refine rt_g1 rfl (fun vals w hd => hd 24 rfl) (fun vals w hR hd hG => zmI rfl) ?_
  refine rt_g1 rfl (fun vals w hd => hd 24 rfl) (fun vals w hR hd hG => v_indexAddr (et := 86) (sz := 14) (k := i) zk zk (gd hG (hd 36 rfl)) (gd hG (hd 37 rfl)) (by first | rfl | omega) zo) ?_
  refine rt_g1 rfl (fun vals w hd => hd 24 rfl) (fun vals w hR hd hG => v_fieldAddr (off := 9) (ft := 3) zk (gd hG (hd 38 rfl))) ?_
  refine rt_g1 rfl (fun vals w hd => hd 24 rfl) (fun vals w hR hd hG => v_load zk (gd hG (hd 39 rfl)) (by first | exact (HPz.ext hR) 9 _ rfl | exact pv_1 (HPz.ext hR) | exact (HPk.ext hR) 9 _ rfl | exact pv_1 (HPk.ext hR) | exact (HPi.ext hR) 9 _ rfl | exact pv_1 (HPi.ext hR) | exact (HB1.ext hR).pv 9 _ rfl | assumption)) ?_
  refine rt_g1 rfl (fun vals w hd => hd 24 rfl) (fun vals w hR hd hG => v_lss (gd hG (hd 32 rfl)) (gd hG (hd 40 rfl))) ?_
  refine rt_v (fun vals w hR hd => v_and (hd 24 rfl) (hd 41 rfl)) ?_
  refine rt_nil (fun w103 e103 => ?_)
  rintro _ rfl _ rfl _ rfl _ rfl _ rfl _ rfl _ rfl _ rfl _ rfl _ rfl _ rfl _ rfl _ rfl _ rfl _ rfl _ rfl _ rfl _ rfl _ rfl _ rfl _ rfl _ rfl _ rfl _ rfl _ rfl _ rfl _ rfl _ rfl _ rfl _ rfl _ rfl _ rfl _ rfl _ rfl _ rfl _ rfl _ rfl _ rfl _ rfl _ rfl _ rfl _ rfl _ rfl
  have := e103.size
  replace E := E.trans e103.keep
  replace HSr := HSr.ext e103
  replace HSd := HSd.ext e103
  replace HB1 := HB1.ext e103
  replace HPi := HPi.ext e103
  replace EL1 := EL1.trans e103.keep
  replace HPk := HPk.ext e103
  replace HPz := HPz.ext e103
  refine fin_nil (n_then (c_cond rfl rfl (fun h56 => ?_) (fun h56 => ?_)))
  ·
   refine c_seq (wp_reg zd (l_v (v_assign rfl) (l_nil (n_then (c_ret (r_blk (r_then (r_then (r_blk ?_)))))))))
   refine r_then (ret1v rfl zq (zvB rfl) ?_)
   refine ⟨?_, E⟩
   have hbl : blkJ r d x.2.1 k = true := by rw [blk_eq _ hy2, undJ, hgz]; revert h56; simp; intro a1 a2 a3 a4; exact ⟨⟨a3, a2⟩, a4⟩
   rw [may_un hx]
   congr 1; symm
   rw [Bool.and_eq_false_iff]; right
   rw [List.all_eq_false]
   exact ⟨k, List.mem_range.2 zo, by rw [hbl]; decide⟩
  refine c_skip (n_blk (n_then (wp_reg zd (l_v (zmI rfl) (l_v (v_add rfl rfl (by first | exact wr_i64 zo zo | rfl)) ?_)))))
  refine l_v (zaI rfl) (l_nil (n_then (⟨k + 1, _, rfl, by (repeat (first | exact Off.of_over _ _ _ | refine Off.upd ?_ zq _ | refine Off.overs ?_ zq _)), ⟨by first | rfl | exact congrArg (Value.int _) zo | (simp; done), trivial⟩, ⟨E, EL1, ?_⟩, ?_⟩)))
  ·
   refine ⟨by omega, fun t ht => ?_⟩
   rcases Nat.lt_or_ge t k with h | h
   ·
    exact h2 t h
   obtain rfl : t = k := by omega
   rw [blk_eq _ hy2, undJ, hgz]
   by_cases hti : (t : Int) = (i : Int)
   ·
    obtain rfl : t = i := by omega
    rw [hx] at hy2; cases hy2
    rcases hax with h9 | h9
    ·
     simp; omega
    simp; omega
   revert h56; simp [hti]; intro a1; cases z <;> simp_all
  (dsimp only; omega)
 refine c_exit (x_then (x_then (x_hit (n_then (c_seq (wp_reg zd (l_v (v_assign rfl) (l_nil (n_then ?_)))))))))
 refine c_ret (ret1v rfl zq (zvB rfl) ?_)
 refine ⟨?_, E⟩
 rw [may_un hx, hb]
 congr 1; symm
 rw [Bool.true_and, List.all_eq_true]
 intro t ht
 rw [h2 t (by have := dfalse hlt; have := List.mem_range.1 ht; omega)]; rfl
theorem refT_snoc {d : List Bool} {i : Nat} {b : Bool} (h : d[i]? = some b) : refT (d.take (i + 1)) = refT (d.take i) ++ [if b then 1 else 0] := by
  rw [List.take_add_one, h]; simp [refT]
theorem text_c {w : World} {F G : Nat → Prop} {tb : Nat} {va : Value} {ad : Option Addr} {cd : Nat} {cells : List Value} {v : Value} {d : List Bool} {m : MapV} {n : Nat} (HB1 : Blk w tb (va :: .slice ad n cd :: cells) 101) (HSd : SlV tBool w G (.slice ad n cd) d) (HSm : SlV tPr w F v m) (hok : ∀ p ∈ m, okP p = true) (hn : m.length ≤ 100000) (hdn : d.length = n) (hdl : n ≤ 32) : CallsR Try.prog 75 #[.pointer (some ⟨tb, 0, none⟩), v] w (fun o w' => o = .string ⟨(keyR d m).toArray⟩ ∧ Ext w w') := by
 have zl1 := HB1.lt
 obtain ⟨am, cm, rfl⟩ := HSm.shape
 have hmx := HSm.len_max
 have hlt' : ∀ i, (mTx (m.take i)).length ≤ 66 * m.length := fun i => by
  have h1 := mTx_len (m := m.take i) (fun p hp => hok p (List.mem_of_mem_take hp))
  have h2 : (m.take i).length ≤ m.length := by rw [List.length_take]; omega
  omega
 have hrt : ∀ i, (refT (d.take i)).length ≤ 32 := fun i => by simp [refT, List.length_take]; omega
 have hrd' : (refT d).length ≤ 32 := by simp [refT]; omega
 refine enter 70 Try.func75 rfl rfl (by simp) ?_
 refine c_seq ?_
 have E := Keep.refl (K := NoK) w
 replace HSm := HSm.all
 replace HSd := HSd.all
 obtain ⟨n1, hn1⟩ : ∃ n, n = w.heap.size := ⟨_, rfl⟩
 refine wp_reg zd (l_v (v_assign rfl) (l_nil (n_then (c_seq (wp_reg zd (l_v (v_assign rfl) (l_nil (n_then (c_seq ?_)))))))))
 refine c_seq (wp_reg zd (l_v (v_assign rfl) (l_nil (n_then (c_block (c_loop (τ := Nat × Option Addr × Nat) [5, 6, 8, 9, 10, 11, 12, 13, 14, 15, 16, 17, 18, 19, 20, 21, 22, 23, 24, 25, 26, 27, 28, 29] (fun (i, a, c) => [(5, .slice a (refT (d.take i)).length c), (6, .int .i64 i)]) (fun (i, a, c) W => Ext w W ∧ Keep (fun b => n1 ≤ b) w W ∧ i ≤ d.length ∧ OwV tU8 5 W n1 NoK (.slice a (refT (d.take i)).length c) (refT (d.take i))) (fun (i, a, c) => d.length - i) (0, none, 0) (by exact ⟨rfl, rfl, trivial⟩) (by exact ⟨E, Keep.refl _, Nat.zero_le _, OwV.nil _ _ _ _ _⟩) ?_))))))
 rintro ⟨i, a, c⟩ w101 j ⟨E, EL1, h1, HOx⟩
 have := EL1.size
 have zo_HOx := fun (b : Nat) h => HOx.own_lt (b := b) h
 refine c_seq (c_seq (wp_reg zd (l_v (zmI rfl) (l_v (zmP rfl) (l_v (v_nilCheck rfl) ?_)))))
 replace HB1 := HB1.keep EL1 dj4
 refine l_v (v_fieldAddr (off := 1) (ft := 97) zk rfl) (l_v (v_load zk rfl (by first | exact HB1.pv 1 _ rfl | assumption)) ?_)
 refine l_v (v_len (et := 4) zk rfl) ?_
 refine l_v (v_lss rfl rfl) ?_
 replace HSm := HSm.keep EL1 dj1
 replace HSd := HSd.keep EL1 dj1
 refine l_nil (n_then (c_cond rfl rfl (fun hlt => ?_) (fun hlt => ?_)))
 ·
  have hlt := dtrue hlt
  have hlr := hrt i
  obtain ⟨y, hy, _⟩ := getE (l := d) (i := i) zo
  obtain ⟨q2, cs2, hqq2, hF2, _, HPd, hrd⟩ := HSd.el hy
  subst hqq2
  obtain rfl := hrd
  have hsn := refT_snoc hy
  refine c_skip (n_then (c_seq (c_block (c_seq (wp_reg zd (l_v (zmP rfl) (l_v (v_nilCheck rfl) ?_)))))))
  refine l_v (v_fieldAddr (off := 1) (ft := 97) zk rfl) (l_v (v_load zk rfl (by first | exact HPd 1 _ rfl | exact pv_1 HPd | exact HB1.pv 1 _ rfl | assumption)) ?_)
  refine l_v (zmI rfl) (l_v (v_indexAddr (et := 4) (sz := 1) (k := i) zk zk rfl rfl (by first | rfl | omega) zo) ?_)
  refine l_v (v_load zk rfl (by first | exact pv_1 HPd | exact HB1.cell rfl | assumption)) ?_
  refine l_nil (n_then (c_cond rfl rfl (fun hb => ?_) (fun hb => ?_)))
  ·
   refine wp_reg zd (l_v (zmS rfl) (l_to (to_slice1 (t := tU8) (et := 5) (bytes := 1) zk zq (zvI rfl) ((rep_u8 (F := NoK) 1 rfl)) ?_)))
   rintro b5 w5 zb5 HO5 e5 z5
   have := e5.size
   have zo_HO5 := fun (b : Nat) h => HO5.own_lt (b := b) h
   replace HOx := HOx.ext e5
   refine l_to (to_append (et := 5) (bytes := 1) zk (zvS rfl) HOx (zvS rfl) HO5.view (flat_u8.to) (by first | omega | (simp; done) | (simp; omega)) (by simp only [maxLen]; first | omega | (simp; done) | (simp; omega)) zo ?_)
   rintro a50 n50 c50 w50 HO50 hn50 k50 h50 i50
   have := k50.size
   subst hn50
   have h9 : refT (d.take i) ++ [1] = refT (d.take (i + 1)) := by rw [hsn, hb]; rfl
   rw [h9] at HO50 ⊢
   have zo_HO50 := fun (b : Nat) h => HO50.own_lt (b := b) h
   refine l_v (zaS rfl) (l_nil (n_blk (n_then (wp_reg zd (l_v (zmI rfl) (l_v (v_add rfl rfl (by first | exact wr_i64 zo zo | rfl)) ?_))))))
   replace E := (E.trans e5.keep).step k50 (by intro i hi he; have he0 := he; (try dsimp only [NoK] at hi he ⊢); (try simp only [Value.ownBlock, Option.some.injEq] at he); first | exact he.elim | omega | exact he | (have := (HOx).own_lt he0; omega) | (have := zo_HOx _ he0; omega) | (have := (HOx).own_lt he0; rcases hi with hi | hi <;> omega))
   replace HSm := (HSm.ext e5).keep k50 (by intro i _ hi he; have he0 := he; (try dsimp only [NoK, AllB] at hi he); (try simp only [Value.ownBlock, Option.some.injEq] at he); first | exact hi.elim | exact he.elim | omega | (rcases hi with hi | hi <;> omega) | (rcases he with he | he <;> omega) | (have := (HOx).own_lt he0; omega) | (have := zo_HOx _ he0; omega) | (have := (HOx).own_lt he0; rcases hi with hi | hi <;> omega))
   replace HSd := (HSd.ext e5).keep k50 (by intro i _ hi he; have he0 := he; (try dsimp only [NoK, AllB] at hi he); (try simp only [Value.ownBlock, Option.some.injEq] at he); first | exact hi.elim | exact he.elim | omega | (rcases hi with hi | hi <;> omega) | (rcases he with he | he <;> omega) | (have := (HOx).own_lt he0; omega) | (have := zo_HOx _ he0; omega) | (have := (HOx).own_lt he0; rcases hi with hi | hi <;> omega))
   replace HB1 := (HB1.ext e5).keep k50 (by intro h; have he0 := h; (try dsimp only at h); (try simp only [Value.ownBlock, Option.some.injEq] at h); first | omega | (have := (HOx).own_lt he0; omega) | (have := zo_HOx _ he0; omega))
   replace EL1 := (EL1.trans e5.keep).step k50 (by intro i hi he; have he0 := he; (try dsimp only [NoK] at hi he ⊢); (try simp only [Value.ownBlock, Option.some.injEq] at he); first | exact he.elim | omega | exact he | (have := (HOx).own_lt he0; omega) | (have := zo_HOx _ he0; omega) | (have := (HOx).own_lt he0; rcases hi with hi | hi <;> omega))
   replace HPd := (HPd.ext e5).keep k50 (by intro h; have he0 := h; (try dsimp only at h); (try simp only [Value.ownBlock, Option.some.injEq] at h); (try simp only [add_block] at h); (try simp only [add_block] at he0); first | omega | (have := (HOx).own_lt he0; omega) | (have := zo_HOx _ he0; omega))
   replace HO5 := HO5.keep k50 (by intro i ho he; have he0 := he; have ho0 := ho; (try dsimp only [NoK] at he); (try simp only [Value.ownBlock, Option.some.injEq, reduceCtorEq] at ho); (try simp only [Value.ownBlock, Option.some.injEq, reduceCtorEq] at he); first | exact he.elim | exact ho.elim | omega | (have := zo_HO5 _ ho0; omega) | (have := (HOx).own_lt he0; omega) | (have := zo_HOx _ he0; omega) | (have := zo_HO5 _ ho0; have := (HOx).own_lt he0; omega)) (by intro i _ hi _ he; have he0 := he; have hi := hi; have he := he; (try dsimp only [NoK, AllB] at hi he); (try simp only [Value.ownBlock, Option.some.injEq, reduceCtorEq] at he); all_goals first | exact hi.elim | exact hi.1.elim | exact he.elim | omega | (rcases hi with hi | hi <;> omega) | (rcases he with he | he <;> omega) | (have := (HOx).own_lt he0; omega) | (have := zo_HOx _ he0; omega) | (have := (HOx).own_lt he0; rcases hi with hi | hi <;> omega))
   refine l_v (zaI rfl) (l_nil (n_then (⟨(i + 1, a50, c50), _, rfl, by (repeat (first | exact Off.of_over _ _ _ | refine Off.upd ?_ zq _ | refine Off.overs ?_ zq _)), ⟨by first | rfl | exact congrArg (Value.int _) zo | (simp; done), by first | rfl | exact congrArg (Value.int _) zo | (simp; done), trivial⟩, ⟨E, EL1, ?_⟩, ?_⟩)))
   ·
    exact ⟨by omega, HO50⟩
   (dsimp only; omega)
  refine wp_reg zd (l_v (zmS rfl) (l_to (to_slice1 (t := tU8) (et := 5) (bytes := 1) zk zq (zvI rfl) ((rep_u8 (F := NoK) 0 rfl)) ?_)))
  rintro b5 w5 zb5 HO5 e5 z5
  have := e5.size
  have zo_HO5 := fun (b : Nat) h => HO5.own_lt (b := b) h
  replace HOx := HOx.ext e5
  refine l_to (to_append (et := 5) (bytes := 1) zk (zvS rfl) HOx (zvS rfl) HO5.view (flat_u8.to) (by first | omega | (simp; done) | (simp; omega)) (by simp only [maxLen]; first | omega | (simp; done) | (simp; omega)) zo ?_)
  rintro a50 n50 c50 w50 HO50 hn50 k50 h50 i50
  have := k50.size
  subst hn50
  have h9 : refT (d.take i) ++ [0] = refT (d.take (i + 1)) := by rw [hsn, hb]; rfl
  rw [h9] at HO50 ⊢
  have zo_HO50 := fun (b : Nat) h => HO50.own_lt (b := b) h
  refine l_v (zaS rfl) (l_nil (n_blk (n_then (wp_reg zd (l_v (zmI rfl) (l_v (v_add rfl rfl (by first | exact wr_i64 zo zo | rfl)) ?_))))))
  replace E := (E.trans e5.keep).step k50 (by intro i hi he; have he0 := he; (try dsimp only [NoK] at hi he ⊢); (try simp only [Value.ownBlock, Option.some.injEq] at he); first | exact he.elim | omega | exact he | (have := (HOx).own_lt he0; omega) | (have := zo_HOx _ he0; omega) | (have := (HOx).own_lt he0; rcases hi with hi | hi <;> omega))
  replace HSm := (HSm.ext e5).keep k50 (by intro i _ hi he; have he0 := he; (try dsimp only [NoK, AllB] at hi he); (try simp only [Value.ownBlock, Option.some.injEq] at he); first | exact hi.elim | exact he.elim | omega | (rcases hi with hi | hi <;> omega) | (rcases he with he | he <;> omega) | (have := (HOx).own_lt he0; omega) | (have := zo_HOx _ he0; omega) | (have := (HOx).own_lt he0; rcases hi with hi | hi <;> omega))
  replace HSd := (HSd.ext e5).keep k50 (by intro i _ hi he; have he0 := he; (try dsimp only [NoK, AllB] at hi he); (try simp only [Value.ownBlock, Option.some.injEq] at he); first | exact hi.elim | exact he.elim | omega | (rcases hi with hi | hi <;> omega) | (rcases he with he | he <;> omega) | (have := (HOx).own_lt he0; omega) | (have := zo_HOx _ he0; omega) | (have := (HOx).own_lt he0; rcases hi with hi | hi <;> omega))
  replace HB1 := (HB1.ext e5).keep k50 (by intro h; have he0 := h; (try dsimp only at h); (try simp only [Value.ownBlock, Option.some.injEq] at h); first | omega | (have := (HOx).own_lt he0; omega) | (have := zo_HOx _ he0; omega))
  replace EL1 := (EL1.trans e5.keep).step k50 (by intro i hi he; have he0 := he; (try dsimp only [NoK] at hi he ⊢); (try simp only [Value.ownBlock, Option.some.injEq] at he); first | exact he.elim | omega | exact he | (have := (HOx).own_lt he0; omega) | (have := zo_HOx _ he0; omega) | (have := (HOx).own_lt he0; rcases hi with hi | hi <;> omega))
  replace HPd := (HPd.ext e5).keep k50 (by intro h; have he0 := h; (try dsimp only at h); (try simp only [Value.ownBlock, Option.some.injEq] at h); (try simp only [add_block] at h); (try simp only [add_block] at he0); first | omega | (have := (HOx).own_lt he0; omega) | (have := zo_HOx _ he0; omega))
  replace HO5 := HO5.keep k50 (by intro i ho he; have he0 := he; have ho0 := ho; (try dsimp only [NoK] at he); (try simp only [Value.ownBlock, Option.some.injEq, reduceCtorEq] at ho); (try simp only [Value.ownBlock, Option.some.injEq, reduceCtorEq] at he); first | exact he.elim | exact ho.elim | omega | (have := zo_HO5 _ ho0; omega) | (have := (HOx).own_lt he0; omega) | (have := zo_HOx _ he0; omega) | (have := zo_HO5 _ ho0; have := (HOx).own_lt he0; omega)) (by intro i _ hi _ he; have he0 := he; have hi := hi; have he := he; (try dsimp only [NoK, AllB] at hi he); (try simp only [Value.ownBlock, Option.some.injEq, reduceCtorEq] at he); all_goals first | exact hi.elim | exact hi.1.elim | exact he.elim | omega | (rcases hi with hi | hi <;> omega) | (rcases he with he | he <;> omega) | (have := (HOx).own_lt he0; omega) | (have := zo_HOx _ he0; omega) | (have := (HOx).own_lt he0; rcases hi with hi | hi <;> omega))
  refine l_v (zaI rfl) (l_nil (n_then (⟨(i + 1, a50, c50), _, rfl, by (repeat (first | exact Off.of_over _ _ _ | refine Off.upd ?_ zq _ | refine Off.overs ?_ zq _)), ⟨by first | rfl | exact congrArg (Value.int _) zo | (simp; done), by first | rfl | exact congrArg (Value.int _) zo | (simp; done), trivial⟩, ⟨E, EL1, ?_⟩, ?_⟩)))
  ·
   exact ⟨by omega, HO50⟩
  (dsimp only; omega)
 have hie : i = d.length := by have := dfalse hlt; omega
 subst hie
 rw [List.take_length] at HOx
 refine c_exit (x_then (x_then (x_hit (n_then (c_seq (c_seq (wp_reg zd (l_v (v_assign rfl) (l_nil ?_)))))))))
 refine n_then (c_block (c_loop (τ := Nat × Option Addr × Nat) [5, 7, 30, 31, 32, 33, 34, 35, 36, 37, 38, 39, 40, 41, 42, 43, 44, 45, 46, 47, 48, 49, 50, 51, 52, 53, 54, 55, 56, 57, 58, 59, 60, 61, 62, 63, 64, 65, 66, 67] (fun (i, a, c) => [(5, .slice a (refT d ++ mTx (m.take i)).length c), (7, .int .i64 i)]) (fun (i, a, c) W => Ext w W ∧ Keep (fun b => n1 ≤ b) w101 W ∧ i ≤ m.length ∧ OwV tU8 5 W n1 NoK (.slice a (refT d ++ mTx (m.take i)).length c) (refT d ++ mTx (m.take i))) (fun (i, a, c) => m.length - i) (0, a, c) (by exact ⟨(by show (Value.slice a (refT (List.take d.length d)).length c) = _; simp [mTx]), rfl, trivial⟩) (by exact ⟨E, Keep.refl _, Nat.zero_le _, by simpa [mTx] using HOx⟩) ?_))
 rintro ⟨i, a, c⟩ w102 j ⟨E, EL2, h1, HOx⟩
 have := EL2.size
 have zo_HOx := fun (b : Nat) h => HOx.own_lt (b := b) h
 refine c_seq (c_seq (wp_reg zd (l_v (zmI rfl) (l_v (zmS rfl) (l_v (v_len (et := 50) zk rfl) ?_)))))
 refine l_v (v_lss rfl rfl) ?_
 replace HSm := HSm.keep EL2 dj1
 refine l_nil (n_then (c_cond rfl rfl (fun hlt => ?_) (fun hlt => ?_)))
 ·
  have hlt := dtrue hlt
  have hlm := hlt' i
  have hla : (refT d ++ mTx (m.take i)).length ≤ 32 + 66 * m.length := by rw [List.length_append]; omega
  obtain ⟨p, hx, _⟩ := getE (l := m) (i := i) zo
  have hpl := okP_len (hok p (List.mem_of_getElem? hx))
  obtain ⟨q, cs, hqq, hF, _, HPq, hr⟩ := HSm.el hx
  subst hqq
  obtain ⟨a1, c1, a2, c2, rfl, HSk, HSv⟩ := tPr_cells hr
  refine c_skip (n_then (c_seq (c_block (c_seq (wp_any zk ?_)))))
  have e103 : Ext w102 { w102 with drawn := w102.drawn + 1 } := Keep.drawn _ _
  generalize hw103 : ({ w102 with drawn := w102.drawn + 1 } : World) = w103 at e103 ⊢
  clear hw103
  have := e103.size
  replace HOx := HOx.ext e103
  refine wp_regJW (fun k => (.slice a (refT d ++ mTx (m.take i)).length c : Value).ownBlock = some k ∨ w103.heap.size ≤ k) (EqJ [(25, 24)] (ChainJ (tU8) (5) w103.heap.size (n1) (NoK) (AllB) (.slice a (refT d ++ mTx (m.take i)).length c : Value) (refT d ++ mTx (m.take i)) [9, 15, 24] [some 8, none, some 23] [[UInt8.ofNat p.1.length], p.1, [UInt8.ofNat p.2.length]])) zd zd (fun vals done hd => EqJ.start (ChainJ.start (HOx) (zo) (Nat.le_refl _) (fun i hi => hd i (dOf_lt zq hi))) (fun k j hq => hd k (dQ_lt zq k j hq))) ?_
  refine rj_v (EqJ.on ChainJ.on) zq (fun done vals w hR hJ hdn hd => zmS rfl) ?_
  refine rj_v (EqJ.on ChainJ.on) zq (fun done vals w hR hJ hdn hd => zmS rfl) ?_
  refine rj_v (EqJ.on ChainJ.on) zq (fun done vals w hR hJ hdn hd => zmI rfl) ?_
  refine rj_v (EqJ.on ChainJ.on) zq (fun done vals w hR hJ hdn hd => v_indexAddr (et := 50) (sz := 2) (k := i) zk zk (hd 1 rfl) (hd 2 rfl) (by first | rfl | omega) zo) ?_
  refine rj_v (EqJ.on ChainJ.on) zq (fun done vals w hR hJ hdn hd => v_fieldAddr (off := 0) (ft := 26) zk (hd 3 rfl)) ?_
  replace HPq := HPq.ext e103
  refine rj_v (EqJ.on ChainJ.on) zq (fun done vals w hR hJ hdn hd => v_load zk (hd 4 rfl) (by first | exact (HPq.keep hR (by intro h; have he0 := h; (try dsimp only at h); (try simp only [Value.ownBlock, Option.some.injEq] at h); (try simp only [add_block] at h); (try simp only [add_block] at he0); first | omega | (have := (HOx).own_lt he0; omega) | (have := zo_HOx _ he0; omega) | (rcases he0 with he0 | he0; (have := (HOx).own_lt he0; omega); omega))) 0 _ rfl | assumption)) ?_
  refine rj_v (EqJ.on ChainJ.on) zq (fun done vals w hR hJ hdn hd => v_len (et := 5) zk (hd 5 rfl)) ?_
  refine rj_v (EqJ.on ChainJ.on) zq (fun done vals w hR hJ hdn hd => v_conv (t := (((UInt8.ofNat p.1.length).toNat : Nat) : Int)) (ds := .int .i64) zk zk (hd 6 rfl) (byteN _)) ?_
  replace E := E.trans e103.keep
  replace HSm := HSm.ext e103
  replace EL2 := EL2.trans e103.keep
  replace HSk := HSk.ext e103
  replace HSv := HSv.ext e103
  refine rj_d (fun done vals w hR hcl hdk hJ hdn hd => by
    have := hR.size
    exact to_slice1 (t := tU8) (et := 5) (bytes := 1) zk zq (hd 7 rfl) ((rep_u8 (F := NoK) (UInt8.ofNat p.1.length) rfl)) (fun b w1 hb HO e z => ⟨Ext.keep e, hJ.step hdk zq (hJ.1.prodO (n := 0) e rfl rfl (once_ps zq) zq (HO.view.mono fun b' hb' hF => by rcases hF with hF | hF; exact ⟨by first | trivial | omega | (dsimp only; omega), .inl zo⟩; (have h5 := hF.1; (try dsimp only at h5); first | exact h5.elim | exact ⟨by first | trivial | omega | (dsimp only; omega), .inr ⟨by omega, by simp [Value.ownBlock]⟩⟩)))⟩)) ?_
  refine rj_d (fun done vals w hR hcl hdk hJ hdn hd => by
    have := hR.size
    obtain ⟨hacc, hown, hsrc⟩ := hJ.1.at (n := 0) rfl hdk (fun m h => by cases h)
    exact to_append (et := 5) (bytes := 1) zk (hd 0 rfl) hacc rfl (hsrc _ _ rfl rfl (hdn 8 rfl)) flat_u8.to (by (simp; omega)) (by simp only [maxLen]; (simp; omega)) zo (fun a n cc w1 o hn kk ho _ => ⟨kk.mono (fun b _ h => hown b h), hJ.step hdk zq (hJ.1.app (n := 0) rfl hdk (fun m h => by cases h) rfl (once_as zq) (ps_ne zq) o kk ho)⟩)) ?_
  refine rj_v (EqJ.on ChainJ.on) zq (fun done vals w hR hJ hdn hd => zmS rfl) ?_
  refine rj_v (EqJ.on ChainJ.on) zq (fun done vals w hR hJ hdn hd => zmI rfl) ?_
  refine rj_v (EqJ.on ChainJ.on) zq (fun done vals w hR hJ hdn hd => v_indexAddr (et := 50) (sz := 2) (k := i) zk zk (hd 10 rfl) (hd 11 rfl) (by first | rfl | omega) zo) ?_
  refine rj_v (EqJ.on ChainJ.on) zq (fun done vals w hR hJ hdn hd => v_fieldAddr (off := 0) (ft := 26) zk (hd 12 rfl)) ?_
  refine rj_v (EqJ.on ChainJ.on) zq (fun done vals w hR hJ hdn hd => v_load zk (hd 13 rfl) (by first | exact (HPq.keep hR (by intro h; have he0 := h; (try dsimp only at h); (try simp only [Value.ownBlock, Option.some.injEq] at h); (try simp only [add_block] at h); (try simp only [add_block] at he0); first | omega | (have := (HOx).own_lt he0; omega) | (have := zo_HOx _ he0; omega) | (rcases he0 with he0 | he0; (have := (HOx).own_lt he0; omega); omega))) 0 _ rfl | assumption)) ?_
  refine rj_d (fun done vals w hR hcl hdk hJ hdn hd => by
    have := hR.size
    obtain ⟨hacc, hown, hsrc⟩ := hJ.1.at (n := 1) rfl hdk (fun m h => ⟨9, by cases h; rfl, hdn 9 rfl⟩)
    exact to_append (et := 5) (bytes := 1) zk rfl hacc (hd 14 rfl) (HSk.keep hR (by intro i _ hi he; (try dsimp only at hi he); exact he.elim (fun he => by have := zo_HOx _ he; omega) (fun he => by omega))) flat_u8.to (by (simp; omega)) (by simp only [maxLen]; (simp; omega)) zo (fun a n cc w1 o hn kk ho _ => ⟨kk.mono (fun b _ h => hown b h), hJ.step hdk zq (hJ.1.app (n := 1) rfl hdk (fun m h => ⟨9, by cases h; rfl, hdn 9 rfl⟩) rfl (once_as zq) (ps_ne zq) o kk ho)⟩)) ?_
  refine rj_v (EqJ.on ChainJ.on) zq (fun done vals w hR hJ hdn hd => zmS rfl) ?_
  refine rj_v (EqJ.on ChainJ.on) zq (fun done vals w hR hJ hdn hd => zmI rfl) ?_
  refine rj_v (EqJ.on ChainJ.on) zq (fun done vals w hR hJ hdn hd => v_indexAddr (et := 50) (sz := 2) (k := i) zk zk (hd 16 rfl) (hd 17 rfl) (by first | rfl | omega) zo) ?_
  refine rj_v (EqJ.on ChainJ.on) zq (fun done vals w hR hJ hdn hd => v_fieldAddr (off := 1) (ft := 26) zk (hd 18 rfl)) ?_
  refine rj_v (EqJ.on ChainJ.on) zq (fun done vals w hR hJ hdn hd => v_load zk (hd 19 rfl) (by first | exact (HPq.keep hR (by intro h; have he0 := h; (try dsimp only at h); (try simp only [Value.ownBlock, Option.some.injEq] at h); (try simp only [add_block] at h); (try simp only [add_block] at he0); first | omega | (have := (HOx).own_lt he0; omega) | (have := zo_HOx _ he0; omega) | (rcases he0 with he0 | he0; (have := (HOx).own_lt he0; omega); omega))) 1 _ rfl | exact pv_1 (HPq.keep hR (by intro h; have he0 := h; (try dsimp only at h); (try simp only [Value.ownBlock, Option.some.injEq] at h); (try simp only [add_block] at h); (try simp only [add_block] at he0); first | omega | (have := (HOx).own_lt he0; omega) | (have := zo_HOx _ he0; omega) | (rcases he0 with he0 | he0; (have := (HOx).own_lt he0; omega); omega))) | assumption)) ?_
  refine rj_v (EqJ.on ChainJ.on) zq (fun done vals w hR hJ hdn hd => v_len (et := 5) zk (hd 20 rfl)) ?_
  refine rj_v (EqJ.on ChainJ.on) zq (fun done vals w hR hJ hdn hd => v_conv (t := (((UInt8.ofNat p.2.length).toNat : Nat) : Int)) (ds := .int .i64) zk zk (hd 21 rfl) (byteN _)) ?_
  refine rj_d (fun done vals w hR hcl hdk hJ hdn hd => by
    have := hR.size
    exact to_slice1 (t := tU8) (et := 5) (bytes := 1) zk zq (hd 22 rfl) ((rep_u8 (F := NoK) (UInt8.ofNat p.2.length) rfl)) (fun b w1 hb HO e z => ⟨Ext.keep e, hJ.step hdk zq (hJ.1.prodO (n := 2) e rfl rfl (once_ps zq) zq (HO.view.mono fun b' hb' hF => by rcases hF with hF | hF; exact ⟨by first | trivial | omega | (dsimp only; omega), .inl zo⟩; (have h5 := hF.1; (try dsimp only at h5); first | exact h5.elim | exact ⟨by first | trivial | omega | (dsimp only; omega), .inr ⟨by omega, by simp [Value.ownBlock]⟩⟩)))⟩)) ?_
  refine rj_d (fun done vals w hR hcl hdk hJ hdn hd => by
    have := hR.size
    obtain ⟨hacc, hown, hsrc⟩ := hJ.1.at (n := 2) rfl hdk (fun m h => ⟨15, by cases h; rfl, hdn 15 rfl⟩)
    exact to_append (et := 5) (bytes := 1) zk rfl hacc rfl (hsrc _ _ rfl rfl (hdn 23 rfl)) flat_u8.to (by (simp; omega)) (by simp only [maxLen]; (simp; omega)) zo (fun a n cc w1 o hn kk ho _ => ⟨kk.mono (fun b _ h => hown b h), hJ.step hdk zq (hJ.1.app (n := 2) rfl hdk (fun m h => ⟨15, by cases h; rfl, hdn 15 rfl⟩) rfl (once_as zq) (ps_ne zq) o kk ho)⟩)) ?_
  have hlb : (refT d ++ mTx (m.take i) ++ [UInt8.ofNat p.1.length] ++ p.1 ++ [UInt8.ofNat p.2.length]).length ≤ 32 + 66 * m.length + 26 := by simp only [List.length_append, List.length_singleton]; simp only [List.length_append] at hla; omega
  refine rj_d (fun done vals w hR hcl hdk hJ hdn hd => OpTo.of_v (v_assign rfl) ⟨Keep.refl _, hJ.mv ChainJ.on zq hdk (hdn 24 rfl) zq⟩) ?_
  refine rj_nil (fun vals w104 k104 J104 => ?_)
  rintro _ _ rfl _ _ rfl _ _ rfl _ _ rfl _ _ rfl _ _ rfl _ _ rfl _ _ rfl _ rfl - _ rfl - _ _ rfl _ _ rfl _ _ rfl _ _ rfl _ _ rfl _ rfl - _ _ rfl _ _ rfl _ _ rfl _ _ rfl _ _ rfl _ _ rfl _ _ rfl _ rfl - v60 hv60 - m25 hm25 -
  have := k104.size
  have HO60 : OwV (tU8) (5) w104 (n1) (NoK) v60 (refT d ++ mTx (m.take i) ++ [UInt8.ofNat p.1.length] ++ p.1 ++ [UInt8.ofNat p.2.length]) := by
   have h := J104.1.fin (by exact Nat.le_refl _)
   have h2 : refT d ++ mTx (m.take i) ++ ([[UInt8.ofNat p.1.length], p.1, [UInt8.ofNat p.2.length]]).flatten = refT d ++ mTx (m.take i) ++ [UInt8.ofNat p.1.length] ++ p.1 ++ [UInt8.ofNat p.2.length] := by simp
   rw [h2] at h; rw [hv60]; exact h
  obtain rfl : m25 = v60 := by rw [hm25, hv60, (J104.2 25 24 zq rfl).2]
  clear hm25
  clear hv60
  obtain ⟨a60, c60, rfl⟩ := HO60.shape
  have zo_HO60 := fun (b : Nat) h => HO60.own_lt (b := b) h
  refine fin_nilJ (n_then (wp_reg zd (l_v (zmS rfl) (l_v (zmS rfl) (l_v (zmI rfl) (l_v (v_indexAddr (et := 50) (sz := 2) (k := i) zk zk rfl rfl (by first | rfl | omega) zo) ?_))))))
  replace HPq := HPq.keep k104 (by intro h; have he0 := h; (try dsimp only at h); (try simp only [Value.ownBlock, Option.some.injEq] at h); (try simp only [add_block] at h); (try simp only [add_block] at he0); first | omega | (have := (HOx).own_lt he0; omega) | (have := zo_HOx _ he0; omega) | (rcases he0 with he0 | he0; (have := (HOx).own_lt he0; omega); omega))
  refine l_v (v_fieldAddr (off := 1) (ft := 26) zk rfl) (l_v (v_load zk rfl (by first | exact HPq 1 _ rfl | exact pv_1 HPq | assumption)) ?_)
  replace HSv := HSv.keep k104 (by intro i _ hi he; have he0 := he; (try dsimp only [NoK, AllB] at hi he); (try simp only [Value.ownBlock, Option.some.injEq] at he); first | exact hi.elim | exact he.elim | omega | (rcases hi with hi | hi <;> omega) | (rcases he with he | he <;> omega) | (have := (HOx).own_lt he0; omega) | (have := zo_HOx _ he0; omega) | (have := (HOx).own_lt he0; rcases hi with hi | hi <;> omega) | (rcases he0 with he0 | he0; (have := (HOx).own_lt he0; omega); omega))
  refine l_to (to_append (et := 5) (bytes := 1) zk (zvS rfl) HO60 (zvS rfl) HSv (flat_u8.to) (by first | omega | (simp; done) | (simp; omega)) (by simp only [maxLen]; first | omega | (simp; done) | (simp; omega)) zo ?_)
  rintro a50 n50 c50 w50 HO50 hn50 k50 h50 i50
  have := k50.size
  subst hn50
  have h9 : refT d ++ mTx (m.take i) ++ [UInt8.ofNat p.1.length] ++ p.1 ++ [UInt8.ofNat p.2.length] ++ p.2 = refT d ++ mTx (m.take (i + 1)) := by rw [mTx_snoc hx]; simp [prTx]
  rw [h9] at HO50 ⊢
  have zo_HO50 := fun (b : Nat) h => HO50.own_lt (b := b) h
  refine l_v (zaS rfl) (l_nil (n_blk (n_then (wp_reg zd (l_v (zmI rfl) (l_v (v_add rfl rfl (by first | exact wr_i64 zo zo | rfl)) ?_))))))
  replace E := (E.step k104 (by intro i hi he; have he0 := he; (try dsimp only [NoK] at hi he ⊢); (try simp only [Value.ownBlock, Option.some.injEq] at he); first | exact he.elim | omega | exact he | (have := (HOx).own_lt he0; omega) | (have := zo_HOx _ he0; omega) | (have := (HOx).own_lt he0; rcases hi with hi | hi <;> omega) | (rcases he0 with he0 | he0; (have := (HOx).own_lt he0; omega); omega))).step k50 (by intro i hi he; have he0 := he; (try dsimp only [NoK] at hi he ⊢); (try simp only [Value.ownBlock, Option.some.injEq] at he); first | exact he.elim | omega | exact he | (have := (HO60).own_lt he0; omega) | (have := zo_HO60 _ he0; omega) | (have := (HO60).own_lt he0; rcases hi with hi | hi <;> omega))
  replace HSm := (HSm.keep k104 (by intro i _ hi he; have he0 := he; (try dsimp only [NoK, AllB] at hi he); (try simp only [Value.ownBlock, Option.some.injEq] at he); first | exact hi.elim | exact he.elim | omega | (rcases hi with hi | hi <;> omega) | (rcases he with he | he <;> omega) | (have := (HOx).own_lt he0; omega) | (have := zo_HOx _ he0; omega) | (have := (HOx).own_lt he0; rcases hi with hi | hi <;> omega) | (rcases he0 with he0 | he0; (have := (HOx).own_lt he0; omega); omega))).keep k50 (by intro i _ hi he; have he0 := he; (try dsimp only [NoK, AllB] at hi he); (try simp only [Value.ownBlock, Option.some.injEq] at he); first | exact hi.elim | exact he.elim | omega | (rcases hi with hi | hi <;> omega) | (rcases he with he | he <;> omega) | (have := (HO60).own_lt he0; omega) | (have := zo_HO60 _ he0; omega) | (have := (HO60).own_lt he0; rcases hi with hi | hi <;> omega))
  replace EL2 := (EL2.step k104 (by intro i hi he; have he0 := he; (try dsimp only [NoK] at hi he ⊢); (try simp only [Value.ownBlock, Option.some.injEq] at he); first | exact he.elim | omega | exact he | (have := (HOx).own_lt he0; omega) | (have := zo_HOx _ he0; omega) | (have := (HOx).own_lt he0; rcases hi with hi | hi <;> omega) | (rcases he0 with he0 | he0; (have := (HOx).own_lt he0; omega); omega))).step k50 (by intro i hi he; have he0 := he; (try dsimp only [NoK] at hi he ⊢); (try simp only [Value.ownBlock, Option.some.injEq] at he); first | exact he.elim | omega | exact he | (have := (HO60).own_lt he0; omega) | (have := zo_HO60 _ he0; omega) | (have := (HO60).own_lt he0; rcases hi with hi | hi <;> omega))
  replace HSk := (HSk.keep k104 (by intro i _ hi he; have he0 := he; (try dsimp only [NoK, AllB] at hi he); (try simp only [Value.ownBlock, Option.some.injEq] at he); first | exact hi.elim | exact he.elim | omega | (rcases hi with hi | hi <;> omega) | (rcases he with he | he <;> omega) | (have := (HOx).own_lt he0; omega) | (have := zo_HOx _ he0; omega) | (have := (HOx).own_lt he0; rcases hi with hi | hi <;> omega) | (rcases he0 with he0 | he0; (have := (HOx).own_lt he0; omega); omega))).keep k50 (by intro i _ hi he; have he0 := he; (try dsimp only [NoK, AllB] at hi he); (try simp only [Value.ownBlock, Option.some.injEq] at he); first | exact hi.elim | exact he.elim | omega | (rcases hi with hi | hi <;> omega) | (rcases he with he | he <;> omega) | (have := (HO60).own_lt he0; omega) | (have := zo_HO60 _ he0; omega) | (have := (HO60).own_lt he0; rcases hi with hi | hi <;> omega))
  replace HPq := HPq.keep k50 (by intro h; have he0 := h; (try dsimp only at h); (try simp only [Value.ownBlock, Option.some.injEq] at h); (try simp only [add_block] at h); (try simp only [add_block] at he0); first | omega | (have := (HO60).own_lt he0; omega) | (have := zo_HO60 _ he0; omega))
  replace HSv := HSv.keep k50 (by intro i _ hi he; have he0 := he; (try dsimp only [NoK, AllB] at hi he); (try simp only [Value.ownBlock, Option.some.injEq] at he); first | exact hi.elim | exact he.elim | omega | (rcases hi with hi | hi <;> omega) | (rcases he with he | he <;> omega) | (have := (HO60).own_lt he0; omega) | (have := zo_HO60 _ he0; omega) | (have := (HO60).own_lt he0; rcases hi with hi | hi <;> omega))
  refine l_v (zaI rfl) (l_nil (n_then (⟨(i + 1, a50, c50), _, rfl, by (repeat (first | exact Off.of_over _ _ _ | refine Off.upd ?_ zq _ | refine Off.overs ?_ zq _)), ⟨by first | rfl | exact congrArg (Value.int _) zo | (simp; done), by first | rfl | exact congrArg (Value.int _) zo | (simp; done), trivial⟩, ⟨E, EL2, ?_⟩, ?_⟩)))
  ·
   exact ⟨by omega, HO50⟩
  (dsimp only; omega)
 refine c_exit (x_then (x_then (x_hit (n_then (c_seq (wp_reg zd (l_v (zmS rfl) (l_v (v_b2s (et := 5) zk zk zk rfl (by first | exact HOx.view | exact HSm | assumption)) ?_))))))))
 refine l_v (v_assign (t := .string _) rfl) (l_nil (n_then (c_ret (ret1v rfl zq (zvG rfl) ?_))))
 refine ⟨?_, E⟩
 rw [List.take_of_length_le (by have := dfalse hlt; omega)]
 rfl
end Go.Proofs.Ytifnkmflmgnfjaa
