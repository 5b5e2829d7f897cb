/- A part of the proof: steps and lemmas for the walks through the given program. -/
import Derived.Test.YteehplloacefmaaR12
import Derived.Test.YteehplloacefmaaC8
import Derived.Test.YteehplloacefmaaMPl
import Derived.Test.YteehplloacefmaaGc
namespace Go.Proofs.Yteehplloacefmaa
open Go.Vc
set_option linter.unusedVariables false
set_option linter.unusedSimpArgs false
set_option maxRecDepth 100000

def idxM {α : Type} (p : α → Bool) : List α → Nat → Int
  | [], _ => -1
  | r :: l, i => if p r = true then (i : Int) else idxM p l (i + 1)
theorem idxM_opt {α : Type} (p : α → Bool) : ∀ (l : List α) (i : Nat), idxM p l i = (match l.findIdx? p with | some j => ((i + j : Nat) : Int) | none => -1)
  | [], i => rfl
  | r :: l, i => by
    rw [idxM, List.findIdx?_cons]
    cases hp : p r with
    | true => simp
    | false =>
      simp only [Bool.false_eq_true, if_false]
      rw [idxM_opt p l (i + 1)]
      cases l.findIdx? p with
      | none => rfl
      | some j => show (((i + 1) + j : Nat) : Int) = ((i + (j + 1) : Nat) : Int); omega
theorem idxM_begI {rs : List RgV} {k : List UInt8} : idxM (begB k) rs 0 = optI (begI rs k) := by
  rw [idxM_opt, begI]; cases rs.findIdx? (begB k) <;> simp [optI]
theorem IndexFuncR_c {w : World} {F : Nat → Prop} {v : Value} {xs : List RgV} {fn : Nat} {cap : Array Value} {p : RgV → Bool} (HSx : SlV tRg w F v xs) (hb : kBody Try.prog fn = true)
    (his : ∀ W u r, Ext w W → AgV tRg W F u r → CallsR Try.prog fn (#[u] ++ cap) W (fun o W' => o = .bool (p r) ∧ Ext W W')) :
    CallsR Try.prog 63 #[v, .func (.func fn) #[] cap] w (fun o w' => o = .int .i64 (idxM p xs 0) ∧ Ext w w') := by
 obtain ⟨a, c, rfl⟩ := HSx.shape
 have hmx := HSx.len_max
 refine enter 19 Try.func63 rfl rfl (by simp) ?_
 refine c_seq ?_
 have E := Keep.refl (K := NoK) w
 refine wp_reg zd (l_v (v_assign rfl) (l_nil (n_then (c_seq (c_seq (wp_reg zd (l_v (zmS rfl) (l_v (v_len (et := 63) zk rfl) ?_))))))))
 refine l_v (v_move rfl) (l_nil (n_then (c_block (c_loop (τ := Nat) [4, 5, 8, 9, 10, 11, 12, 13, 14, 15, 16, 17, 18] (fun i => [(8, .int .i64 i)]) (fun i W => Ext w W ∧ Keep (NoK) w W ∧ i ≤ xs.length ∧ idxM p xs 0 = idxM p (xs.drop i) i) (fun i => xs.length - i) 0 (by exact ⟨rfl, trivial⟩) (by exact ⟨E, Keep.refl _, Nat.zero_le _, rfl⟩) ?_))))
 rintro i w101 j ⟨E, EL1, h1, h2⟩
 have := EL1.size
 refine c_seq (wp_reg zd (l_v (v_lss rfl rfl) ?_))
 replace HSx := HSx.ext EL1
 refine l_nil (n_then (c_seq (c_cond rfl rfl (fun hlt => ?_) (fun hlt => ?_))))
 ·
  have hlt := dtrue hlt
  obtain ⟨r, hx, hdr⟩ := getE (l := xs) (i := i) zo
  obtain ⟨q, cs, hq, hF, _, HPq, hr⟩ := HSx.el hx
  subst hq
  have HGq : AgV tRg _ F _ r := ⟨cs, rfl, hr⟩
  obtain ⟨a1, c1, a2, c2, rfl, _⟩ := tRg_cells hr
  refine c_skip (n_then (c_seq (c_block (c_seq (wp_reg zd (l_v (zmI rfl) (l_v (zaI rfl) (l_nil (n_then ?_)))))))))
  refine c_seq (wp_reg zd (l_v (zmF rfl) (l_v (zmS rfl) (l_v (zmI rfl) (l_v (v_indexAddr (et := 63) (sz := 4) (k := i) zk zk rfl rfl (by first | rfl | omega) zo) ?_)))))
  refine l_v (v_loadA zk rfl (by first | exact HPq | assumption) rfl) ?_
  refine l_to (to_call1 hb rfl (zvA rfl) (CallsR.mono (his _ _ _ E HGq) ?_))
  rintro _ w9 ⟨rfl, e9⟩
  have := e9.size
  replace E := E.trans e9.keep
  replace HSx := HSx.ext e9
  replace EL1 := EL1.trans e9.keep
  replace HPq := HPq.ext e9
  replace HGq := HGq.ext e9
  refine l_nil (n_then (c_cond rfl rfl (fun hc => ?_) (fun hc => ?_)))
  ·
   refine c_seq (wp_reg zd (l_v (zmI rfl) (l_v (zaI rfl) (l_nil (n_then (c_ret (r_blk (r_then (r_then ?_)))))))))
   refine r_blk (r_then (ret1v rfl zq (zvI rfl) ?_))
   refine ⟨?_, E⟩
   rw [h2, hdr, idxM, if_pos hc]
  refine c_skip (n_blk (n_then (wp_reg zd (l_v (v_add rfl rfl (by first | exact wr_i64 zo zo | rfl)) ?_))))
  refine l_v (zmI rfl) (l_nil (n_then (⟨i + 1, _, rfl, by (repeat (first | exact Off.of_over _ _ _ | refine Off.upd ?_ zq _ | refine Off.overs ?_ zq _)), ⟨by first | rfl | exact congrArg (Value.int _) zo | (simp; done), trivial⟩, ⟨E, EL1, ?_⟩, ?_⟩)))
  ·
   refine ⟨by omega, ?_⟩
   rw [h2, hdr, idxM, if_neg (by simp [hc])]
  (dsimp only; omega)
 refine c_exit (x_then (x_then (x_hit (n_then (c_seq (wp_reg zd (l_v (v_assign rfl) (l_nil (n_then ?_)))))))))
 refine c_ret (ret1v rfl zq (zvI rfl) ?_)
 refine ⟨?_, E⟩
 rw [h2, List.drop_eq_nil_of_le (by have := dfalse hlt; omega)]; rfl
theorem findMa_c {w : World} {F : Nat → Prop} {v : Value} {xs : List MaV} {fn : Nat} {cap : Array Value} {p : MaV → Bool} (HSx : SlV tMa w F v xs) (hb : kBody Try.prog fn = true)
    (his : ∀ W u r, Ext w W → AgV tMa W (fun b => b < w.heap.size) u r → CallsR Try.prog fn (#[u] ++ cap) W (fun o W' => o = .bool (p r) ∧ Ext W W')) :
    CallsR Try.prog 57 #[v, .func (.func fn) #[] cap] w (fun o w' => o = .int .i64 (idxM p xs 0) ∧ Ext w w') := by
 obtain ⟨a, c, rfl⟩ := HSx.shape
 have hmx := HSx.len_max
 refine enter 19 Try.func57 rfl rfl (by simp) ?_
 refine c_seq ?_
 have E := Keep.refl (K := NoK) w
 replace HSx := HSx.all
 refine wp_reg zd (l_v (v_assign rfl) (l_nil (n_then (c_seq (c_seq (wp_reg zd (l_v (zmS rfl) (l_v (v_len (et := 54) zk rfl) ?_))))))))
 refine l_v (v_move rfl) (l_nil (n_then (c_block (c_loop (τ := Nat) [4, 5, 6, 9, 10, 11, 12, 13, 14, 15, 16, 17, 18] (fun i => [(9, .int .i64 i)]) (fun i W => Ext w W ∧ Keep (NoK) w W ∧ i ≤ xs.length ∧ idxM p xs 0 = idxM p (xs.drop i) i) (fun i => xs.length - i) 0 (by exact ⟨rfl, trivial⟩) (by exact ⟨E, Keep.refl _, Nat.zero_le _, rfl⟩) ?_))))
 rintro i w101 j ⟨E, EL1, h1, h2⟩
 have := EL1.size
 refine c_seq (wp_reg zd (l_v (v_lss rfl rfl) ?_))
 replace HSx := HSx.ext EL1
 refine l_nil (n_then (c_seq (c_cond rfl rfl (fun hlt => ?_) (fun hlt => ?_))))
 ·
  have hlt := dtrue hlt
  obtain ⟨r, hx, hdr⟩ := getE (l := xs) (i := i) zo
  obtain ⟨q, cs, hq, hF, _, HPq, hr⟩ := HSx.el hx
  subst hq
  have HGq : AgV tMa _ (fun b => b < w.heap.size) _ r := ⟨cs, rfl, hr⟩
  obtain ⟨a1, c1, a2, c2, rfl, _⟩ := tMa_cells hr
  refine c_skip (n_then (c_seq (c_block (c_seq (wp_reg zd (l_v (zmI rfl) (l_v (v_indexAddr (et := 54) (sz := 7) (k := i) zk zk rfl rfl (by first | rfl | omega) zo) ?_)))))))
  refine l_v (v_loadA zk rfl (by first | exact HPq | assumption) rfl) ?_
  refine l_to (to_alloc (z := (.agg #[.int .i64 0, .slice none 0 0, .slice none 0 0, .bool false, .int .i64 0, .int .i64 0, .bool false])) (by unfold kZero; kernel_rfl) ?_)
  rintro b6 w6 zb6 HB6 e6 z6
  have := e6.size
  try simp only [Value.cells] at HB6
  refine l_v (zaI rfl) (l_to (to_storeA (n := 7) rfl rfl (zvA rfl) zk rfl (by first | (simp [slice_one]; done) | (simp only [List.forall_mem_cons, List.cons_append, List.nil_append]; repeat' (first | exact rfl | apply And.intro | (intro u hu; cases hu; done)))) HB6 dj5 ?_))
  rintro w7 HB6 k7 z7
  have := k7.size
  try simp only [zS, Nat.zero_add, Nat.reduceAdd, List.drop_nil] at HB6
  replace HPq := (HPq.ext e6).keep k7 (by intro h; (try dsimp only at h); (try simp only [add_block] at h); first | omega)
  refine l_nil (n_then (c_seq (wp_reg zd (l_v (zmF rfl) (l_v (v_loadA zk rfl (by first | exact HB6.pv | exact HPq | assumption) rfl) ?_)))))
  replace E := (E.trans e6.keep).step k7 dj3
  replace HGq := (HGq.ext e6).keep k7 dj1
  refine l_to (to_call1 hb rfl (zvA rfl) (CallsR.mono (his _ _ _ E HGq) ?_))
  replace HSx := (HSx.ext e6).keep k7 dj1
  rintro _ w9 ⟨rfl, e9⟩
  have := e9.size
  replace EL1 := ((EL1.trans e6.keep).step k7 dj3).trans e9.keep
  replace E := E.trans e9.keep
  replace HSx := HSx.ext e9
  replace HPq := HPq.ext e9
  replace HGq := HGq.ext e9
  replace HB6 := HB6.ext e9
  refine l_nil (n_then (c_cond rfl rfl (fun hc => ?_) (fun hc => ?_)))
  ·
   refine c_seq (wp_reg zd (l_v (zmI rfl) (l_v (zaI rfl) (l_nil (n_then (c_ret (r_blk (r_then (r_then ?_)))))))))
   refine r_blk (r_then (ret1v rfl zq (zvI rfl) ?_))
   refine ⟨?_, E⟩
   rw [h2, hdr, idxM, if_pos hc]
  refine c_skip (n_blk (n_then (wp_reg zd (l_v (v_add rfl rfl (by first | exact wr_i64 zo zo | rfl)) ?_))))
  refine l_v (zmI rfl) (l_nil (n_then (⟨i + 1, _, rfl, by (repeat (first | exact Off.of_over _ _ _ | refine Off.upd ?_ zq _ | refine Off.overs ?_ zq _)), ⟨by first | rfl | exact congrArg (Value.int _) zo | (simp; done), trivial⟩, ⟨E, EL1, ?_⟩, ?_⟩)))
  ·
   refine ⟨by omega, ?_⟩
   rw [h2, hdr, idxM, if_neg (by simp [hc])]
  (dsimp only; omega)
 refine c_exit (x_then (x_then (x_hit (n_then (c_seq (wp_reg zd (l_v (v_assign rfl) (l_nil (n_then ?_)))))))))
 refine c_ret (ret1v rfl zq (zvI rfl) ?_)
 refine ⟨?_, E⟩
 rw [h2, List.drop_eq_nil_of_le (by have := dfalse hlt; omega)]; rfl
theorem at1_c {w : World} {F G : Nat → Prop} {u kv : Value} {r : RgV} {k : List UInt8} {b : Nat} {T : TypeId} (HG1 : AgV tRg w F u r) (hb : Blk w b [kv] T) (HS2 : Bv w G kv k) : CallsR Try.prog 64 #[u, .pointer (some ⟨b, 0, none⟩)] w (fun o w' => o = .bool (begB k r) ∧ Ext w w') := by
  obtain ⟨a1, c1, a2, c2, rfl, HSf, HSt, hg⟩ := HG1.rg
  obtain ⟨a3, c3, rfl⟩ := HS2.shape
  have HBk := hb
  refine enter 8 Try.func64 rfl rfl (by simp) ?_
  refine c_seq ?_
  have E := Keep.refl (K := NoK) w
  replace HSf := HSf.all
  replace HS2 := HS2.all
  refine wp_reg zd (l_to (to_box (zvA rfl) ?_))
  rintro b101 w101 zb101 HB101 e101 z101
  have := e101.size
  try simp only [Value.cells] at HB101
  replace HBk := HBk.ext e101
  refine l_v (v_assign rfl) (l_nil (n_then (c_seq (wp_reg zd (l_v (v_fieldAddr (off := 0) (ft := 33) zk rfl) (l_v (v_load zk rfl (by first | exact HB101.pv 0 _ rfl | exact HBk.pv 0 _ rfl | assumption)) ?_))))))
  refine l_v (v_load zk rfl (by first | exact HB101.cell rfl | exact HBk.cell rfl | assumption)) ?_
  replace HSf := HSf.ext e101
  replace HS2 := HS2.ext e101
  refine l_to (to_f2 zk (zvS rfl) (zvS rfl) (CallsR.mono (Equal_c HSf HS2) ?_))
  rintro _ w102 ⟨rfl, e102⟩
  have := e102.size
  refine l_v (zaB rfl) (l_nil (n_then (c_ret (ret1v rfl zq (zvB rfl) ?_))))
  replace E := (E.trans e101.keep).trans e102.keep
  exact ⟨rfl, E⟩
theorem at_c {w : World} {F G : Nat → Prop} {v kv : Value} {e : Int} {rs : List RgV} {k : List UInt8} (HG1 : AgV tMp w F v (e, rs)) (HS2 : Bv w G kv k) : CallsR Try.prog 32 #[v, kv] w (fun o w' => (∃ x, o = .tuple #[x, .int .i64 (optI (begI rs k))] ∧ AgV tRg w' (fun b => b < w.heap.size) x (rgAt rs (begI rs k))) ∧ Ext w w') := by
 obtain ⟨a, c, rfl, HSr, he⟩ := HG1.mp
 obtain ⟨a3, c3, rfl⟩ := HS2.shape
 simp only at HSr he
 refine enter 20 Try.func32 rfl rfl (by simp) ?_
 refine c_seq ?_
 have E := Keep.refl (K := NoK) w
 replace HS2 := HS2.all
 replace HSr := HSr.all
 refine wp_reg zd (l_to (to_box (zvA rfl) ?_))
 rintro b2 w2 zb2 HB2 e2 z2
 have := e2.size
 try simp only [Value.cells] at HB2
 refine l_to (to_box (zvS rfl) ?_)
 rintro b3 w3 zb3 HB3 e3 z3
 have := e3.size
 try simp only [Value.cells] at HB3
 refine l_to (to_alloc (z := (.agg #[.slice none 0 0, .slice none 0 0, .bool false, .int .i64 0])) (by unfold kZero; kernel_rfl) ?_)
 rintro b4 w4 zb4 HB4 e4 z4
 have := e4.size
 try simp only [Value.cells] at HB4
 replace HB2 := (HB2.ext e3).ext e4
 replace HB3 := HB3.ext e4
 refine l_v (v_assign rfl) (l_nil (n_then (c_seq (wp_reg zd (l_v (v_fieldAddr (off := 1) (ft := 22) zk rfl) (l_v (v_load zk rfl (by first | exact HB4.pv 1 _ rfl | exact HB3.pv 1 _ rfl | exact HB2.pv 1 _ rfl | assumption)) ?_))))))
 refine l_v (v_makeFunc (by simp [ev]; rfl) (by simp [ev]; rfl)) ?_
 replace HS2 := ((HS2.ext e2).ext e3).ext e4
 replace HSr := ((HSr.ext e2).ext e3).ext e4
 refine l_to (to_f2 zk (zvS rfl) (show _ = (Value.func _ _ _) from rfl) (CallsR.mono (IndexFuncR_c (cap := #[.pointer (some ⟨b3, 0, none⟩)]) HSr zk (fun W u r e h => at1_c h (HB3.ext e) (HS2.ext e))) ?_))
 rintro _ w101 ⟨rfl, e101⟩
 have := e101.size
 rw [idxM_begI]
 refine l_v (zaI rfl) (l_nil (n_then (c_seq (c_seq (wp_reg zd (l_v (zmI rfl) (l_v (v_lss rfl rfl) ?_)))))))
 replace E := (((E.trans e2.keep).trans e3.keep).trans e4.keep).trans e101.keep
 replace HS2 := HS2.ext e101
 replace HSr := HSr.ext e101
 replace HB2 := HB2.ext e101
 replace HB3 := HB3.ext e101
 replace HB4 := HB4.ext e101
 refine l_nil (n_then (c_cond rfl rfl (fun hc => ?_) (fun hc => ?_)))
 ·
  refine c_seq (wp_reg zd (l_v (v_build (pl := [(0, 1), (1, 1), (2, 1), (3, 1)]) (z := .agg #[.slice none 0 0, .slice none 0 0, .bool false, .int .i64 0]) (zl := [.slice none 0 0, .slice none 0 0, .bool false, .int .i64 0]) zk (by unfold kZero; kernel_rfl) rfl rfl (cells := [_, _, _, _]) rfl) ?_))
  refine l_to (to_storeA (n := 4) rfl rfl (zvA rfl) zk rfl (by first | (simp [slice_one]; done) | (simp only [List.forall_mem_cons, List.cons_append, List.nil_append]; repeat' (first | exact rfl | apply And.intro | (intro u hu; cases hu; done)))) HB4 dj5 ?_)
  rintro w41 HB4 k41 z41
  have := k41.size
  try simp only [zS, Nat.zero_add, Nat.reduceAdd, List.drop_nil] at HB4
  refine l_v (v_assign rfl) (l_nil (n_then (c_ret (r_then (ret2cv (n := 4) rfl zq zq rfl zk HB4.pv rfl (zvI rfl) ?_)))))
  have h := optI_neg.1 (dtrue hc)
  rw [h]
  replace E := E.step k41 dj3
  exact ⟨⟨_, rfl, AgV.mkRg (SlV.nil _ _ _) (SlV.nil _ _ _) zo⟩, E⟩
 obtain ⟨i, hi⟩ : ∃ i, begI rs k = some i := by
  cases h : begI rs k with
  | none => rw [h] at hc; simp [optI] at hc
  | some i => exact ⟨i, rfl⟩
 obtain ⟨hlt, _⟩ := begI_some hi
 rw [hi]
 obtain ⟨q, cs, hq, hF, _, HPq, hr⟩ := HSr.el (getD_at hlt)
 subst hq
 obtain ⟨b5, d5, b6, d6, rfl, _, _, hg⟩ := tRg_cells hr
 have HGr : AgV tRg _ _ _ (rs.getD i rg0) := ⟨_, rfl, hr⟩
 refine c_skip (n_then (c_seq (wp_reg zd (l_v (v_fieldAddr (off := 1) (ft := 22) zk rfl) (l_v (v_load zk rfl (by first | exact HPq 1 _ rfl | exact pv_1 HPq | exact HB4.pv 1 _ rfl | exact HB3.pv 1 _ rfl | exact HB2.pv 1 _ rfl | assumption)) ?_)))))
 refine l_v (zmI rfl) (l_v (v_indexAddr (et := 63) (sz := 4) (k := i) zk zk rfl rfl (rfl) (hlt)) ?_)
 refine l_v (v_loadA zk rfl (by first | exact HPq | exact HB4.pv | exact HB3.pv | exact HB2.pv | assumption) rfl) ?_
 refine l_v (zmI rfl) (l_to (to_storeA (n := 4) rfl rfl (zvA rfl) zk rfl (by first | (simp [slice_one]; done) | (simp only [List.forall_mem_cons, List.cons_append, List.nil_append]; repeat' (first | exact rfl | apply And.intro | (intro u hu; cases hu; done)))) HB4 dj5 ?_))
 rintro w42 HB4 k42 z42
 have := k42.size
 try simp only [zS, Nat.zero_add, Nat.reduceAdd, List.drop_nil] at HB4
 refine l_v (zaI rfl) (l_nil (n_then (c_ret (ret2cv (n := 4) rfl zq zq rfl zk HB4.pv rfl (zvI rfl) ?_))))
 replace E := E.step k42 dj3
 replace HGr := HGr.keep k42 dj1
 exact ⟨⟨_, rfl, HGr⟩, E⟩
theorem moving1_c {w : World} {F G : Nat → Prop} {u kv : Value} {r : MaV} {k : List UInt8} {b : Nat} {T : TypeId} (HG1 : AgV tMa w F u r) (hb : Blk w b [kv] T) (HS2 : Bv w G kv k) : CallsR Try.prog 58 #[u, .pointer (some ⟨b, 0, none⟩)] w (fun o w' => o = .bool (decide (r.1.2.1 = k)) ∧ Ext w w') := by
  obtain ⟨a1, c1, a2, c2, rfl, HSf, HSt, hi1, hi2, hi3⟩ := HG1.ma
  obtain ⟨a3, c3, rfl⟩ := HS2.shape
  have HBk := hb
  refine enter 9 Try.func58 rfl rfl (by simp) ?_
  refine c_seq ?_
  have E := Keep.refl (K := NoK) w
  replace HSf := HSf.all
  replace HS2 := HS2.all
  refine wp_reg zd (l_to (to_box (zvA rfl) ?_))
  rintro b101 w101 zb101 HB101 e101 z101
  have := e101.size
  try simp only [Value.cells] at HB101
  replace HBk := HBk.ext e101
  refine l_v (v_assign rfl) (l_nil (n_then (c_seq (wp_reg zd (l_v (v_fieldAddr (off := 0) (ft := 39) zk rfl) (l_v (v_fieldAddr (off := 1) (ft := 33) zk rfl) (l_v (v_load zk rfl (by first | exact HB101.pv 1 _ rfl | exact HBk.pv 1 _ rfl | assumption)) ?_)))))))
  refine l_v (v_load zk rfl (by first | exact HB101.cell rfl | exact HBk.cell rfl | assumption)) ?_
  replace HSf := HSf.ext e101
  replace HS2 := HS2.ext e101
  refine l_to (to_f2 zk (zvS rfl) (zvS rfl) (CallsR.mono (Equal_c HSf HS2) ?_))
  rintro _ w102 ⟨rfl, e102⟩
  have := e102.size
  refine l_v (zaB rfl) (l_nil (n_then (c_ret (ret1v rfl zq (zvB rfl) ?_))))
  replace E := (E.trans e101.keep).trans e102.keep
  exact ⟨rfl, E⟩
theorem idxM_any {α : Type} (p : α → Bool) : ∀ (l : List α) (i : Nat), decide (0 ≤ idxM p l i) = l.any p
  | [], i => by simp [idxM]
  | r :: l, i => by
    rw [idxM, List.any_cons]
    cases hp : p r with
    | true => simp
    | false => simp only [Bool.false_eq_true, if_false, Bool.false_or]; exact idxM_any p l (i + 1)
theorem moving_c {w : World} {F G : Nat → Prop} {v kv : Value} {s : MtV} {k : List UInt8} (HG1 : AgV tMt w F v s) (HS2 : Bv w G kv k) : CallsR Try.prog 30 #[v, kv] w (fun o w' => o = .bool (mvgB s.2.2 k) ∧ Ext w w') := by
  obtain ⟨a, c, a2, c2, rfl, HSr, HSm, he, hn⟩ := HG1.mt
  obtain ⟨a3, c3, rfl⟩ := HS2.shape
  refine enter 10 Try.func30 rfl rfl (by simp) ?_
  refine c_seq ?_
  have E := Keep.refl (K := NoK) w
  replace HS2 := HS2.all
  replace HSm := HSm.all
  refine wp_reg zd (l_to (to_box (zvA rfl) ?_))
  rintro b2 w2 zb2 HB2 e2 z2
  have := e2.size
  try simp only [Value.cells] at HB2
  refine l_to (to_box (zvS rfl) ?_)
  rintro b3 w3 zb3 HB3 e3 z3
  have := e3.size
  try simp only [Value.cells] at HB3
  replace HB2 := HB2.ext e3
  refine l_v (v_assign rfl) (l_nil (n_then (c_seq (wp_reg zd (l_v (v_fieldAddr (off := 3) (ft := 25) zk rfl) (l_v (v_load zk rfl (by first | exact HB3.pv 3 _ rfl | exact HB2.pv 3 _ rfl | assumption)) ?_))))))
  refine l_v (v_makeFunc (by simp [ev]; rfl) (by simp [ev]; rfl)) ?_
  replace HS2 := (HS2.ext e2).ext e3
  replace HSm := (HSm.ext e2).ext e3
  refine l_to (to_f2 zk (zvS rfl) (show _ = (Value.func _ _ _) from rfl) (CallsR.mono (findMa_c (cap := #[.pointer (some ⟨b3, 0, none⟩)]) HSm zk (fun W u r e h => moving1_c h (HB3.ext e) (HS2.ext e))) ?_))
  rintro _ w101 ⟨rfl, e101⟩
  have := e101.size
  refine l_v (v_geq rfl rfl) ?_
  refine l_v (zaB rfl) (l_nil (n_then (c_ret (ret1v rfl zq (zvB rfl) ?_))))
  replace E := ((E.trans e2.keep).trans e3.keep).trans e101.keep
  refine ⟨?_, E⟩
  rw [idxM_any]; rfl
end Go.Proofs.Yteehplloacefmaa
