/- A part of the proof: steps and lemmas for the walks through the given program. -/
import Derived.Test.YtifnkmflmgnfjaaJb
import Derived.Test.YtifnkmflmgnfjaaGz
import Derived.Test.YtifnkmflmgnfjaaJk
namespace Go.Proofs.Ytifnkmflmgnfjaa
open Go.Vc
set_option linter.unusedVariables false
set_option linter.unusedSimpArgs false
set_option maxRecDepth 100000

theorem GrowP_c {w : World} {n : Nat} (hn : n ≤ 1000000) : CallsR Try.prog 93 #[.slice none 0 0, .int .i64 n] w (fun o w' => OwV tPr 50 w' w.heap.size NoK o [] ∧ Ext w w') := by
 refine enter 27 Try.func93 rfl rfl (by simp) ?_
 refine c_seq ?_
 have E := Keep.refl (K := NoK) w
 refine wp_reg zd (l_v (v_assign rfl) (l_nil (n_then (c_seq (c_seq (wp_reg zd (l_v (zmI rfl) (l_v (v_lss rfl rfl) ?_))))))))
 refine l_nil (n_then (c_cond rfl rfl (fun hc => ?_) (fun hc => ?_)))
 ·
  have := dtrue hc; omega
 refine c_skip (n_then (c_seq (c_seq (wp_reg zd (l_v (zmI rfl) (l_v (zmS rfl) (l_v (v_cap (et := 50) zk rfl) ?_)))))))
 refine l_v (zmS rfl) (l_v (v_len (et := 50) zk rfl) ?_)
 refine l_v (v_sub rfl rfl (by first | exact wr_i64 zo zo | rfl)) ?_
 refine l_v (v_sub rfl rfl (by first | exact wr_i64 zo zo | rfl)) ?_
 refine l_v (zaI rfl) (l_nil (n_then (c_seq (wp_reg zd (l_v (zmI rfl) (l_v (v_gtr rfl rfl) ?_))))))
 refine l_nil (n_then (c_cond rfl rfl (fun hp => ?_) (fun hp => ?_)))
 ·
  have hp0 : 0 < n := by have := dtrue hp; omega
  refine wp_reg zd (l_v (zmS rfl) (l_v (zmS rfl) (l_v (v_cap (et := 50) zk rfl) ?_)))
  refine l_v (v_slicePre (et := 50) (sz := 2) (h := 0) zk zk rfl rfl (by first | rfl | omega) zo) ?_
  refine l_v (zmI rfl) (l_to (to_appendZ (t := tPr) (k := n) (kn := .i64) (et := 50) (bytes := 48) zk zk rfl (show _ = Value.int .i64 (n : Int) from congrArg (Value.int _) (by simp)) (hp0) zo (by simp only [maxLen]; omega) ?_))
  rintro b5 c5 w5 zb5 HO5 e5 z5
  have := e5.size
  have zo_HO5 := fun (b : Nat) h => HO5.own_lt (b := b) h
  refine l_v (zmS rfl) (l_v (v_len (et := 50) zk rfl) ?_)
  refine l_v (v_slicePre (et := 50) (sz := 2) (h := 0) zk zk rfl rfl (by first | rfl | omega) zo) ?_
  refine l_v (zaS rfl) (l_nil (n_then (c_seq (wp_reg zd (l_v (zmS rfl) (l_v (zaS rfl) (l_nil (n_then (c_ret ?_)))))))))
  refine ret1v rfl zq (zvS rfl) ?_
  replace E := E.trans e5.keep
  exact ⟨HO5.base zo, E⟩
 refine c_skip (n_then (c_seq (wp_reg zd (l_v (zmS rfl) (l_v (zaS rfl) (l_nil (n_then (c_ret (ret1v rfl zq (zvS rfl) ?_)))))))))
 exact ⟨OwV.nil _ _ _ _ _, E⟩
theorem ConcatP_c {w : World} {F : Nat → Prop} {v : Value} {ls : List (List PrV)} (HS1 : SlV (tSl tPr) w F v ls) (hn : ls.length ≤ 1000) (hl : ls.flatten.length ≤ 1000000) : CallsR Try.prog 86 #[v] w (fun o w' => SlV tPr w' (fun i => F i ∨ w.heap.size ≤ i) o ls.flatten ∧ Ext w w') := by
 obtain ⟨a1, c1, rfl⟩ := HS1.shape
 replace HS1 := HS1.mono (F' := fun i => F i ∧ i < w.heap.size) fun b hb h => ⟨h, hb⟩
 have hpre : ∀ i, (ls.take i).flatten.length ≤ ls.flatten.length := fun i => by
  have : ls.flatten = (ls.take i).flatten ++ (ls.drop i).flatten := by rw [← List.flatten_append, List.take_append_drop]
  rw [this, List.length_append]; omega
 have hstep : ∀ i x, ls[i]? = some x → (ls.take (i + 1)).flatten = (ls.take i).flatten ++ x := fun i x hx => by rw [List.take_add_one, hx]; simp
 refine enter 36 Try.func86 rfl rfl (by simp) ?_
 refine c_seq ?_
 have E := Keep.refl (K := NoK) w
 refine wp_reg zd (l_v (v_assign rfl) (l_nil (n_then (c_seq (wp_reg zd (l_v (v_assign rfl) (l_nil (n_then (c_seq ?_)))))))))
 refine c_seq (wp_reg zd (l_v (zmS rfl) (l_v (v_len (et := 22) zk rfl) ?_)))
 refine l_v (v_move rfl) (l_nil (n_then (c_block (c_loop (τ := Nat) [3, 5, 11, 12, 13, 14, 15, 16, 17, 18, 19, 20, 21, 22] (fun i => [(3, .int .i64 ((ls.take i).flatten.length : Nat)), (11, .int .i64 i)]) (fun i W => Ext w W ∧ Keep (NoK) w W ∧ i ≤ ls.length) (fun i => ls.length - i) 0 (by exact ⟨rfl, rfl, trivial⟩) (by exact ⟨E, Keep.refl _, Nat.zero_le _⟩) ?_))))
 rintro i w101 j ⟨E, EL1, h1⟩
 have := EL1.size
 refine c_seq (wp_reg zd (l_v (v_lss rfl rfl) ?_))
 replace HS1 := HS1.ext EL1
 refine l_nil (n_then (c_seq (c_cond rfl rfl (fun hlt => ?_) (fun hlt => ?_))))
 ·
  have hlt := dtrue hlt
  obtain ⟨x, hx, _⟩ := getE (l := ls) (i := i) zo
  have hs := congrArg List.length (hstep i x hx)
  rw [List.length_append] at hs
  have hp1 := hpre (i + 1)
  refine c_skip (n_then (c_seq (c_block (c_seq (wp_reg zd (l_to (to_index (et := 22) zk zk (zvS rfl) HS1 (zvI rfl) rfl hx ?_)))))))
  rintro q cs hF HPq hr
  obtain ⟨u, rfl, HSu⟩ := hr
  obtain ⟨a2, c2, rfl⟩ := HSu.shape
  refine l_v (v_load zk rfl (by first | exact pv_1 HPq | assumption)) ?_
  refine l_v (zaS rfl) (l_nil (n_then (c_seq (wp_reg zd (l_v (zmI rfl) (l_v (zmS rfl) (l_v (v_len (et := 50) zk rfl) ?_)))))))
  refine l_v (v_add rfl rfl (by first | exact wr_i64 zo zo | rfl)) ?_
  refine l_v (zaI rfl) (l_nil (n_then (c_seq (wp_reg zd (l_v (zmI rfl) (l_v (v_lss rfl rfl) ?_))))))
  refine l_nil (n_then (c_cond rfl rfl (fun hneg => ?_) (fun hneg => ?_)))
  ·
   have := dtrue hneg; omega
  refine c_skip (n_blk (n_then (wp_reg zd (l_v (v_add rfl rfl (by first | exact wr_i64 zo zo | rfl)) ?_))))
  refine l_v (zmI rfl) (l_nil (n_then (⟨i + 1, _, rfl, by (repeat (first | exact Off.of_over _ _ _ | refine Off.upd ?_ zq _ | refine Off.overs ?_ zq _)), ⟨by first | rfl | exact congrArg (Value.int _) zo | (simp; done), by first | rfl | exact congrArg (Value.int _) zo | (simp; done), trivial⟩, ⟨E, EL1, ?_⟩, ?_⟩)))
  ·
   omega
  (dsimp only; omega)
 refine c_exit (x_then (x_then (x_hit (n_then (c_seq (wp_reg zd (l_v (zmI rfl) (l_to (to_f2 zk (zvS rfl) (zvI rfl) (CallsR.mono (GrowP_c (by have := hpre i; omega)) ?_))))))))))
 rintro v6 w6 ⟨HO6, e6⟩
 have := e6.size
 have zo_HO6 := fun (b : Nat) h => HO6.own_lt (b := b) h
 obtain ⟨a6, c6, rfl⟩ := HO6.shape
 refine l_v (zaS rfl) (l_nil (n_then (c_seq (c_seq (wp_reg zd (l_v (zmS rfl) (l_v (v_len (et := 22) zk rfl) ?_)))))))
 replace E := E.trans e6.keep
 refine l_v (v_move rfl) (l_nil (n_then (c_block (c_loop (τ := Nat × Value) [6, 8, 27, 28, 29, 30, 31, 32, 33, 34] (fun (i, v) => [(6, v), (27, .int .i64 i)]) (fun (i, v) W => Ext w W ∧ Keep (fun b => w.heap.size ≤ b) w6 W ∧ i ≤ ls.length ∧ OwV tPr 50 W w.heap.size (fun i => F i ∧ i < w.heap.size) v (ls.take i).flatten) (fun (i, v) => ls.length - i) (0, _) (by exact ⟨rfl, rfl, trivial⟩) (by exact ⟨E, Keep.refl _, Nat.zero_le _, (HO6.base zo).mono (fun _ _ h => h.elim)⟩) ?_))))
 rintro ⟨i, v⟩ w102 j ⟨E, EL2, h3, HOv⟩
 have := EL2.size
 have zo_HOv := fun (b : Nat) h => HOv.own_lt (b := b) h
 refine c_seq (wp_reg zd (l_v (v_lss rfl rfl) ?_))
 replace HS1 := (HS1.ext e6).keep EL2 dj1
 refine l_nil (n_then (c_seq (c_cond rfl rfl (fun hlt2 => ?_) (fun hlt2 => ?_))))
 ·
  have hlt2 := dtrue hlt2
  obtain ⟨x, hx, _⟩ := getE (l := ls) (i := i) zo
  have hs := congrArg List.length (hstep i x hx)
  rw [List.length_append] at hs
  have hp1 := hpre (i + 1)
  refine c_skip (n_then (c_seq (c_block (c_seq (wp_reg zd (l_to (to_index (et := 22) zk zk (zvS rfl) HS1 (zvI rfl) rfl hx ?_)))))))
  rintro q cs hF HPq hr
  obtain ⟨u, rfl, HSu⟩ := hr
  obtain ⟨a2, c2, rfl⟩ := HSu.shape
  obtain ⟨a3, c3, rfl⟩ := HOv.shape
  refine l_v (v_load zk rfl (by first | exact pv_1 HPq | assumption)) ?_
  refine l_v (zaS rfl) (l_nil (n_then (wp_reg zd (l_v (zmS rfl) (l_v (zmS rfl) (l_to (to_append (et := 50) (bytes := 48) zk (zvS rfl) HOv (zvS rfl) HSu (deepF fun b _ hb => ⟨hb, fun ho => by have := HOv.own_lt ho; omega⟩) (by first | omega | (simp; done) | (simp; omega)) (by simp only [maxLen]; first | omega | (simp; done) | (simp; omega)) zo ?_)))))))
  rintro a9 n9 c9 w9 HO9 hn9 k9 h9 i9
  have := k9.size
  have zo_HO9 := fun (b : Nat) h => HO9.own_lt (b := b) h
  refine l_v (zaS rfl) (l_nil (n_blk (n_then (wp_reg zd (l_v (v_add rfl rfl (by first | exact wr_i64 zo zo | rfl)) ?_)))))
  replace E := E.step k9 (by intro i hi he; have he0 := he; (try dsimp only [NoK] at hi he ⊢); (try simp only [Value.ownBlock, Option.some.injEq] at he); first | exact he.elim | omega | exact he | (have := (HOv).own_lt he0; omega) | (have := zo_HOv _ he0; omega) | (have := (HOv).own_lt he0; rcases hi with hi | hi <;> omega))
  replace HS1 := HS1.keep k9 (by intro i _ hi he; have he0 := he; (try dsimp only [NoK, AllB] at hi he); (try simp only [Value.ownBlock, Option.some.injEq] at he); first | exact hi.elim | exact he.elim | omega | (rcases hi with hi | hi <;> omega) | (rcases he with he | he <;> omega) | (have := (HOv).own_lt he0; omega) | (have := zo_HOv _ he0; omega) | (have := (HOv).own_lt he0; rcases hi with hi | hi <;> omega))
  replace EL2 := EL2.step k9 (by intro i hi he; have he0 := he; (try dsimp only [NoK] at hi he ⊢); (try simp only [Value.ownBlock, Option.some.injEq] at he); first | exact he.elim | omega | exact he | (have := (HOv).own_lt he0; omega) | (have := zo_HOv _ he0; omega) | (have := (HOv).own_lt he0; rcases hi with hi | hi <;> omega))
  replace HPq := HPq.keep k9 (by intro h; have he0 := h; (try dsimp only at h); (try simp only [Value.ownBlock, Option.some.injEq] at h); (try simp only [add_block] at h); (try simp only [add_block] at he0); first | omega | (have := (HOv).own_lt he0; omega) | (have := zo_HOv _ he0; omega))
  replace HSu := HSu.keep k9 (by intro i _ hi he; have he0 := he; (try dsimp only [NoK, AllB] at hi he); (try simp only [Value.ownBlock, Option.some.injEq] at he); first | exact hi.elim | exact he.elim | omega | (rcases hi with hi | hi <;> omega) | (rcases he with he | he <;> omega) | (have := (HOv).own_lt he0; omega) | (have := zo_HOv _ he0; omega) | (have := (HOv).own_lt he0; rcases hi with hi | hi <;> omega))
  refine l_v (zmI rfl) (l_nil (n_then (⟨(i + 1, .slice a9 n9 c9), _, rfl, by (repeat (first | exact Off.of_over _ _ _ | refine Off.upd ?_ zq _ | refine Off.overs ?_ zq _)), ⟨by first | rfl | exact congrArg (Value.int _) zo | (simp; done), by first | rfl | exact congrArg (Value.int _) zo | (simp; done), trivial⟩, ⟨E, EL2, ?_⟩, ?_⟩)))
  ·
   exact ⟨by omega, by rw [hstep i x hx]; exact HO9⟩
  (dsimp only; omega)
 obtain ⟨a4, c4, rfl⟩ := HOv.shape
 refine c_exit (x_then (x_then (x_hit (n_then (c_seq (wp_reg zd (l_v (zmS rfl) (l_v (zaS rfl) (l_nil ?_)))))))))
 refine n_then (c_ret (ret1v rfl zq (zvS rfl) ?_))
 have h := dfalse hlt2
 have e1 : ls.take i = ls := List.take_of_length_le zo
 rw [e1] at HOv ⊢
 exact ⟨HOv.view.mono fun b _ h => Or.elim h (fun h => .inr h) (fun h => .inl h.1), E⟩
theorem vmaxN {P : Program} {d : Option Tmp} {ty : TypeId} {p : String} {af : Array Edge} {g : Option (Nat × Bool)} {e : Nat → Value} {w : World} {x y : Operand} {k : IntKind} {i j : Nat} {ts : Array TypeId} (hx : ev e x = .int k (i : Int)) (hy : ev e y = .int k (j : Int)) : OpVat P ⟨d, .call { callee := .builtin .max, args := #[x, y], argTypes := ts }, ty, p, af, g⟩ e w (.int k ((max i j : Nat) : Int)) := by
  have h := vmax (P := P) (d := d) (ty := ty) (p := p) (af := af) (g := g) (w := w) (ts := ts) hx hy
  have h2 : (if (j : Int) > (i : Int) then (j : Int) else (i : Int)) = ((max i j : Nat) : Int) := by split <;> omega
  rwa [h2] at h
theorem hasM_lt {m : MapV} {k : List UInt8} (h : hasM m k = true) : posM m k < m.length := by
  unfold hasM at h
  cases hx : m[posM m k]? with
  | none => rw [hx] at h; cases h
  | some p => exact (List.getElem?_eq_some_iff.1 hx).1
theorem SlV.cap_ge {α : Type} {t : Ty α} {w : World} {F : Nat → Prop} {a : Option Addr} {n c : Nat} {xs : List α} (h : SlV t w F (.slice a n c) xs) : xs.length ≤ c := by
  obtain ⟨_, _, hv, hcl, _⟩ := h; cases hv; exact hcl
theorem part_c {w : World} {F G H : Nat → Prop} {v u t : Value} {m : MapV} {f to : List UInt8} (HSm : SlV tPr w F v m) (HSf : Bv w G u f) (HSt : Bv w H t to) (hm : mayMp m = true) (hn : m.length ≤ 1000000) : CallsR Try.prog 43 #[v, u, t] w (fun o w' => SlV tPr w' F o (partM m f to) ∧ Ext w w') := by
 obtain ⟨a, c, rfl⟩ := HSm.shape
 obtain ⟨a2, c2, rfl⟩ := HSf.shape
 obtain ⟨a3, c3, rfl⟩ := HSt.shape
 have hcm := SlV.cap_ge HSm
 have HSm0 := HSm
 have hlf := posM_le m f
 have hlt := posM_le m to
 refine enter 33 Try.func43 rfl rfl (by simp) ?_
 refine c_seq ?_
 have E := Keep.refl (K := NoK) w
 refine wp_reg zd (l_v (v_assign rfl) (l_nil (n_then (c_seq (wp_reg zd (l_v (zmS rfl) (l_v (zmS rfl) (l_to (to_f2 zk (zvS rfl) (zvS rfl) (CallsR.mono (find_c HSm HSf hm hn) ?_))))))))))
 rintro _ w101 ⟨rfl, e101⟩
 have := e101.size
 refine l_v (zmT rfl) (l_v (v_extract (t := .int _ _) rfl rfl) (l_v (v_extract (t := .bool _) rfl rfl) (l_v (zaI rfl) (l_v (zaB rfl) (l_nil (n_then (c_seq (wp_reg zd (l_v (zmS rfl) ?_)))))))))
 refine l_v (v_len (et := 50) zk rfl) ?_
 refine l_v (zaI rfl) (l_nil (n_then (c_seq (c_seq (wp_reg zd (l_v (zmS rfl) (l_v (v_len (et := 5) zk rfl) ?_)))))))
 refine l_v (v_gtr rfl rfl) ?_
 replace E := E.trans e101.keep
 replace HSm := HSm.ext e101
 replace HSf := HSf.ext e101
 replace HSt := HSt.ext e101
 refine l_nil (n_then (c_cond rfl rfl (fun h20 => ?_) (fun h20 => ?_)))
 ·
  refine wp_reg zd (l_v (zmS rfl) (l_v (zmS rfl) (l_to (to_f2 zk (zvS rfl) (zvS rfl) (CallsR.mono (find_c HSm HSt hm hn) ?_)))))
  rintro _ w102 ⟨rfl, e102⟩
  have := e102.size
  refine l_v (zmT rfl) (l_v (v_extract (t := .int _ _) rfl rfl) (l_v (v_extract (t := .bool _) rfl rfl) (l_v (zaI rfl) (l_nil (n_then (c_seq (wp_reg zd (l_v (zmS rfl) (l_v (zmI rfl) ?_)))))))))
  refine l_v (zmI rfl) (l_v (zmI rfl) (l_v (vmaxN rfl rfl) ?_))
  refine l_v (v_slice (et := 50) (sz := 2) (l := posM m f) (h := max (posM m f) (posM m to)) zk zk rfl ⟨.i64, ((show _ = Value.int _ _ from rfl)).trans (congrArg (Value.int _) zo)⟩ ⟨.i64, ((show _ = Value.int _ _ from rfl)).trans (congrArg (Value.int _) zo)⟩ zo zo) ?_
  refine l_v (zaS rfl) (l_nil (n_then (c_ret (ret1v rfl zq (zvS rfl) ?_))))
  replace E := E.trans e102.keep
  refine ⟨?_, E⟩
  have hh : hiM m to = posM m to := by unfold hiM; cases to with | nil => simp at h20 | cons _ _ => rfl
  rw [partM, hh]
  replace HSm := HSm.ext e102
  exact HSm.sub zo zo
 refine c_skip (n_then (c_seq (wp_reg zd (l_v (zmS rfl) (l_v (zmI rfl) (l_v (zmI rfl) (l_v (zmI rfl) (l_v (vmaxN rfl rfl) ?_))))))))
 refine l_v (v_slice (et := 50) (sz := 2) (l := posM m f) (h := max (posM m f) m.length) zk zk rfl ⟨.i64, ((show _ = Value.int _ _ from rfl)).trans (congrArg (Value.int _) zo)⟩ ⟨.i64, ((show _ = Value.int _ _ from rfl)).trans (congrArg (Value.int _) zo)⟩ zo zo) ?_
 refine l_v (zaS rfl) (l_nil (n_then (c_ret (ret1v rfl zq (zvS rfl) ?_))))
 refine ⟨?_, E⟩
 have hh : hiM m to = m.length := by unfold hiM; cases to with | nil => rfl | cons _ _ => simp at h20
 rw [partM, hh]
 exact HSm.sub zo zo
theorem reps_pr3 {w : World} {F : Nat → Prop} {v0 v1 v2 : Value} {y0 y1 y2 : List PrV} (r0 : SlV tPr w F v0 y0) (r1 : SlV tPr w F v1 y1) (r2 : SlV tPr w F v2 y2) :
    ∀ i x, [y0, y1, y2][i]? = some x → (tSl tPr).rep w F ((([v0, v1, v2] : List Value).drop (i * (tSl tPr).sz)).take (tSl tPr).sz) x := by
  intro i x hx
  match i, hx with
  | 0, hx => obtain rfl : y0 = x := by simpa using hx
             exact ⟨v0, rfl, r0⟩
  | 1, hx => obtain rfl : y1 = x := by simpa using hx
             exact ⟨v1, rfl, r1⟩
  | 2, hx => obtain rfl : y2 = x := by simpa using hx
             exact ⟨v2, rfl, r2⟩
  | i + 3, hx => simp at hx
theorem reps_pr2 {w : World} {F : Nat → Prop} {v0 v1 : Value} {y0 y1 : List PrV} (r0 : SlV tPr w F v0 y0) (r1 : SlV tPr w F v1 y1) :
    ∀ i x, [y0, y1][i]? = some x → (tSl tPr).rep w F ((([v0, v1] : List Value).drop (i * (tSl tPr).sz)).take (tSl tPr).sz) x := by
  intro i x hx
  match i, hx with
  | 0, hx => obtain rfl : y0 = x := by simpa using hx
             exact ⟨v0, rfl, r0⟩
  | 1, hx => obtain rfl : y1 = x := by simpa using hx
             exact ⟨v1, rfl, r1⟩
  | i + 2, hx => simp at hx
theorem set_c {w : World} {F : Nat → Prop} {v u t : Value} {m : MapV} {k x : List UInt8} (HSm : SlV tPr w F v m) (HSk : Bv w F u k) (HSx : Bv w F t x) (hm : mayMp m = true) (hn : m.length ≤ 900000) : CallsR Try.prog 84 #[v, u, t] w (fun o w' => SlV tPr w' (fun b => F b ∨ w.heap.size ≤ b) o (setM m k x) ∧ Ext w w') := by
 obtain ⟨a, c, rfl⟩ := HSm.shape
 obtain ⟨a2, c2, rfl⟩ := HSk.shape
 obtain ⟨a3, c3, rfl⟩ := HSx.shape
 have hcm := SlV.cap_ge HSm
 have hlk := posM_le m k
 refine enter 34 Try.func84 rfl rfl (by simp) ?_
 refine c_seq ?_
 have E := Keep.refl (K := NoK) w
 refine wp_reg zd (l_v (v_assign rfl) (l_nil (n_then (c_seq (wp_reg zd (l_v (zmS rfl) (l_v (zmS rfl) (l_to (to_f2 zk (zvS rfl) (zvS rfl) (CallsR.mono (find_c HSm HSk hm zo) ?_))))))))))
 rintro _ w101 ⟨rfl, e101⟩
 have := e101.size
 refine l_v (zmT rfl) (l_v (v_extract (t := .int _ _) rfl rfl) (l_v (v_extract (t := .bool _) rfl rfl) (l_v (zaI rfl) (l_v (zaB rfl) (l_nil (n_then (c_seq (wp_reg zd (l_v (zmS rfl) ?_)))))))))
 refine l_v (zmI rfl) (l_v (v_slice (et := 50) (sz := 2) (l := posM m k) (h := m.length) zk zk rfl ⟨.i64, ((show _ = Value.int _ _ from rfl)).trans (congrArg (Value.int _) zo)⟩ rfl zo zo) ?_)
 replace E := E.trans e101.keep
 replace HSm := HSm.ext e101
 replace HSk := HSk.ext e101
 replace HSx := HSx.ext e101
 refine l_v (zaS rfl) (l_nil (n_then (c_seq (c_seq (wp_reg zd (l_v (zmB rfl) (l_nil (n_then (c_cond rfl rfl (fun h19 => ?_) (fun h19 => ?_))))))))))
 ·
  have hp1 := hasM_lt h19
  refine wp_reg zd (l_v (zmS rfl) (l_v (zmI rfl) (l_v (v_add rfl rfl (by first | exact wr_i64 zo zo | rfl)) ?_)))
  refine l_v (v_slice (et := 50) (sz := 2) (l := posM m k + 1) (h := m.length) zk zk rfl ⟨.i64, ((show _ = Value.int _ _ from rfl)).trans (congrArg (Value.int _) zo)⟩ rfl zo zo) ?_
  refine l_v (zaS rfl) (l_nil (n_then (c_seq (wp_reg zd (l_v (zmS rfl) (l_v (zmI rfl) (l_v (v_slice (et := 50) (sz := 2) (l := 0) (h := posM m k) zk zk rfl rfl ⟨.i64, ((show _ = Value.int _ _ from rfl)).trans (congrArg (Value.int _) zo)⟩ zo zo) ?_)))))))
  refine l_v (zmS rfl) (l_v (zmS rfl) (l_v (v_build (pl := [(0, 1), (1, 1)]) (z := .agg #[.slice none 0 0, .slice none 0 0]) (zl := [.slice none 0 0, .slice none 0 0]) zk (by unfold kZero; kernel_rfl) rfl rfl (cells := [_, _]) rfl) ?_))
  refine l_to (to_slice1 (t := tPr) (et := 50) (bytes := 48) zk zq (zvA rfl) ((AgV.rp (show AgV tPr _ _ _ (k, x) from ⟨_, rfl, tPr_mk HSk HSx⟩))) ?_)
  rintro b32 w32 zb32 HO32 e32 z32
  have := e32.size
  have zo_HO32 := fun (b : Nat) h => HO32.own_lt (b := b) h
  replace HSm := HSm.ext e32
  refine l_v (zmS rfl) (l_to (to_sliceN (t := tSl tPr) (xs := [(m.take (posM m k)).drop 0, [(k, x)], (m.take m.length).drop (posM m k + 1)]) (et := 22) (bytes := 24) (zl := [.slice none 0 0, .slice none 0 0, .slice none 0 0]) zk zq zq (by unfold kZeros; kernel_rfl) rfl (cells := [_, _, _]) rfl rfl rfl ((reps_pr3 (F := fun b => F b ∨ w.heap.size ≤ b) ((HSm.sub zo zo).mono fun b _ h => .inl h) (HO32.view.mono fun b _ h => h.elim (fun h => .inr zo) (fun h => .inl h.1)) ((HSm.sub zo zo).mono fun b _ h => .inl h))) ?_))
  rintro b33 w33 zb33 HO33 e33 z33
  have := e33.size
  have zo_HO33 := fun (b : Nat) h => HO33.own_lt (b := b) h
  refine l_to (to_f1 zk (zvS rfl) (CallsR.mono (ConcatP_c HO33.view (by simp) (by simp; omega)) ?_))
  rintro v34 w34 ⟨HS34, e34⟩
  have := e34.size
  obtain ⟨a34, c34, rfl⟩ := HS34.shape
  refine l_v (zaS rfl) (l_nil (n_then (c_ret (ret1v rfl zq (zvS rfl) ?_))))
  replace E := ((E.trans e32.keep).trans e33.keep).trans e34.keep
  refine ⟨?_, E⟩
  have he : setM m k x = [(m.take (posM m k)).drop 0, [(k, x)], (m.take m.length).drop (posM m k + 1)].flatten := by simp [setM, h19]
  rw [he]
  exact HS34.mono fun b _ h => h.elim (fun h => h.elim (fun h => .inr zo) (fun h => h.1)) (fun h => .inr zo)
 refine c_skip (n_then (c_seq (wp_reg zd (l_v (zmS rfl) (l_v (zmI rfl) (l_v (v_slice (et := 50) (sz := 2) (l := 0) (h := posM m k) zk zk rfl rfl ⟨.i64, ((show _ = Value.int _ _ from rfl)).trans (congrArg (Value.int _) zo)⟩ zo zo) ?_))))))
 refine l_v (zmS rfl) (l_v (zmS rfl) (l_v (v_build (pl := [(0, 1), (1, 1)]) (z := .agg #[.slice none 0 0, .slice none 0 0]) (zl := [.slice none 0 0, .slice none 0 0]) zk (by unfold kZero; kernel_rfl) rfl rfl (cells := [_, _]) rfl) ?_))
 refine l_to (to_slice1 (t := tPr) (et := 50) (bytes := 48) zk zq (zvA rfl) ((AgV.rp (show AgV tPr _ _ _ (k, x) from ⟨_, rfl, tPr_mk HSk HSx⟩))) ?_)
 rintro b32 w32 zb32 HO32 e32 z32
 have := e32.size
 have zo_HO32 := fun (b : Nat) h => HO32.own_lt (b := b) h
 replace HSm := HSm.ext e32
 refine l_v (zmS rfl) (l_to (to_sliceN (t := tSl tPr) (xs := [(m.take (posM m k)).drop 0, [(k, x)], (m.take m.length).drop (posM m k)]) (et := 22) (bytes := 24) (zl := [.slice none 0 0, .slice none 0 0, .slice none 0 0]) zk zq zq (by unfold kZeros; kernel_rfl) rfl (cells := [_, _, _]) rfl rfl rfl ((reps_pr3 (F := fun b => F b ∨ w.heap.size ≤ b) ((HSm.sub zo zo).mono fun b _ h => .inl h) (HO32.view.mono fun b _ h => h.elim (fun h => .inr zo) (fun h => .inl h.1)) ((HSm.sub zo zo).mono fun b _ h => .inl h))) ?_))
 rintro b33 w33 zb33 HO33 e33 z33
 have := e33.size
 have zo_HO33 := fun (b : Nat) h => HO33.own_lt (b := b) h
 refine l_to (to_f1 zk (zvS rfl) (CallsR.mono (ConcatP_c HO33.view (by simp) (by simp; omega)) ?_))
 rintro v34 w34 ⟨HS34, e34⟩
 have := e34.size
 obtain ⟨a34, c34, rfl⟩ := HS34.shape
 refine l_v (zaS rfl) (l_nil (n_then (c_ret (ret1v rfl zq (zvS rfl) ?_))))
 replace E := ((E.trans e32.keep).trans e33.keep).trans e34.keep
 refine ⟨?_, E⟩
 have he : setM m k x = [(m.take (posM m k)).drop 0, [(k, x)], (m.take m.length).drop (posM m k)].flatten := by simp [setM, h19]
 rw [he]
 exact HS34.mono fun b _ h => h.elim (fun h => h.elim (fun h => .inr zo) (fun h => h.1)) (fun h => .inr zo)
end Go.Proofs.Ytifnkmflmgnfjaa

namespace Go.Proofs.Ytifnkmflmgnfjaa
open Go.Vc
set_option linter.unusedVariables false
set_option linter.unusedSimpArgs false
set_option maxRecDepth 100000

set_option maxHeartbeats 8000000 in
theorem jclone_c {w : World} {F : Nat → Prop} {v : Value} {m : MapV} (HS1 : SlV tPr w F v m) (hn : m.length ≤ 1000000) (hd0 : ∀ p ∈ m, p.1.length ≤ 1000000 ∧ p.2.length ≤ 1000000) : CallsR Try.prog 52 #[v] w (fun o w' => SlV tPrF w' (fun b => w.heap.size ≤ b) o m ∧ Ext w w') := by
 obtain ⟨a, c, rfl⟩ := HS1.shape
 have hmx := HS1.len_max
 refine enter 24 Try.func52 rfl rfl (by simp) ?_
 refine c_seq ?_
 have E := Keep.refl (K := NoK) w
 replace HS1 := HS1.all
 obtain ⟨n6, hn6⟩ : ∃ n, n = w.heap.size := ⟨_, rfl⟩
 refine wp_reg zd (l_v (v_assign rfl) (l_nil (n_then (c_seq (wp_reg zd (l_v (v_assign rfl) (l_nil (n_then (c_seq ?_)))))))))
 refine c_seq (wp_reg zd (l_v (zmS rfl) (l_v (v_len (et := 50) zk rfl) ?_)))
 refine l_v (v_move rfl) (l_nil (n_then (c_block (c_loop (τ := Nat × Value) [3, 5, 8, 9, 10, 11, 12, 13, 14, 15, 16, 17, 18, 19, 20, 21, 22] (fun (i, x) => [(3, x), (8, .int .i64 i)]) (fun (i, x) W => Ext w W ∧ Keep (fun b => n6 ≤ b) w W ∧ i ≤ m.length ∧ OwV tPrF 50 W n6 (fun b => n6 ≤ b ∧ b < W.heap.size) x (m.take i)) (fun (i, x) => m.length - i) (0, .slice none 0 0) (by exact ⟨rfl, rfl, trivial⟩) (by exact ⟨E, Keep.refl _, Nat.zero_le _, OwV.nil _ _ _ _ _⟩) ?_))))
 rintro ⟨i, x⟩ w101 j ⟨E, EL1, h1, HOx⟩
 have := EL1.size
 have zo_HOx := fun (b : Nat) h => HOx.own_lt (b := b) h
 refine c_seq (wp_reg zd (l_v (v_lss rfl rfl) ?_))
 replace HS1 := HS1.keep EL1 dj1
 refine l_nil (n_then (c_seq (c_cond rfl rfl (fun hlt => ?_) (fun hlt => ?_))))
 ·
  have hlt := dtrue hlt
  have htl : (m.take i).length = i := by rw [List.length_take]; omega
  obtain ⟨p, hx, _⟩ := getE (l := m) (i := i) zo
  obtain ⟨hl7, hl8⟩ := hd0 p (List.mem_of_getElem? hx)
  obtain ⟨q1, cs1, hq1, hF1, _, HPq, hr1⟩ := HS1.el hx
  cases hq1
  obtain ⟨d1, d2, d3, d4, rfl, HS7, HS8⟩ := tPr_cells hr1
  obtain ⟨ax, cx, rfl⟩ := HOx.shape
  refine c_skip (n_then (c_seq (c_block (c_seq (wp_reg zd (l_v (v_indexAddr (et := 50) (sz := 2) (k := i) zk zk rfl rfl (by first | rfl | omega) zo) ?_))))))
  refine l_v (v_loadA zk rfl (by first | exact HPq | assumption) rfl) ?_
  refine l_to (to_alloc (z := (.agg #[.slice none 0 0, .slice none 0 0])) (by unfold kZero; kernel_rfl) ?_)
  rintro b9 w9 zb9 HB9 e9 z9
  have := e9.size
  try simp only [Value.cells] at HB9
  obtain ⟨n7, hn7⟩ : ∃ n, n = w9.heap.size := ⟨_, rfl⟩
  refine l_to (to_storeA (n := 2) rfl rfl (zvA rfl) zk rfl dj6 HB9 dj5 ?_)
  rintro w102 HX102 k102 z102
  have := k102.size
  replace HB9 := HX102
  clear HX102
  try simp only [zS, Nat.zero_add, Nat.reduceAdd, List.drop_nil] at HB9
  refine l_nil (n_then (wp_any zk ?_))
  have e103 : Ext w102 { w102 with drawn := w102.drawn + 1 } := Keep.drawn _ _
  replace E := (E.trans e9.keep).step k102 dj3
  replace HS1 := (HS1.ext e9).keep k102 dj1
  replace HOx := (HOx.ext e9).keep k102 (by intro i ho he; have he0 := he; have ho0 := ho; (try dsimp only [NoK] at he); (try simp only [Value.ownBlock, Option.some.injEq, reduceCtorEq] at ho); (try simp only [Value.ownBlock, Option.some.injEq, reduceCtorEq] at he); first | exact he.elim | exact ho.elim | omega | (have := zo_HOx _ ho0; omega)) (by intro i _ hi _ he; have he0 := he; have hi := hi; have he := he; (try dsimp only [NoK, AllB] at hi he); (try simp only [Value.ownBlock, Option.some.injEq, reduceCtorEq] at he); all_goals first | exact hi.elim | exact hi.1.elim | exact he.elim | omega | (rcases hi with hi | hi <;> omega) | (rcases he with he | he <;> omega))
  replace EL1 := (EL1.trans e9.keep).step k102 dj3
  replace HS7 := (HS7.ext e9).keep k102 dj1
  replace HS8 := (HS8.ext e9).keep k102 dj1
  generalize hw103 : ({ w102 with drawn := w102.drawn + 1 } : World) = w103 at e103 ⊢
  clear hw103
  have := e103.size
  refine r_cut 9 rfl zd zd zd ?_
  refine wp_regdW (NoK) zd zd ?_
  refine rt_v (fun vals w hR hd => zmS rfl) ?_
  refine rt_v (fun vals w hR hd => v_fieldAddr (off := 0) (ft := 26) zk rfl) ?_
  replace HB9 := HB9.ext e103
  refine rt_v (fun vals w hR hd => v_load zk (hd 1 rfl) (by first | exact (HB9.ext hR).pv 0 _ rfl | assumption)) ?_
  replace HS7 := HS7.ext e103
  refine rt_to (fun v W => OwV tU8 5 W n7 NoK v p.1) (fun v w w' h k => h.ext k) (fun vals w hR hd => to_f1 zk (hd 2 rfl) (CallsR.mono (Clone_c (HS7.ext hR) zo) fun v w1 ⟨h, e⟩ => ⟨e, h.base (by have := hR.size; omega)⟩)) ?_
  refine rt_v (fun vals w hR hd => v_fieldAddr (off := 1) (ft := 26) zk rfl) ?_
  refine rt_v (fun vals w hR hd => v_load zk (hd 4 rfl) (by first | exact (HB9.ext hR).pv 1 _ rfl | assumption)) ?_
  replace HS8 := HS8.ext e103
  refine rt_to (fun v W => OwV tU8 5 W n7 NoK v p.2) (fun v w w' h k => h.ext k) (fun vals w hR hd => to_f1 zk (hd 5 rfl) (CallsR.mono (Clone_c (HS8.ext hR) zo) fun v w1 ⟨h, e⟩ => ⟨e, h.base (by have := hR.size; omega)⟩)) ?_
  refine rt_to (fun v W => AgV tPrF W (fun b => n7 ≤ b) v p) (fun v w w' h k => h.ext k) (fun vals w hR hd => OpTo.of_v (v_build (pl := [(0, 1), (1, 1)]) (z := .agg #[.slice none 0 0, .slice none 0 0]) (zl := [.slice none 0 0, .slice none 0 0]) (ps := [(0, vals 3), (1, vals 6)]) zk (by unfold kZero; kernel_rfl) rfl (parts2 rfl rfl) (cells := [vals 3, vals 6]) (by have h1 := OwV.one (show OwV tU8 5 _ n7 NoK _ p.1 from hd 3 rfl); have h2 := OwV.one (show OwV tU8 5 _ n7 NoK _ p.2 from hd 6 rfl); simp [fillL, one_cells h1, one_cells h2, setAt])) ⟨Keep.refl _, _, rfl, tPrF_mk (BvF.mono (show BvF _ _ _ _ from OwV.byF (show OwV tU8 5 _ n7 NoK _ p.1 from hd 3 rfl)) fun b _ h => h.elim (fun h => h) (fun h => h.elim)) (BvF.mono (show BvF _ _ _ _ from OwV.byF (show OwV tU8 5 _ n7 NoK _ p.2 from hd 6 rfl)) fun b _ h => h.elim (fun h => h) (fun h => h.elim))⟩) ?_
  refine rt_to (fun v W => SlV tPrF W (fun b => n7 ≤ b) v [p]) (fun v w w' h k => h.ext k) (fun vals w hR hd => to_slice1 (t := tPrF) (et := 50) (bytes := 48) zk zq (show _ = vals 7 from rfl) (AgV.rp (show AgV tPrF _ (fun b => n7 ≤ b) _ p from hd 7 rfl)) (fun b w1 hb HO e z => ⟨e, HO.view.mono fun b _ hb => by have := hR.size; exact hb.elim (fun h => by omega) (fun h => h.1)⟩)) ?_
  refine rt_nil (fun w40 e40 => ?_)
  rintro _ rfl _ rfl _ rfl v32 HO32 _ rfl _ rfl v33 HO33 v34 hs34 v35 HS35
  have := e40.size
  have HS35 : SlV tPrF _ (fun b => n7 ≤ b) v35 [p] := HS35
  obtain ⟨a34, c34, rfl⟩ := HS35.shape
  refine fin_nil (n_then (r_cut 1 rfl zd zd zd ?_))
  refine r_one zd rfl ?_
  have htl2 : (m.take i ++ [p]).length = i + 1 := by rw [List.length_append, htl]; rfl
  replace HOx := (HOx.ext e103).ext e40
  have HOy := HOx.mono (F' := fun b => n6 ≤ b) fun b _ h => h.1
  have zo_HOy := fun (b : Nat) h => HOy.own_lt (b := b) h
  have zo_HOy := zo_HOx
  refine l_to (to_append (et := 50) (bytes := 48) zk (zvS rfl) HOy (zvS rfl) HS35 (deepF fun b hb hb2 => ⟨by omega, fun ho => by have := zo_HOx _ ho; omega⟩) (by first | omega | (simp; done) | (simp; omega)) (by simp only [maxLen]; first | omega | (simp; done) | (simp; omega)) zo ?_)
  rintro a9 n9 c9 w9 HO19 hn9 k9 h9 i9
  have := k9.size
  have zo_HO19 := fun (b : Nat) h => HO19.own_lt (b := b) h
  refine l_nil (n_then (r_one zd rfl ?_))
  refine l_v (zaS rfl) (l_nil (n_blk (n_then (wp_reg zd (l_v (v_add rfl rfl (by first | exact wr_i64 zo zo | rfl)) ?_)))))
  replace HPq := HPq.ext e9
  replace E := ((E.trans e103.keep).trans e40.keep).step k9 (by intro i hi he; have he0 := he; (try dsimp only [NoK] at hi he ⊢); (try simp only [Value.ownBlock, Option.some.injEq] at he); first | exact he.elim | omega | exact he | (have := (HOy).own_lt he0; omega) | (have := zo_HOy _ he0; omega) | (have := (HOy).own_lt he0; rcases hi with hi | hi <;> omega))
  replace HS1 := ((HS1.ext e103).ext e40).keep k9 (by intro i _ hi he; have he0 := he; (try dsimp only [NoK, AllB] at hi he); (try simp only [Value.ownBlock, Option.some.injEq] at he); first | exact hi.elim | exact he.elim | omega | (rcases hi with hi | hi <;> omega) | (rcases he with he | he <;> omega) | (have := (HOy).own_lt he0; omega) | (have := zo_HOy _ he0; omega) | (have := (HOy).own_lt he0; rcases hi with hi | hi <;> omega))
  replace EL1 := ((EL1.trans e103.keep).trans e40.keep).step k9 (by intro i hi he; have he0 := he; (try dsimp only [NoK] at hi he ⊢); (try simp only [Value.ownBlock, Option.some.injEq] at he); first | exact he.elim | omega | exact he | (have := (HOy).own_lt he0; omega) | (have := zo_HOy _ he0; omega) | (have := (HOy).own_lt he0; rcases hi with hi | hi <;> omega))
  replace HS7 := HS7.ext e40
  replace HS8 := HS8.ext e40
  replace HB9 := (HB9.ext e40).keep k9 (by intro h; have he0 := h; (try dsimp only at h); (try simp only [Value.ownBlock, Option.some.injEq] at h); first | omega | (have := (HOy).own_lt he0; omega) | (have := zo_HOy _ he0; omega))
  replace HS35 := HS35.keep k9 (by intro i _ hi he; have he0 := he; (try dsimp only [NoK, AllB] at hi he); (try simp only [Value.ownBlock, Option.some.injEq] at he); first | exact hi.elim | exact he.elim | omega | (rcases hi with hi | hi <;> omega) | (rcases he with he | he <;> omega) | (have := (HOy).own_lt he0; omega) | (have := zo_HOy _ he0; omega) | (have := (HOy).own_lt he0; rcases hi with hi | hi <;> omega))
  refine l_v (zmI rfl) (l_nil (n_then (⟨(i + 1, .slice a9 n9 c9), _, rfl, by (repeat (first | exact Off.of_over _ _ _ | refine Off.upd ?_ zq _ | refine Off.overs ?_ zq _)), ⟨by first | rfl | exact congrArg (Value.int _) zo | (simp; done), by first | rfl | exact congrArg (Value.int _) zo | (simp; done), trivial⟩, ⟨E, EL1, ?_⟩, ?_⟩)))
  ·
   exact ⟨by omega, by rw [List.take_add_one, hx]; exact HO19.mono fun b hb h => ⟨h, hb⟩⟩
  (dsimp only; omega)
 obtain ⟨ax, cx, rfl⟩ := HOx.shape
 refine c_exit (x_then (x_then (x_hit (n_then (c_seq (wp_reg zd (l_v (zmS rfl) (l_v (zaS rfl) (l_nil ?_)))))))))
 refine n_then (c_ret (ret1v rfl zq (zvS rfl) ?_))
 have h2 := dfalse hlt
 have e1 : m.take i = m := List.take_of_length_le zo
 rw [e1] at HOx ⊢
 exact ⟨HOx.view.mono fun b _ h => Or.elim h (fun h => by omega) (fun h => by omega), E⟩
theorem len_empty (l : List UInt8) : decide ((l.length : Int) = 0) = l.isEmpty := by cases l <;> simp; omega
theorem from_step {m : MapV} {f t : List UInt8} {i : Nat} {p : PrV} (hx : m[i]? = some p) : fromM (m.take (i + 1)) f t = fromM (m.take i) f t ++ (if inM f t p then [p] else []) := by
  rw [List.take_add_one, hx]
  simp only [fromM, List.filter_append, Option.toList_some, List.filter_cons, List.filter_nil]
theorem from_len (m : MapV) (f t : List UInt8) (i : Nat) : (fromM (m.take i) f t).length ≤ m.length := by
  have h1 := List.length_filter_le (inM f t) (m.take i)
  have h2 : (m.take i).length ≤ m.length := by rw [List.length_take]; omega
  unfold fromM; omega
theorem reffrom_c {w : World} {F G H : Nat → Prop} {v u t : Value} {m : MapV} {f to : List UInt8} (HSm : SlV tPr w F v m) (HSf : Bv w G u f) (HSt : Bv w H t to) (hn : m.length ≤ 1000000) : CallsR Try.prog 44 #[v, u, t] w (fun o w' => SlV tPr w' (fun b => F b ∨ w.heap.size ≤ b) o (fromM m f to) ∧ Ext w w') := by
 obtain ⟨a, c, rfl⟩ := HSm.shape
 obtain ⟨a2, c2, rfl⟩ := HSf.shape
 obtain ⟨a3, c3, rfl⟩ := HSt.shape
 have hmx := HSm.len_max
 have HSm := HSm.lt
 refine enter 48 Try.func44 rfl rfl (by simp) ?_
 refine c_seq ?_
 have E := Keep.refl (K := NoK) w
 obtain ⟨n6, hn6⟩ : ∃ n, n = w.heap.size := ⟨_, rfl⟩
 have HSf := HSf.lt
 have HSt := HSt.lt
 refine wp_reg zd (l_v (v_assign rfl) (l_nil (n_then (c_seq (wp_reg zd (l_v (v_assign rfl) (l_nil (n_then (c_seq ?_)))))))))
 refine c_seq (wp_reg zd (l_v (v_assign rfl) (l_nil (n_then (c_block (c_loop (τ := Nat × Value) [7, 8, 9, 10, 11, 12, 13, 14, 15, 16, 17, 18, 19, 20, 21, 22, 23, 24, 25, 26, 27, 28, 29, 30, 31, 32, 33, 34, 35, 36, 37, 38, 39, 40, 41, 42, 43, 44, 45, 46] (fun (i, x) => [(7, x), (8, .int .i64 i)]) (fun (i, x) W => Ext w W ∧ Keep (fun b => n6 ≤ b) w W ∧ i ≤ m.length ∧ OwV tPr 50 W n6 (fun b => (F b ∧ b < n6) ∨ (n6 ≤ b ∧ b < W.heap.size)) x (fromM (m.take i) f to)) (fun (i, x) => m.length - i) (0, .slice none 0 0) (by exact ⟨rfl, rfl, trivial⟩) (by exact ⟨E, Keep.refl _, Nat.zero_le _, OwV.nil _ _ _ _ _⟩) ?_))))))
 rintro ⟨i, x⟩ w101 j ⟨E, EL1, h1, HOx⟩
 have := EL1.size
 have zo_HOx := fun (b : Nat) h => HOx.own_lt (b := b) h
 refine c_seq (c_seq (wp_reg zd (l_v (zmI rfl) (l_v (zmS rfl) (l_v (v_len (et := 50) zk rfl) ?_)))))
 refine l_v (v_lss rfl rfl) ?_
 replace HSm := HSm.keep EL1 dj1
 replace HSf := HSf.keep EL1 dj1
 replace HSt := HSt.keep EL1 dj1
 refine l_nil (n_then (c_cond rfl rfl (fun hlt => ?_) (fun hlt => ?_)))
 ·
  have hlt := dtrue hlt
  have hfl := from_len m f to i
  obtain ⟨p, hx, _⟩ := getE (l := m) (i := i) zo
  obtain ⟨q1, cs1, hq1, hF1, _, HPq, hr1⟩ := HSm.el hx
  cases hq1
  have HG2 : AgV tPr _ _ _ p := ⟨cs1, rfl, hr1⟩
  obtain ⟨d1, d2, d3, d4, rfl, HS7, HS8⟩ := tPr_cells hr1
  obtain ⟨ax, cx, rfl⟩ := HOx.shape
  refine c_skip (n_then (c_seq (c_block (c_seq (wp_regd (NoK) zk zd zd ?_)))))
  refine rt_v (fun vals w hR hd => zmS rfl) ?_
  refine rt_v (fun vals w hR hd => zmI rfl) ?_
  refine rt_v (fun vals w hR hd => v_indexAddr (et := 50) (sz := 2) (k := i) zk zk (hd 0 rfl) (hd 1 rfl) (by first | rfl | omega) zo) ?_
  refine rt_v (fun vals w hR hd => v_fieldAddr (off := 0) (ft := 26) zk (hd 2 rfl)) ?_
  refine rt_v (fun vals w hR hd => v_load zk (hd 3 rfl) (by first | exact (HPq.ext hR) 0 _ rfl | assumption)) ?_
  refine rt_v (fun vals w hR hd => v_b2s (et := 5) zk zk zk (hd 4 rfl) (by first | exact (HS7.ext hR) | exact (HOx.ext hR).view | exact (HSt.ext hR) | exact (HSf.ext hR) | exact (HSm.ext hR) | assumption)) ?_
  refine rt_v (fun vals w hR hd => zmS rfl) ?_
  refine rt_v (fun vals w hR hd => v_b2s (et := 5) zk zk zk (hd 6 rfl) (by first | exact (HS7.ext hR) | exact (HOx.ext hR).view | exact (HSt.ext hR) | exact (HSf.ext hR) | exact (HSm.ext hR) | assumption)) ?_
  refine rt_v (fun vals w hR hd => v_sge (hd 5 rfl) (hd 7 rfl)) ?_
  refine rt_v (fun vals w hR hd => v_move (t := .bool _) (hd 8 rfl)) ?_
  refine rt_g1 rfl (fun vals w hd => hd 9 rfl) (fun vals w hR hd hG => zmS rfl) ?_
  refine rt_g1 rfl (fun vals w hd => hd 9 rfl) (fun vals w hR hd hG => v_len (et := 5) zk (gd hG (hd 10 rfl))) ?_
  refine rt_g1 rfl (fun vals w hd => hd 9 rfl) (fun vals w hR hd hG => v_eql (gd hG (hd 11 rfl)) rfl) ?_
  refine rt_g1 rfl (fun vals w hd => hd 9 rfl) (fun vals w hR hd hG => v_move (t := .bool _) (gd hG (hd 12 rfl))) ?_
  refine rt_g2 rfl (fun vals w hd => hd 13 rfl) (fun vals w hR hd hG => zmS rfl) ?_
  refine rt_g2 rfl (fun vals w hd => hd 13 rfl) (fun vals w hR hd hG => zmI rfl) ?_
  refine rt_g2 rfl (fun vals w hd => hd 13 rfl) (fun vals w hR hd hG => v_indexAddr (et := 50) (sz := 2) (k := i) zk zk (gd hG (hd 14 rfl)) (gd hG (hd 15 rfl)) (by first | rfl | omega) zo) ?_
  refine rt_g2 rfl (fun vals w hd => hd 13 rfl) (fun vals w hR hd hG => v_fieldAddr (off := 0) (ft := 26) zk (gd hG (hd 16 rfl))) ?_
  refine rt_g2 rfl (fun vals w hd => hd 13 rfl) (fun vals w hR hd hG => v_load zk (gd hG (hd 17 rfl)) (by first | exact (HPq.ext hR) 0 _ rfl | assumption)) ?_
  refine rt_g2 rfl (fun vals w hd => hd 13 rfl) (fun vals w hR hd hG => v_b2s (et := 5) zk zk zk (gd hG (hd 18 rfl)) (by first | exact (HS7.ext hR) | exact (HOx.ext hR).view | exact (HSt.ext hR) | exact (HSf.ext hR) | exact (HSm.ext hR) | assumption)) ?_
  refine rt_g2 rfl (fun vals w hd => hd 13 rfl) (fun vals w hR hd hG => zmS rfl) ?_
  refine rt_g2 rfl (fun vals w hd => hd 13 rfl) (fun vals w hR hd hG => v_b2s (et := 5) zk zk zk (gd hG (hd 20 rfl)) (by first | exact (HS7.ext hR) | exact (HOx.ext hR).view | exact (HSt.ext hR) | exact (HSf.ext hR) | exact (HSm.ext hR) | assumption)) ?_
  refine rt_g2 rfl (fun vals w hd => hd 13 rfl) (fun vals w hR hd hG => v_slt (gd hG (hd 19 rfl)) (gd hG (hd 21 rfl))) ?_
  refine rt_g1 rfl (fun vals w hd => hd 9 rfl) (fun vals w hR hd hG => v_or (gd hG (hd 13 rfl)) (gda hG (hd 22 rfl))) ?_
  refine rt_v (fun vals w hR hd => v_and (hd 9 rfl) (hd 23 rfl)) ?_
  refine rt_nil (fun w102 e102 => ?_)
  rintro _ rfl _ rfl _ rfl _ rfl _ rfl _ rfl _ rfl _ rfl _ rfl _ rfl _ rfl _ rfl _ rfl _ rfl _ rfl _ rfl _ rfl _ rfl _ rfl _ rfl _ rfl _ rfl _ rfl _ rfl _ rfl
  have := e102.size
  replace E := E.trans e102.keep
  replace HSm := HSm.ext e102
  replace HSf := HSf.ext e102
  replace HSt := HSt.ext e102
  replace HOx := HOx.ext e102
  replace EL1 := EL1.trans e102.keep
  replace HPq := HPq.ext e102
  replace HS7 := HS7.ext e102
  replace HG2 := HG2.ext e102
  refine fin_nil (n_then (c_cond rfl rfl (fun hc => ?_) (fun hc => ?_)))
  ·
   have hin : inM f to p = true := by
    have h : (!decide (p.1 < f) && (decide ((to.length : Int) = 0) || decide (p.1 < to))) = true := hc
    rw [len_empty] at h; exact h
   refine wp_reg zd (l_v (zmS rfl) (l_v (zmS rfl) (l_v (zmI rfl) (l_v (v_indexAddr (et := 50) (sz := 2) (k := i) zk zk rfl rfl (by first | rfl | omega) zo) ?_))))
   refine l_v (v_loadA zk rfl (by first | exact HPq | assumption) rfl) ?_
   refine l_to (to_slice1 (t := tPr) (et := 50) (bytes := 48) zk zq (zvA rfl) (HG2.rp) ?_)
   rintro b32 w32 zb32 HO32 e32 z32
   have := e32.size
   have zo_HO32 := fun (b : Nat) h => HO32.own_lt (b := b) h
   replace HOx := HOx.ext e32
   have HOy := HOx.mono (F' := fun b => (F b ∧ b < n6) ∨ n6 ≤ b) fun b _ h => h.imp (fun h => h) (fun h => h.1)
   have zo_HOy := fun (b : Nat) h => HOy.own_lt (b := b) h
   have zo_HOy := zo_HOx
   refine l_to (to_append (et := 50) (bytes := 48) zk (zvS rfl) HOy (zvS rfl) (HO32.view.mono (F' := fun b => (F b ∧ b < n6) ∨ w32.heap.size - 1 ≤ b) fun b _ h => h.elim (fun h => .inr zo) (fun h => .inl ⟨h.1.1, by omega⟩)) (deepF fun b hb hb2 => ⟨hb2.imp (fun h => h) (fun h => by omega), fun ho => by have := zo_HOx _ ho; omega⟩) (by first | omega | (simp; done) | (simp; omega)) (by simp only [maxLen]; first | omega | (simp; done) | (simp; omega)) zo ?_)
   rintro a9 n9 c9 w9 HO19 hn9 k9 h9 i9
   have := k9.size
   have zo_HO19 := fun (b : Nat) h => HO19.own_lt (b := b) h
   refine l_v (zaS rfl) (l_nil (n_blk (n_then (wp_reg zd (l_v (zmI rfl) (l_v (v_add rfl rfl (by first | exact wr_i64 zo zo | rfl)) ?_))))))
   replace E := (E.trans e32.keep).step k9 (by intro i hi he; have he0 := he; (try dsimp only [NoK] at hi he ⊢); (try simp only [Value.ownBlock, Option.some.injEq] at he); first | exact he.elim | omega | exact he | (have := (HOy).own_lt he0; omega) | (have := zo_HOy _ he0; omega) | (have := (HOy).own_lt he0; rcases hi with hi | hi <;> omega))
   replace HSm := (HSm.ext e32).keep k9 (by intro i _ hi he; have he0 := he; (try dsimp only [NoK, AllB] at hi he); (try simp only [Value.ownBlock, Option.some.injEq] at he); first | exact hi.elim | exact he.elim | omega | (rcases hi with hi | hi <;> omega) | (rcases he with he | he <;> omega) | (have := (HOy).own_lt he0; omega) | (have := zo_HOy _ he0; omega) | (have := (HOy).own_lt he0; rcases hi with hi | hi <;> omega))
   replace HSf := (HSf.ext e32).keep k9 (by intro i _ hi he; have he0 := he; (try dsimp only [NoK, AllB] at hi he); (try simp only [Value.ownBlock, Option.some.injEq] at he); first | exact hi.elim | exact he.elim | omega | (rcases hi with hi | hi <;> omega) | (rcases he with he | he <;> omega) | (have := (HOy).own_lt he0; omega) | (have := zo_HOy _ he0; omega) | (have := (HOy).own_lt he0; rcases hi with hi | hi <;> omega))
   replace HSt := (HSt.ext e32).keep k9 (by intro i _ hi he; have he0 := he; (try dsimp only [NoK, AllB] at hi he); (try simp only [Value.ownBlock, Option.some.injEq] at he); first | exact hi.elim | exact he.elim | omega | (rcases hi with hi | hi <;> omega) | (rcases he with he | he <;> omega) | (have := (HOy).own_lt he0; omega) | (have := zo_HOy _ he0; omega) | (have := (HOy).own_lt he0; rcases hi with hi | hi <;> omega))
   replace EL1 := (EL1.trans e32.keep).step k9 (by intro i hi he; have he0 := he; (try dsimp only [NoK] at hi he ⊢); (try simp only [Value.ownBlock, Option.some.injEq] at he); first | exact he.elim | omega | exact he | (have := (HOy).own_lt he0; omega) | (have := zo_HOy _ he0; omega) | (have := (HOy).own_lt he0; rcases hi with hi | hi <;> omega))
   replace HPq := HPq.ext e32
   replace HS7 := HS7.ext e32
   replace HG2 := HG2.ext e32
   refine l_v (zaI rfl) (l_nil (n_then (⟨(i + 1, .slice a9 n9 c9), _, rfl, by (repeat (first | exact Off.of_over _ _ _ | refine Off.upd ?_ zq _ | refine Off.overs ?_ zq _)), ⟨by first | rfl | exact congrArg (Value.int _) zo | (simp; done), by first | rfl | exact congrArg (Value.int _) zo | (simp; done), trivial⟩, ⟨E, EL1, ?_⟩, ?_⟩)))
   ·
    exact ⟨by omega, by rw [from_step hx, hin]; exact HO19.mono fun b hb h => h.imp (fun h => h) (fun h => ⟨h, hb⟩)⟩
   (dsimp only; omega)
  have hin : inM f to p = false := by
   have h : (!decide (p.1 < f) && (decide ((to.length : Int) = 0) || decide (p.1 < to))) = false := hc
   rw [len_empty] at h; exact h
  refine c_skip (n_blk (n_then (wp_reg zd (l_v (zmI rfl) (l_v (v_add rfl rfl (by first | exact wr_i64 zo zo | rfl)) ?_)))))
  refine l_v (zaI rfl) (l_nil (n_then (⟨(i + 1, .slice ax (fromM (m.take i) f to).length cx), _, rfl, by (repeat (first | exact Off.of_over _ _ _ | refine Off.upd ?_ zq _ | refine Off.overs ?_ zq _)), ⟨by first | rfl | exact congrArg (Value.int _) zo | (simp; done), by first | rfl | exact congrArg (Value.int _) zo | (simp; done), trivial⟩, ⟨E, EL1, ?_⟩, ?_⟩)))
  ·
   exact ⟨by omega, by rw [from_step hx, hin]; simpa using HOx.mono fun b hb h => h.imp (fun h => h) (fun h => ⟨h.1, by omega⟩)⟩
  (dsimp only; omega)
 obtain ⟨ax, cx, rfl⟩ := HOx.shape
 refine c_exit (x_then (x_then (x_hit (n_then (c_seq (wp_reg zd (l_v (zmS rfl) (l_v (zaS rfl) (l_nil ?_)))))))))
 refine n_then (c_ret (ret1v rfl zq (zvS rfl) ?_))
 have h2 := dfalse hlt
 have e1 : m.take i = m := List.take_of_length_le zo
 rw [e1] at HOx ⊢
 exact ⟨HOx.view.mono fun b _ h => h.elim (fun h => .inr zo) (fun h => h.elim (fun h => .inl h.1) (fun h => .inr zo)), E⟩
end Go.Proofs.Ytifnkmflmgnfjaa
