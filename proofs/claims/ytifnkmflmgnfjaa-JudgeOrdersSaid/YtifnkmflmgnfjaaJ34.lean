/- A part of the proof: steps and lemmas for the walks through the given program. -/
import Derived.Test.YtifnkmflmgnfjaaJ31
import Derived.Test.YtifnkmflmgnfjaaJ20
import Derived.Test.YtifnkmflmgnfjaaJ25
namespace Go.Proofs.Ytifnkmflmgnfjaa
open Go.Vc
set_option linter.unusedVariables false
set_option linter.unusedSimpArgs false
set_option maxRecDepth 100000

theorem lastC_last {c : Int} : ∀ (n : Nat) {cl : List Int} {i j : Nat} {x : Int}, cl.length = n → lastC c cl = some i → i < j → cl[j]? = some x → x ≠ c
  | 0, cl, i, j, x, hn, h, hij, hx => by
    obtain rfl := List.eq_nil_of_length_eq_zero hn
    simp [lastC] at h
  | n + 1, cl, i, j, x, hn, h, hij, hx => by
    obtain ⟨l, d, rfl⟩ : ∃ l d, cl = l ++ [d] := ⟨cl.dropLast, cl.getLast (by intro h; subst h; simp at hn), (List.dropLast_concat_getLast _).symm⟩
    rw [lastC_snoc] at h
    simp only [List.length_append, List.length_cons, List.length_nil] at hn
    have hjl := (List.getElem?_eq_some_iff.1 hx).1
    simp only [List.length_append, List.length_cons, List.length_nil] at hjl
    split at h
    · cases h; omega
    · rename_i hd
      rcases Nat.lt_or_ge j l.length with hj | hj
      · rw [List.getElem?_append_left hj] at hx
        exact lastC_last n zo h hij hx
      · obtain rfl : j = l.length := by omega
        simp at hx
        subst hx
        exact hd
theorem lastJ_last {out : List JdV} {c : Int} {i j : Nat} {y : JdV} (h : lastJ out c = some i) (hij : i < j) (hy : out[j]? = some y) : y.1.1 ≠ c := by
  refine lastC_last _ rfl h hij ?_
  rw [List.getElem?_map, hy]; rfl
def OrI (out : List JdV) (i : Nat) : Prop := (∀ x ∈ out, x.2.2.1 < (i : Int)) ∧ ∀ (a b : Nat) x y, a < b → out[a]? = some x → out[b]? = some y → x.1.1 = y.1.1 → 0 ≤ x.2.2.1 → x.2.2.1 < y.2.1
theorem OrI.snoc {out : List JdV} {i : Nat} {e : EvV} (h : OrI out i) : OrI (out ++ [newJ e i]) (i + 1) := by
  refine ⟨fun x hx => ?_, fun a b x y hab hx hy hc h0 => ?_⟩
  · rcases List.mem_append.1 hx with hx | hx
    · have := h.1 x hx; omega
    · rw [List.mem_singleton] at hx; subst hx
      simp only [newJ]; omega
  · have hbl := (List.getElem?_eq_some_iff.1 hy).1
    simp only [List.length_append, List.length_cons, List.length_nil] at hbl
    rcases Nat.lt_or_ge b out.length with hb | hb
    · rw [List.getElem?_append_left hb] at hy
      rw [List.getElem?_append_left zo] at hx
      exact h.2 a b x y hab hx hy hc h0
    · obtain rfl : b = out.length := by omega
      rw [List.getElem?_append_left hab] at hx
      simp at hy
      subst hy
      exact h.1 x (List.mem_of_getElem? hx)
theorem OrI.set {out : List JdV} {i n : Nat} {x0 : JdV} {c : Int} {an : AnV} (h : OrI out i) (hl : lastJ out c = some n) (hx0 : out[n]? = some x0) (hc0 : x0.1.1 = c) : OrI (out.set n (x0.1, x0.2.1, (i : Int), an)) (i + 1) := by
  have hnl := (List.getElem?_eq_some_iff.1 hx0).1
  refine ⟨fun x hx => ?_, fun a b x y hab hx hy hc h0 => ?_⟩
  · rcases List.mem_or_eq_of_mem_set hx with hx | hx
    · have := h.1 x hx; omega
    · subst hx; simp only []; omega
  · by_cases hb : n = b
    · subst hb
      rw [List.getElem?_set_self hnl] at hy; cases hy
      rw [List.getElem?_set_ne zo] at hx
      exact h.2 a n x x0 hab hx hx0 hc h0
    · rw [List.getElem?_set_ne hb] at hy
      by_cases ha : n = a
      · subst ha
        rw [List.getElem?_set_self hnl] at hx; cases hx
        exact (lastJ_last hl hab hy (by rw [← hc]; exact hc0)).elim
      · rw [List.getElem?_set_ne ha] at hx
        exact h.2 a b x y hab hx hy hc h0
theorem ev_ord {out o : List JdV} {i : Nat} {e : EvV} (h : OrI out i) (he : evStep out i e = some o) : OrI o (i + 1) := by
  cases hl : lastJ out e.2.1 with
  | none =>
    rw [ev_none hl] at he
    split at he
    · cases he; exact h.snoc
    · cases he
  | some n =>
    obtain ⟨x0, hx0, hxc⟩ := lastJ_get hl
    rw [ev_some hl hx0] at he
    split at he
    · cases he; exact h.snoc
    · split at he
      · cases he; exact h.set hl hx0 hxc
      · cases he
theorem rdE_ord : ∀ (l : List EvV) (i : Nat) (out : List JdV), OrI out i → OrI (rdE l i out).1 (i + l.length)
  | [], i, out, h => h
  | e :: l, i, out, h => by
    rw [rdE]
    cases he : evStep out i e with
    | none => exact ⟨fun x hx => by have := h.1 x hx; simp only [List.length_cons]; omega, h.2⟩
    | some o =>
      have := rdE_ord l (i + 1) o (ev_ord h he)
      simp only [List.length_cons]
      rw [show i + (l.length + 1) = i + 1 + l.length by omega]
      exact this
set_option maxHeartbeats 4000000 in
theorem refJudge_c {w : World} {F : Nat → Prop} {v : Value} {l : List EvV} (HSl : SlV tEv w F v l) (hn : l.length ≤ 100000) : CallsR Try.prog 30 #[v] w (fun o w' => ∃ oa oc ma mc, o = .tuple #[.int .i64 (jdg l).1, .int .i64 (jdg l).2.1, .slice oa (jdg l).2.2.1.length oc, .slice ma (jdg l).2.2.2.length mc] ∧ SlV (tInt .i64) w' AllB (.slice oa (jdg l).2.2.1.length oc) (intsN (jdg l).2.2.1) ∧ SlV tPr w' AllB (.slice ma (jdg l).2.2.2.length mc) (jdg l).2.2.2 ∧ Ext w w') := by
 obtain ⟨al, cl, rfl⟩ := HSl.shape
 have hmx := HSl.len_max
 obtain ⟨r, hr0⟩ : ∃ r, r = (rdE l 0 []).1 := ⟨_, rfl⟩
 obtain ⟨k, hk0⟩ : ∃ k, k = (rdE l 0 []).2 := ⟨_, rfl⟩
 have hrl : r.length ≤ 100000 := by have := rdE_len l 0 []; rw [hr0]; simp only [List.length_nil] at this; omega
 have hcb := cntO_le r
 have hok := rdE_ok l 0 [] (fun x hx => by cases hx)
 have hor := rdE_ord l 0 [] ⟨fun x hx => (by cases hx), fun a b x y hab hx => (by simp at hx)⟩
 rw [← hr0] at hok hor
 have hak : ∀ x ∈ r, mayAk x.1.2.2 = true := fun x hx => (hok x hx).1
 have hans : ∀ x ∈ r, x.2.2.1 < 0 ∨ x.2.1 < x.2.2.1 := fun x hx => (hok x hx).2.2.2.1.imp (fun h => by omega) (fun h => h)
 refine enter 71 Try.func30 rfl rfl (by simp) ?_
 refine c_seq ?_
 have E := Keep.refl (K := NoK) w
 replace HSl := HSl.all
 refine wp_reg zd (l_v (v_assign rfl) (l_v (v_assign rfl) (l_v (v_assign rfl) (l_v (v_assign rfl) (l_nil (n_then (c_seq (wp_reg zd (l_v (zmS rfl) ?_)))))))))
 refine l_to (to_f1 zk (zvS rfl) (CallsR.mono (refRequests_c HSl hn) ?_))
 rintro _ w3 ⟨rv, rfl, HSr, e3⟩
 have := e3.size
 rw [← hr0] at HSr
 rw [← hk0]
 obtain ⟨ar, cr, rfl⟩ := HSr.shape
 replace HSr := HSr.all
 refine l_v (zmT rfl) (l_v (v_extract (t := .slice _ _ _) rfl rfl) (l_v (v_extract (t := .int _ _) rfl rfl) (l_v (zaS rfl) (l_v (zaI rfl) (l_nil (n_then (c_seq (c_seq (wp_reg zd ?_)))))))))
 refine l_v (zmI rfl) (l_v (zmS rfl) (l_v (v_len (et := 44) zk rfl) ?_))
 refine l_v (v_lss rfl rfl) ?_
 replace E := E.trans e3.keep
 replace HSl := HSl.ext e3
 refine l_nil (n_then (c_cond rfl rfl (fun h21 => ?_) (fun h21 => ?_)))
 ·
  refine c_seq (wp_reg zd (l_v (zmI rfl) (l_v (zaI rfl) (l_v (v_assign rfl) (l_v (v_assign rfl) (l_v (v_assign rfl) (l_nil (n_then (c_ret ?_)))))))))
  refine r_then (ret4v rfl zq zq zq zq (zvI rfl) (zvI rfl) (zvS rfl) (zvS rfl) ?_)
  have hj : jdg l = ((k : Int), 2, [], []) := by rw [jdg, if_pos (by rw [← hk0]; have := dtrue h21; omega), hk0]
  refine ⟨none, 0, none, 0, ?_, ?_, ?_, E⟩
  ·
   rw [hj]; rfl
  ·
   rw [hj]; exact SlV.nil _ _ _
  rw [hj]; exact SlV.nil _ _ _
 have hkl : ¬ (rdE l 0 []).2 < l.length := by rw [← hk0]; have := dfalse h21; omega
 refine c_skip (n_then (c_seq (wp_reg zd (l_v (v_assign rfl) (l_nil (n_then (c_seq (c_seq (wp_reg zd ?_)))))))))
 refine l_v (v_assign rfl) (l_nil (n_then (c_block (c_loop (τ := Nat) [8, 9, 23, 24, 25, 26, 27, 28, 29, 30, 31, 32, 33, 34, 35, 36, 37, 38, 39, 40, 41, 42, 43, 44, 45] (fun t => [(8, .int .i64 (cntO r t : Nat)), (9, .int .i64 t)]) (fun t W => Ext w W ∧ Keep (NoK) w3 W ∧ t ≤ r.length) (fun t => r.length - t) 0 (by exact ⟨rfl, rfl, trivial⟩) (by exact ⟨E, Keep.refl _, Nat.zero_le _⟩) ?_))))
 rintro t w101 j ⟨E, EL1, h1⟩
 have := EL1.size
 refine c_seq (c_seq (wp_reg zd (l_v (zmI rfl) (l_v (zmS rfl) (l_v (v_len (et := 86) zk rfl) ?_)))))
 refine l_v (v_lss rfl rfl) ?_
 replace HSl := HSl.ext EL1
 replace HSr := HSr.ext EL1
 refine l_nil (n_then (c_cond rfl rfl (fun hlt => ?_) (fun hlt => ?_)))
 ·
  have hlt := dtrue hlt
  obtain ⟨x, hx, _⟩ := getE (l := r) (i := t) zo
  obtain ⟨q, cs, hqq, hF, _, HPq, hrr⟩ := HSr.el hx
  subst hqq
  obtain ⟨a1, c1, a2, c2, a3, c3, a4, c4, a5, c5, a6, c6, rfl, HGa, _⟩ := tJd_cells hrr
  have hcb1 := hcb t
  have hsc := cntO_succ hx
  refine c_skip (n_then (c_seq (c_block (c_seq (wp_reg zd (l_v (zmS rfl) (l_v (zmI rfl) (l_v (v_indexAddr (et := 86) (sz := 14) (k := t) zk zk rfl rfl (by first | rfl | omega) zo) ?_))))))))
  refine l_v (v_fieldAddr (off := 10) (ft := 3) zk rfl) (l_v (v_load zk rfl (by first | exact HPq 10 _ rfl | exact pv_1 HPq | assumption)) ?_)
  refine l_v (v_lss rfl rfl) ?_
  refine l_v (zmB rfl) (l_g1 rfl rfl (fun hG => zmS rfl) (l_g1 rfl rfl (fun hG => zmI rfl) (l_g1 rfl rfl (fun hG => v_indexAddr (et := 86) (sz := 14) (k := t) zk zk (gd hG rfl) (gd hG rfl) (by first | rfl | omega) zo) ?_)))
  refine l_g1 rfl rfl (fun hG => v_fieldAddr (off := 0) (ft := 77) zk (gd hG rfl)) ?_
  refine l_g1 rfl rfl (fun hG => v_fieldAddr (off := 2) (ft := 28) zk (gd hG rfl)) ?_
  refine l_g1 rfl rfl (fun hG => v_loadA zk (gd hG rfl) (by first | exact (show Pv _ _ [_, _, _, _, _, _, _] from pv_sub 2 7 HPq) | exact pv_at 2 HPq | exact HPq | assumption) rfl) ?_
  refine l_g1f rfl rfl (fun hG => to_f1 zk (gd hG rfl) (refwrites_c HGa)) ?_
  rintro w102 e102
  have := e102.size
  refine l_v (v_and rfl rfl) ?_
  replace E := E.trans e102.keep
  replace HSl := HSl.ext e102
  replace HSr := HSr.ext e102
  replace EL1 := EL1.trans e102.keep
  replace HPq := HPq.ext e102
  replace HGa := HGa.ext e102
  refine l_nil (n_then (c_cond rfl rfl (fun hp => ?_) (fun hp => ?_)))
  ·
   rw [show opnJ x = true from hp, if_pos rfl] at hsc
   refine wp_reg zd (l_v (zmI rfl) (l_v (v_add rfl rfl (by first | exact wr_i64 zo zo | rfl)) ?_))
   refine l_v (zaI rfl) (l_nil (n_blk (n_then (wp_reg zd (l_v (zmI rfl) (l_v (v_add rfl rfl (by first | exact wr_i64 zo zo | rfl)) ?_))))))
   refine l_v (zaI rfl) (l_nil (n_then (⟨t + 1, _, rfl, by (repeat (first | exact Off.of_over _ _ _ | refine Off.upd ?_ zq _ | refine Off.overs ?_ zq _)), ⟨by first | rfl | exact congrArg (Value.int _) zo | (simp; done) | (rw [hsc]; rfl), by first | rfl | exact congrArg (Value.int _) zo | (simp; done) | (rw [hsc]; rfl), trivial⟩, ⟨E, EL1, ?_⟩, ?_⟩)))
   ·
    omega
   (dsimp only; omega)
  rw [show opnJ x = false from hp, if_neg zq] at hsc
  refine c_skip (n_blk (n_then (wp_reg zd (l_v (zmI rfl) (l_v (v_add rfl rfl (by first | exact wr_i64 zo zo | rfl)) ?_)))))
  refine l_v (zaI rfl) (l_nil (n_then (⟨t + 1, _, rfl, by (repeat (first | exact Off.of_over _ _ _ | refine Off.upd ?_ zq _ | refine Off.overs ?_ zq _)), ⟨by first | rfl | exact congrArg (Value.int _) zo | (simp; done) | (rw [hsc]; rfl), by first | rfl | exact congrArg (Value.int _) zo | (simp; done) | (rw [hsc]; rfl), trivial⟩, ⟨E, EL1, ?_⟩, ?_⟩)))
  ·
   omega
  (dsimp only; omega)
 obtain rfl : t = r.length := by have := dfalse hlt; omega
 have hcl : cntO r r.length = (r.filter opnJ).length := by unfold cntO; rw [List.take_length]
 refine c_exit (x_then (x_then (x_hit (n_then (c_seq (c_seq (wp_reg zd (l_v (zmS rfl) (l_v (v_len (et := 86) zk rfl) ?_)))))))))
 refine l_v (v_gtr rfl rfl) ?_
 refine l_v (zmB rfl) (l_g1 rfl rfl (fun hG => zmI rfl) (l_g1 rfl rfl (fun hG => v_gtr (gd hG rfl) rfl) ?_))
 refine l_v (v_or rfl rfl) ?_
 refine l_nil (n_then (c_cond rfl rfl (fun h52 => ?_) (fun h52 => ?_)))
 ·
  refine c_seq (wp_reg zd (l_v (v_assign rfl) (l_v (v_assign rfl) (l_v (v_assign rfl) (l_v (v_assign rfl) (l_nil (n_then (c_ret (r_then ?_)))))))))
  refine ret4v rfl zq zq zq zq (zvI rfl) (zvI rfl) (zvS rfl) (zvS rfl) ?_
  have hj : jdg l = (0, 3, [], []) := by rw [jdg, if_neg hkl, if_pos (by rw [← hr0]; simp [hcl] at h52; omega)]
  refine ⟨none, 0, none, 0, ?_, ?_, ?_, E⟩
  ·
   rw [hj]; rfl
  ·
   rw [hj]; exact SlV.nil _ _ _
  rw [hj]; exact SlV.nil _ _ _
 have hr32 : r.length ≤ 32 ∧ (r.filter opnJ).length ≤ 6 := by simp [hcl] at h52; omega
 have hRP : RP r := ⟨hr32.1, hr32.2, fun x hx => ⟨(hok x hx).2.2.2.2.2.1, (hok x hx).2.2.2.2.2.2⟩, fun a b x y => hor.2 a b x y⟩
 have hj9 : seek r r.length (List.replicate r.length false) [] = none → jdg l = (0, 9, [], []) := fun h => by rw [jdg, if_neg hkl, if_neg (by rw [← hr0]; omega), ← hr0, h]
 have hj0 : ∀ os m, seek r r.length (List.replicate r.length false) [] = some (os, m) → jdg l = (0, 0, os, m) := fun os m h => by rw [jdg, if_neg hkl, if_neg (by rw [← hr0]; omega), ← hr0, h]
 have hsu : seekU r (List.replicate r.length false) [] = seek r r.length (List.replicate r.length false) [] := by rw [seekU, unD_rep]
 obtain ⟨n5, hn5⟩ : ∃ n, n = w101.heap.size := ⟨_, rfl⟩
 refine c_skip (n_then (c_seq (wp_reg zd (l_v (zmS rfl) (l_v (zmS rfl) (l_v (v_len (et := 86) zk rfl) ?_))))))
 refine l_to (to_make (et := 4) (bytes := 1) zk (t := tBool) (z := false) (n := r.length) (m := r.length) (zv := .bool false) rfl rfl (.inl rfl) zo (by simp only [maxLen]; omega) (by unfold kZero; kernel_rfl) rfl rfl (fun _ _ => rfl) ?_)
 rintro bD cD w9 zbD HOd e9 z9
 have := e9.size
 have zo_HOd := fun (b : Nat) h => HOd.own_lt (b := b) h
 refine l_v (v_build (pl := [(0, 1), (1, 1), (2, 1), (3, 1024)]) (z := .agg (List.replicate 1027 (.slice none 0 0)).toArray) (zl := List.replicate 1027 (.slice none 0 0)) (ps := [(0, .slice ar r.length cr), (1, .slice (some ⟨bD, 0, none⟩) r.length cD)]) zk (by unfold kZero; kernel_rfl) zk (by exact parts2 rfl rfl) (cells := .slice ar r.length cr :: .slice (some ⟨bD, 0, none⟩) r.length cD :: .slice none 0 0 :: List.replicate 1024 (.slice none 0 0)) zk) ?_
 refine l_to (to_box (zvA rfl) ?_)
 rintro tb w10 ztb HBt e10 z10
 have := e10.size
 replace HBt : Blk w10 tb (.slice ar r.length cr :: .slice (some ⟨bD, 0, none⟩) r.length cD :: .slice none 0 0 :: List.replicate 1024 (.slice none 0 0)) 101 := HBt
 try simp only [Value.cells] at HBt
 refine l_v (zaP rfl) (l_nil (n_then (c_seq ?_)))
 have HOo : OwV (tInt .i64) 3 w10 n5 NoK (.slice none 0 0) (intsN []) := OwV.nil _ _ _ _ _
 replace HSr := (HSr.ext e9).ext e10
 replace HOd := HOd.ext e10
 have h9 := rtry_c (tb := tb) (bD := bD) (n1 := n5) hRP hak hans zo r.length (d := List.replicate r.length false) (ord := []) (m := []) (vm := .slice none 0 0) (X := fun b => n5 ≤ b) (V := fun _ => False) (S := fun _ => []) (unD_rep _) GdS.nil (by simp; omega) (by simp; omega) zo HBt (HOd.base zo) HOo VnR.start (fun b h => h.elim) (fun b h => by cases h) zo zo (HSr.mono fun b hb h => by omega) (SlV.nil _ _ _)
 refine wp_reg zd (l_v (zmP rfl) (l_to (to_f2 zk (zvP rfl) (zvS rfl) (CallsR.mono (h9) ?_))))
 rintro _ w16 ⟨⟨ua, un, uc, bb, rfl, hT, hFl⟩, k16⟩
 have := k16.size
 refine l_v (zmT rfl) (l_v (v_extract (t := .slice _ _ _) rfl rfl) (l_v (v_extract (t := .bool _) rfl rfl) (l_v (zaS rfl) (l_v (zaB rfl) (l_nil (n_then (c_seq (c_seq (wp_reg zd ?_)))))))))
 refine l_v (zmB rfl) (l_v (v_not rfl) ?_)
 replace E := ((E.trans e9.keep).trans e10.keep).step k16 dj3
 replace HSl := ((HSl.ext e9).ext e10).keep k16 dj1
 replace HSr := HSr.keep k16 dj1
 refine l_nil (n_then (c_cond rfl rfl (fun h49 => ?_) (fun h49 => ?_)))
 ·
  have hbf : bb = false := by simpa using h49
  refine c_seq (wp_reg zd (l_v (v_assign rfl) (l_v (v_assign rfl) (l_v (v_assign rfl) (l_v (v_assign rfl) (l_nil (n_then (c_ret (r_then ?_)))))))))
  refine ret4v rfl zq zq zq zq (zvI rfl) (zvI rfl) (zvS rfl) (zvS rfl) ?_
  have hj := hj9 (by rw [← hsu]; exact (hFl hbf).1)
  refine ⟨none, 0, none, 0, ?_, ?_, ?_, E⟩
  ·
   rw [hj]; rfl
  ·
   rw [hj]; exact SlV.nil _ _ _
  rw [hj]; exact SlV.nil _ _ _
 have hbt : bb = true := by simpa using h49
 obtain ⟨os, m', ao', co', c9, cells9, hs, HSm, HBr, HSo⟩ := hT hbt
 rw [List.nil_append] at HBr HSo
 have hj := hj0 os m' (by rw [← hsu]; exact hs)
 obtain ⟨_, _, hum⟩ := HSm.shape
 cases hum
 refine c_skip (n_then (c_seq (wp_regd (NoK) zk zd zd ?_)))
 refine rt_v (fun vals w hR hd => zmP rfl) ?_
 refine rt_v (fun vals w hR hd => v_nilCheck (hd 0 rfl)) ?_
 refine rt_v (fun vals w hR hd => v_fieldAddr (off := 2) (ft := 53) zk (hd 1 rfl)) ?_
 refine rt_v (fun vals w hR hd => v_load zk (hd 2 rfl) (by first | exact (HBr.ext hR).pv 2 _ rfl | assumption)) ?_
 refine rt_v (fun vals w hR hd => zmS rfl) ?_
 refine rt_v (fun vals w hR hd => v_assign rfl) ?_
 refine rt_v (fun vals w hR hd => v_assign rfl) ?_
 refine rt_v (fun vals w hR hd => v_assign (t := .slice _ _ _) (hd 3 rfl)) ?_
 refine rt_v (fun vals w hR hd => v_assign (t := .slice _ _ _) (hd 4 rfl)) ?_
 refine rt_nil (fun w103 e103 => ?_)
 rintro _ rfl _ rfl _ rfl _ rfl _ rfl _ rfl _ rfl _ rfl _ rfl
 have := e103.size
 refine fin_nil (n_then (c_ret (ret4v rfl zq zq zq zq (zvI rfl) (zvI rfl) (zvS rfl) (zvS rfl) ?_)))
 rw [hj]
 replace E := E.trans e103.keep
 replace HSm := HSm.ext e103
 replace HSo := HSo.ext e103
 exact ⟨ao', co', ua, uc, rfl, HSo, HSm, E⟩
end Go.Proofs.Ytifnkmflmgnfjaa
