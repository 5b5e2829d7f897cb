/- A part of the proof: steps and lemmas for the walks through the given program. -/
import Derived.Test.YthnpnniiejcnbaaW6
namespace Go.Proofs.Ythnpnniiejcnbaa
open Go.Vc
set_option linter.unusedVariables false
set_option maxRecDepth 100000

def rdSome (n : Nat) (l : List UInt8) : Except Int (List UInt8 × List UInt8) := if n ≤ l.length then .ok (l.take n, l.drop n) else .error 4
def rdBytes (most : Nat) (l : List UInt8) : Except Int (List UInt8 × List UInt8) := tryRd rdSome most l

theorem some_c {w : World} {b : Nat} {F : Nat → Prop} {l : List UInt8} {n : Nat} (hr : Rd nRd w b F l) (hF : ¬ F b) (hl : l.length ≤ 140737488355300) : CallsR Try.prog 56 #[.pointer (some ⟨b, 0, none⟩), .int .i64 n] w (fun r w' => ReadV tU8 nU8 nRd w w' b F (rdSome n l) r ∧ Keep (fun k => k = b) w w') := by
  obtain ⟨a, c, hb, hv⟩ := hr
  have hblt := hb.lt
  by_cases hn : n ≤ l.length
  · have hρ : rdSome n l = .ok (l.take n, l.drop n) := by rw [rdSome, if_pos hn]
    have htl : (l.take n).length = n := List.length_take_of_le hn
    refine enter 32 Try.func56 rfl rfl (by simp) ?_
    refine c_seq ?_
    refine wp_reg (by decide +kernel) ?_
    refine l_v (v_assign rfl) ?_
    refine l_v (v_assign rfl) ?_
    refine l_nil ?_
    refine n_then ?_
    refine c_seq ?_
    refine c_seq ?_
    refine wp_reg (by decide +kernel) ?_
    refine l_v (v_move (t := .int _ _) rfl) ?_
    refine l_v (v_move (t := .pointer _) rfl) ?_
    refine l_v (v_nilCheck rfl) ?_
    refine l_v (v_fieldAddr (off := 0) (ft := 22) (by kernel_rfl) rfl) ?_
    refine l_v (v_load (by kernel_rfl) rfl (hb.pv 0 _ rfl)) ?_
    refine l_v (v_len (et := 5) (by kernel_rfl) rfl) ?_
    refine l_v (v_gtr rfl rfl) ?_
    refine l_nil ?_
    refine n_then ?_
    refine c_cond rfl rfl (fun hc => ?_) (fun hc => ?_)
    · skip
      have := dtrue hc; omega
    · skip
      refine wp_skip ?_
      refine n_then ?_
      refine c_seq ?_
      refine wp_reg (by decide +kernel) ?_
      refine l_to (to_slice0 (t := tU8) (et := 5) (bytes := 1) (by kernel_rfl) ?_)
      rintro b1 w1 rfl o1 e1 z1
      have zs_e1 := e1.size
      refine l_v (v_move (t := .pointer _) rfl) ?_
      refine l_v (v_nilCheck rfl) ?_
      refine l_v (v_fieldAddr (off := 0) (ft := 22) (by kernel_rfl) rfl) ?_
      refine l_v (v_load (by kernel_rfl) rfl ((hb.ext e1).pv 0 _ rfl)) ?_
      refine l_v (v_move (t := .int _ _) rfl) ?_
      refine l_to (to_slice (et := 5) (l := 0) (h := n) (by kernel_rfl) (by kernel_rfl) (show _ = (Value.slice _ _ _) from rfl) (hv.ext e1) rfl ⟨_, by exact rfl⟩ (by first | omega | (simp; done) | (simp; omega)) (by first | omega | (simp; done) | (simp; omega)) ?_)
      rintro a2 n2 c2 h2 rfl hn2
      refine l_to (to_append (et := 5) (bytes := 1) (by kernel_rfl) (show _ = (Value.slice _ _ _) from rfl) o1 (show _ = (Value.slice _ _ _) from rfl) h2 (flat_u8.to) (by first | omega | (simp; done) | (simp; omega)) (by simp only [maxLen]; first | omega | (simp; done) | (simp; omega)) (by omega) ?_)
      rintro a3 n3 c3 w3 o3 hn3 k3 b3 i3
      have zs_k3 := k3.size
      subst hn3
      have e3 : Ext w w3 := e1.step k3 fun i hi h => by simp [Value.ownBlock] at h; omega
      have hl3 : ([] ++ (l.take n).drop 0) = l.take n := by simp
      rw [hl3] at o3 ⊢
      refine l_v (v_assign (t := .slice _ _ _) rfl) ?_
      refine l_nil ?_
      refine n_then ?_
      refine c_seq ?_
      refine wp_reg (by decide +kernel) ?_
      refine l_v (v_move (t := .pointer _) rfl) ?_
      refine l_v (v_move (t := .pointer _) rfl) ?_
      refine l_v (v_nilCheck rfl) ?_
      refine l_v (v_fieldAddr (off := 0) (ft := 22) (by kernel_rfl) rfl) ?_
      refine l_v (v_load (by kernel_rfl) rfl ((hb.ext e3).pv 0 _ rfl)) ?_
      refine l_v (v_move (t := .int _ _) rfl) ?_
      refine l_to (to_slice (et := 5) (l := n) (h := l.length) (by kernel_rfl) (by kernel_rfl) (show _ = (Value.slice _ _ _) from rfl) (hv.ext e3) ⟨_, by exact rfl⟩ rfl (by first | omega | (simp; done) | (simp; omega)) (by first | omega | (simp; done) | (simp; omega)) ?_)
      rintro a4 n4 c4 h4 rfl hn4
      refine l_v (v_nilCheck rfl) ?_
      refine l_v (v_fieldAddr (off := 0) (ft := 22) (by kernel_rfl) rfl) ?_
      refine l_to (to_store rfl rfl (show _ = (Value.slice _ _ _) from rfl) rfl (by kernel_rfl) (hb.ext e3) (by simp) ?_)
      rintro w5 h5 k5 z5
      have zs_k5 := k5.size
      refine l_nil ?_
      refine n_then ?_
      refine c_seq ?_
      refine wp_reg (by decide +kernel) ?_
      refine l_v (v_move (t := .slice _ _ _) rfl) ?_
      refine l_v (v_assign (t := .slice _ _ _) rfl) ?_
      refine l_v (v_assign rfl) ?_
      refine l_nil ?_
      refine n_then ?_
      refine wp_ret ?_
      refine ret2 rfl (by decide) (by decide) ?_
      refine ⟨?_, e3.keep.trans k5⟩
      obtain ⟨q4, rfl⟩ := hn4 a _ _ rfl
      rw [hρ]
      have hdl : l.length - n = (l.drop n).length := by rw [List.length_drop]
      rw [List.take_length] at h4
      rw [hdl] at h4 h5
      refine ⟨_, _, rfl, (o3.mono (F' := fun k => w.heap.size ≤ k) fun i _ hi => hi.elim).keep k5 (fun i hi h => ?_) (fun i _ hi _ h => by omega), q4, c4, h5, h4.keep k5 fun i _ hi h => hF (by subst h; exact hi)⟩
      have := (o3.own_lt hi).1
      omega
  · have hρ : rdSome n l = .error 4 := by rw [rdSome, if_neg hn]
    refine enter 32 Try.func56 rfl rfl (by simp) ?_
    refine c_seq ?_
    refine wp_reg (by decide +kernel) ?_
    refine l_v (v_assign rfl) ?_
    refine l_v (v_assign rfl) ?_
    refine l_nil ?_
    refine n_then ?_
    refine c_seq ?_
    refine c_seq ?_
    refine wp_reg (by decide +kernel) ?_
    refine l_v (v_move (t := .int _ _) rfl) ?_
    refine l_v (v_move (t := .pointer _) rfl) ?_
    refine l_v (v_nilCheck rfl) ?_
    refine l_v (v_fieldAddr (off := 0) (ft := 22) (by kernel_rfl) rfl) ?_
    refine l_v (v_load (by kernel_rfl) rfl (hb.pv 0 _ rfl)) ?_
    refine l_v (v_len (et := 5) (by kernel_rfl) rfl) ?_
    refine l_v (v_gtr rfl rfl) ?_
    refine l_nil ?_
    refine n_then ?_
    refine c_cond rfl rfl (fun hc => ?_) (fun hc => ?_)
    · skip
      refine c_seq ?_
      refine wp_reg (by decide +kernel) ?_
      refine l_v (v_assign rfl) ?_
      refine l_v (v_assign rfl) ?_
      refine l_nil ?_
      refine n_then ?_
      refine wp_ret ?_
      refine r_then ?_
      refine ret2 rfl (by decide) (by decide) ?_
      refine ⟨?_, Keep.refl _⟩
      rw [hρ]
      exact ⟨by omega, _, _, _, rfl⟩
    · skip
      have := dfalse hc; omega

theorem Bytes2_c {w : World} {b : Nat} {F : Nat → Prop} {l : List UInt8} {most : Int} (hr : Rd nRd w b F l) (hF : ∀ k, F k → k < b) (hm : 0 ≤ most) (hm2 : most ≤ 9223372036854775807) (hl : l.length ≤ 140737488355300) :
    CallsR Try.prog 33 #[.pointer (some ⟨b, 0, none⟩), .int .i64 most] w (fun r w' => TryV tU8 nU8 nRd w w' b F l (rdBytes most.toNat l) r ∧ Keep (fun k => k = b) w w') := by
  have hb := hr
  obtain ⟨a0, c0, hb0, _⟩ := hb
  have hblt := hb0.lt
  cases hρ : rdBytes most.toNat l with
  | error er =>
    refine enter 11 Try.func33 rfl rfl (by simp) ?_
    refine c_seq ?_
    refine wp_reg (by decide +kernel) ?_
    refine l_v (v_assign rfl) ?_
    refine l_v (v_assign rfl) ?_
    refine l_nil ?_
    refine n_then ?_
    refine c_seq ?_
    refine wp_reg (by decide +kernel) ?_
    refine l_v (v_move (t := .pointer _) rfl) ?_
    refine l_v (v_move (t := .int _ _) rfl) ?_
    refine l_to (to_f3 (by kernel_rfl) (show _ = (Value.pointer _) from rfl) (show _ = (Value.int _ _) from rfl) rfl (CallsR.mono (tryB_c hr hF hm hm2 (by kernel_rfl) rdSome (fun w1 c l1 n e1 hc1 hr1 hl1 hn1 => by simpa using some_c hr1 (fun h => by have := hF _ h; omega) (by omega))) ?_))
    rintro r w1 ⟨h1, k1⟩
    have zs_k1 := k1.size
    rw [show tryRd rdSome most.toNat l = .error er from hρ] at h1
    obtain ⟨her, rfl, h2⟩ := h1
    refine l_v (v_extract (t := .slice _ _ _) rfl rfl) ?_
    refine l_v (v_extract (t := .int _ _) rfl rfl) ?_
    refine l_v (v_assign (t := .slice _ _ _) rfl) ?_
    refine l_v (v_assign (t := .int _ _) rfl) ?_
    refine l_nil ?_
    refine n_then ?_
    refine wp_ret ?_
    refine ret2 rfl (by decide) (by decide) ?_
    exact ⟨⟨her, rfl, h2⟩, k1⟩
  | ok xl =>
    obtain ⟨x, l2⟩ := xl
    refine enter 11 Try.func33 rfl rfl (by simp) ?_
    refine c_seq ?_
    refine wp_reg (by decide +kernel) ?_
    refine l_v (v_assign rfl) ?_
    refine l_v (v_assign rfl) ?_
    refine l_nil ?_
    refine n_then ?_
    refine c_seq ?_
    refine wp_reg (by decide +kernel) ?_
    refine l_v (v_move (t := .pointer _) rfl) ?_
    refine l_v (v_move (t := .int _ _) rfl) ?_
    refine l_to (to_f3 (by kernel_rfl) (show _ = (Value.pointer _) from rfl) (show _ = (Value.int _ _) from rfl) rfl (CallsR.mono (tryB_c hr hF hm hm2 (by kernel_rfl) rdSome (fun w1 c l1 n e1 hc1 hr1 hl1 hn1 => by simpa using some_c hr1 (fun h => by have := hF _ h; omega) (by omega))) ?_))
    rintro r w1 ⟨h1, k1⟩
    have zs_k1 := k1.size
    rw [show tryRd rdSome most.toNat l = .ok (x, l2) from hρ] at h1
    obtain ⟨a4, c4, rfl, h2⟩ := h1
    refine l_v (v_extract (t := .slice _ _ _) rfl rfl) ?_
    refine l_v (v_extract (t := .int _ _) rfl rfl) ?_
    refine l_v (v_assign (t := .slice _ _ _) rfl) ?_
    refine l_v (v_assign (t := .int _ _) rfl) ?_
    refine l_nil ?_
    refine n_then ?_
    refine wp_ret ?_
    refine ret2 rfl (by decide) (by decide) ?_
    exact ⟨⟨_, _, rfl, h2⟩, k1⟩

theorem num_c {w : World} {n : Int} : CallsR Try.prog 16 #[.int .i64 n] w (fun r w' => r = .int .i64 n ∧ Ext w w') := by
  refine enter 4 Try.func16 rfl rfl (by simp) ?_
  refine c_seq ?_
  refine wp_reg (by decide +kernel) ?_
  refine l_v (v_assign rfl) ?_
  refine l_nil ?_
  refine n_then ?_
  refine c_seq ?_
  refine wp_reg (by decide +kernel) ?_
  refine l_v (v_move (t := .int _ _) rfl) ?_
  refine l_v (v_assign (t := .int _ _) rfl) ?_
  refine l_nil ?_
  refine n_then ?_
  refine wp_ret ?_
  refine ret1 rfl (by decide) ?_
  exact ⟨rfl, Keep.refl _⟩

theorem digits_c {w : World} {n : Nat} (hn : n < 18446744073709551616) : CallsR Try.prog 46 #[.int .u64 n] w (fun r w' => r = .int .i64 (wNum n).length ∧ Ext w w') := by
  have hl := wNum_len10 hn
  obtain ⟨w0, rfl⟩ : ∃ x, x = w := ⟨w, rfl⟩
  refine enter 12 Try.func46 rfl rfl (by simp) ?_
  refine c_seq ?_
  refine wp_reg (by decide +kernel) ?_
  refine l_v (v_assign rfl) ?_
  refine l_nil ?_
  refine n_then ?_
  refine c_seq ?_
  refine wp_reg (by decide +kernel) ?_
  refine l_v (v_assign rfl) ?_
  refine l_nil ?_
  refine n_then ?_
  refine c_seq ?_
  refine wp_block ?_
  refine c_loop (τ := Nat × Nat) [0, 3, 4, 5, 6, 7, 8, 9, 10] (fun (n', m) => [(0, .int .u64 n'), (3, .int .i64 m)]) (fun (n', m) w => w = w0 ∧ n' < 18446744073709551616 ∧ m + (wNum n').length = 1 + (wNum n).length) (fun (n', m) => n') (n, 1) (by exact ⟨rfl, rfl, trivial⟩) (by exact ⟨rfl, hn, rfl⟩) ?_
  rintro ⟨n', m⟩ w1 j ⟨rfl, h1, h2⟩
  refine c_seq ?_
  refine c_seq ?_
  refine wp_reg (by decide +kernel) ?_
  refine l_v (v_move (t := .int _ _) rfl) ?_
  refine l_v (v_quo rfl rfl (by decide) (by first | exact qu_u64 (by omega) (by omega) (by decide) | rfl)) ?_
  refine l_v (v_gtr rfl rfl) ?_
  refine l_nil ?_
  refine n_then ?_
  refine c_cond rfl rfl (fun hc => ?_) (fun hc => ?_)
  · skip
    have hge : 128 ≤ n' := by have := dtrue hc; omega
    have hw := wNum_ge hge
    rw [hw] at h2
    simp only [List.length_cons] at h2
    refine wp_skip ?_
    refine n_then ?_
    refine wp_block ?_
    refine c_seq ?_
    refine wp_reg (by decide +kernel) ?_
    refine l_v (v_move (t := .int _ _) rfl) ?_
    refine l_v (v_quo rfl rfl (by decide) (by first | exact qu_u64 (by omega) (by omega) (by decide) | rfl)) ?_
    refine l_v (v_assign (t := .int _ _) rfl) ?_
    refine l_nil ?_
    refine n_then ?_
    refine wp_reg (by decide +kernel) ?_
    refine l_v (v_move (t := .int _ _) rfl) ?_
    refine l_v (v_add rfl rfl (by first | exact wr_i64 (by omega) (by omega) | rfl)) ?_
    refine l_v (v_assign (t := .int _ _) rfl) ?_
    refine l_nil ?_
    refine n_blk ?_
    refine n_then ?_
    refine ⟨(n' / 128, m + 1), _, rfl, by (repeat (first | exact Off.of_over _ _ _ | refine Off.upd ?_ (by decide) _)), ⟨by first | rfl | exact congrArg (Value.int _) (by omega) | (simp; done), by first | rfl | exact congrArg (Value.int _) (by omega) | (simp; done), trivial⟩, ?_, ?_⟩
    · exact ⟨rfl, by omega, by omega⟩
    · dsimp only; omega
  · skip
    refine wp_exit ?_
    refine x_then ?_
    refine x_then ?_
    refine x_hit ?_
    refine n_then ?_
    refine c_seq ?_
    refine wp_reg (by decide +kernel) ?_
    refine l_v (v_move (t := .int _ _) rfl) ?_
    refine l_v (v_assign (t := .int _ _) rfl) ?_
    refine l_nil ?_
    refine n_then ?_
    refine wp_ret ?_
    refine ret1 rfl (by decide) ?_
    refine ⟨?_, Keep.refl _⟩
    have hlt : n' < 128 := by have := dfalse hc; omega
    rw [wNum_lt hlt] at h2
    exact congrArg (Value.int _) (by simp at h2; omega)

theorem refNumber_c {w : World} {n : Nat} {x : Int} (hx : x = (n : Nat)) (hn : n < 18446744073709551616) : CallsR Try.prog 20 #[.int .u64 x] w (fun r w' => OwV tU8 nU8 w' w.heap.size NoK r (wNum n) ∧ (∃ q c, r = .slice (some q) (wNum n).length c) ∧ Ext w w') := by
  subst hx
  have hl := wNum_len10 hn
  have hp := wNum_pos n
  obtain ⟨w0, rfl⟩ : ∃ x, x = w := ⟨w, rfl⟩
  refine enter 36 Try.func20 rfl rfl (by simp) ?_
  refine c_seq ?_
  refine wp_reg (by decide +kernel) ?_
  refine l_v (v_assign rfl) ?_
  refine l_nil ?_
  refine n_then ?_
  refine c_seq ?_
  refine wp_reg (by decide +kernel) ?_
  refine l_v (v_move (t := .int _ _) rfl) ?_
  refine l_to (to_f1 (by kernel_rfl) (show _ = (Value.int _ _) from rfl) (CallsR.mono (digits_c hn) ?_))
  rintro _ w1 ⟨rfl, e1⟩
  have zs_e1 := e1.size
  refine l_to (to_make (et := 5) (bytes := 1) (by kernel_rfl) (t := tU8) (z := 0) (n := (wNum n).length) (m := (wNum n).length) (zv := .int .u8 0) rfl rfl (.inl rfl) (by omega) (by simp only [maxLen]; omega) (by unfold kZero; kernel_rfl) rfl rfl (fun _ _ => rfl) ?_)
  rintro b2 c2 w2 rfl o2 e2 z2
  have zs_e2 := e2.size
  refine l_v (v_assign (t := .slice _ _ _) rfl) ?_
  refine l_nil ?_
  refine n_then ?_
  refine c_seq ?_
  refine c_seq ?_
  refine wp_reg (by decide +kernel) ?_
  refine l_v (v_assign rfl) ?_
  refine l_nil ?_
  refine n_then ?_
  refine wp_block ?_
  refine c_loop (τ := Nat × Nat × List UInt8) [0, 4, 8, 9, 10, 11, 12, 13, 14, 15, 16, 17, 18, 19, 20, 21, 22, 23, 24, 25, 26, 27, 28, 29, 30, 31, 32, 33, 34] (fun (n', i, xs) => [(0, .int .u64 n'), (4, .int .i64 i)]) (fun (n', i, xs) w => OwV tU8 nU8 w w1.heap.size NoK (.slice (some ⟨w1.heap.size, 0, none⟩) (wNum n).length c2) xs ∧ Ext w1 w ∧ n' < 18446744073709551616 ∧ i ≤ (wNum n).length ∧ xs.length = (wNum n).length ∧ xs.take i = (wNum n).take i ∧ (i < (wNum n).length → (wNum n).drop i = wNum n')) (fun (n', i, xs) => (wNum n).length - i) (n, 0, List.replicate (wNum n).length 0) (by exact ⟨rfl, rfl, trivial⟩) (by exact ⟨o2, e2, hn, Nat.zero_le _, by simp, by simp, by simp⟩) ?_
  rintro ⟨n', i, xs⟩ w3 j ⟨o3, e3, h1, h2, h3, h4, h5⟩
  refine c_seq ?_
  refine c_seq ?_
  refine wp_reg (by decide +kernel) ?_
  refine l_v (v_move (t := .int _ _) rfl) ?_
  refine l_v (v_move (t := .slice _ _ _) rfl) ?_
  refine l_v (v_len (et := 5) (by kernel_rfl) rfl) ?_
  refine l_v (v_lss rfl rfl) ?_
  refine l_nil ?_
  refine n_then ?_
  refine c_cond rfl rfl (fun hc => ?_) (fun hc => ?_)
  · skip
    have hc := dtrue hc
    have hz3 := e3.size
    have h6 := h5 (by omega)
    have hlen := congrArg List.length h6
    rw [List.length_drop] at hlen
    obtain ⟨x, hx⟩ : ∃ x, xs[i]? = some x := ⟨xs[i]'(by omega), by simp [show i < xs.length by omega]⟩
    refine wp_skip ?_
    refine n_then ?_
    refine c_seq ?_
    refine wp_block ?_
    refine c_seq ?_
    refine wp_reg (by decide +kernel) ?_
    refine l_v (v_move (t := .slice _ _ _) rfl) ?_
    refine l_v (v_move (t := .int _ _) rfl) ?_
    refine l_v (v_move (t := .int _ _) rfl) ?_
    refine l_v (v_rem rfl rfl (by decide) (by first | exact tm_nn (by omega) | rfl)) ?_
    refine l_v (v_conv (ds := .int .u64) (by kernel_rfl) (by kernel_rfl) rfl (by first | exact wr_u8 (by omega) (by omega) | rfl)) ?_
    refine l_v (v_indexAddr (et := 5) (sz := 1) (k := i) (by kernel_rfl) (by kernel_rfl) rfl rfl rfl (by omega)) ?_
    refine l_to (to_storeO (k := i) (off := 0) rfl (by simp [add_lit, tU8]) (by decide) (show _ = (Value.int _ _) from rfl) rfl (by kernel_rfl) o3 (x1 := UInt8.ofNat (n' % 128)) hx (fun cs h => by cases h; exact congrArg (fun y => [Value.int .u8 y]) (by rw [u8n (by omega)]; omega)) ?_)
    rintro w4 o4 k4 z4
    have zs_k4 := k4.size
    have e4 : Ext w1 w4 := e3.step k4 (fun b hb h => by omega)
    have hx4 : (xs.set i (UInt8.ofNat (n' % 128)))[i]? = some (UInt8.ofNat (n' % 128)) := by rw [List.getElem?_set_self (by omega)]
    refine l_nil ?_
    refine n_then ?_
    refine c_seq ?_
    refine c_seq ?_
    refine wp_reg (by decide +kernel) ?_
    refine l_v (v_move (t := .int _ _) rfl) ?_
    refine l_v (v_move (t := .slice _ _ _) rfl) ?_
    refine l_v (v_len (et := 5) (by kernel_rfl) rfl) ?_
    refine l_v (v_sub rfl rfl (by first | exact wr_i64 (by omega) (by omega) | rfl)) ?_
    refine l_v (v_lss rfl rfl) ?_
    refine l_nil ?_
    refine n_then ?_
    refine c_cond rfl rfl (fun hd => ?_) (fun hd => ?_)
    · skip
      have hd := dtrue hd
      have hge : 128 ≤ n' := by
        rcases Nat.lt_or_ge n' 128 with h | h
        · rw [wNum_lt h] at hlen; simp at hlen; omega
        · exact h
      have hw := wNum_ge hge
      have hmod : (UInt8.ofNat (n' % 128)).toNat = n' % 128 := u8n (by omega)
      refine wp_reg (by decide +kernel) ?_
      refine l_v (v_move (t := .slice _ _ _) rfl) ?_
      refine l_v (v_move (t := .int _ _) rfl) ?_
      refine l_v (v_move (t := .slice _ _ _) rfl) ?_
      refine l_v (v_move (t := .int _ _) rfl) ?_
      refine l_v (v_indexAddr (et := 5) (sz := 1) (k := i) (by kernel_rfl) (by kernel_rfl) rfl rfl rfl (by omega)) ?_
      refine l_v (v_load (by kernel_rfl) rfl (o4.cell1 hx4)) ?_
      refine l_v (v_add rfl rfl (by first | exact wr_u8 (by omega) (by omega) | rfl)) ?_
      refine l_v (v_indexAddr (et := 5) (sz := 1) (k := i) (by kernel_rfl) (by kernel_rfl) rfl rfl rfl (by omega)) ?_
      refine l_to (to_storeO (k := i) (off := 0) rfl (by simp [add_lit, tU8]) (by decide) (show _ = (Value.int _ _) from rfl) rfl (by kernel_rfl) o4 (x1 := UInt8.ofNat (128 + n' % 128)) hx4 (fun cs h => by cases h; exact congrArg (fun y => [Value.int .u8 y]) (by rw [u8n (m := 128 + n' % 128) (by omega)]; omega)) ?_)
      rintro w5 o5 k5 z5
      have zs_k5 := k5.size
      have e5 : Ext w1 w5 := e4.step k5 (fun b hb h => by omega)
      refine l_nil ?_
      refine n_then ?_
      refine wp_reg (by decide +kernel) ?_
      refine l_v (v_move (t := .int _ _) rfl) ?_
      refine l_v (v_quo rfl rfl (by decide) (by first | exact qu_u64 (by omega) (by omega) (by decide) | rfl)) ?_
      refine l_v (v_assign (t := .int _ _) rfl) ?_
      refine l_nil ?_
      refine n_blk ?_
      refine n_then ?_
      refine wp_reg (by decide +kernel) ?_
      refine l_v (v_move (t := .int _ _) rfl) ?_
      refine l_v (v_add rfl rfl (by first | exact wr_i64 (by omega) (by omega) | rfl)) ?_
      refine l_v (v_assign (t := .int _ _) rfl) ?_
      refine l_nil ?_
      refine n_then ?_
      refine ⟨(n' / 128, i + 1, (xs.set i (UInt8.ofNat (n' % 128))).set i (UInt8.ofNat (128 + n' % 128))), _, rfl, by (repeat (first | exact Off.of_over _ _ _ | refine Off.upd ?_ (by decide) _)), ⟨by first | rfl | exact congrArg (Value.int _) (by omega) | (simp; done), by first | rfl | exact congrArg (Value.int _) (by omega) | (simp; done), trivial⟩, ?_, ?_⟩
      · refine ⟨o5, e5, by omega, by omega, by simp [h3], ?_, fun h => ?_⟩
        · rw [List.set_set, List.take_add_one, List.take_add_one, List.take_set_of_le (by omega), h4, List.getElem?_set_self (by omega)]
          congr 1
          have : (wNum n)[i]? = some (UInt8.ofNat (128 + n' % 128)) := by
            have h7 := List.getElem?_drop (xs := wNum n) (i := i) (j := 0)
            rw [h6, hw] at h7
            simpa using h7.symm
          rw [this]
        · have h7 := List.drop_drop (i := 1) (j := i) (l := wNum n)
          rw [h6, hw] at h7
          rw [← h7]; rfl
      · dsimp only; omega
    · skip
      have hd := dfalse hd
      have hlt : n' < 128 := by
        rcases Nat.lt_or_ge n' 128 with h | h
        · exact h
        · rw [wNum_ge h] at hlen; have := wNum_pos (n' / 128); simp at hlen; omega
      refine wp_skip ?_
      refine n_then ?_
      refine wp_reg (by decide +kernel) ?_
      refine l_v (v_move (t := .int _ _) rfl) ?_
      refine l_v (v_quo rfl rfl (by decide) (by first | exact qu_u64 (by omega) (by omega) (by decide) | rfl)) ?_
      refine l_v (v_assign (t := .int _ _) rfl) ?_
      refine l_nil ?_
      refine n_blk ?_
      refine n_then ?_
      refine wp_reg (by decide +kernel) ?_
      refine l_v (v_move (t := .int _ _) rfl) ?_
      refine l_v (v_add rfl rfl (by first | exact wr_i64 (by omega) (by omega) | rfl)) ?_
      refine l_v (v_assign (t := .int _ _) rfl) ?_
      refine l_nil ?_
      refine n_then ?_
      refine ⟨(n' / 128, i + 1, xs.set i (UInt8.ofNat (n' % 128))), _, rfl, by (repeat (first | exact Off.of_over _ _ _ | refine Off.upd ?_ (by decide) _)), ⟨by first | rfl | exact congrArg (Value.int _) (by omega) | (simp; done), by first | rfl | exact congrArg (Value.int _) (by omega) | (simp; done), trivial⟩, ?_, ?_⟩
      · refine ⟨o4, e4, by omega, by omega, by simp [h3], ?_, fun h => by omega⟩
        rw [List.take_add_one, List.take_add_one, List.take_set_of_le (by omega), h4, List.getElem?_set_self (by omega)]
        congr 1
        have : (wNum n)[i]? = some (UInt8.ofNat n') := by
          have h7 := List.getElem?_drop (xs := wNum n) (i := i) (j := 0)
          rw [h6, wNum_lt hlt] at h7
          simpa using h7.symm
        rw [this, Nat.mod_eq_of_lt hlt]
      · dsimp only; omega
  · skip
    refine wp_exit ?_
    refine x_then ?_
    refine x_then ?_
    refine x_hit ?_
    refine n_then ?_
    refine c_seq ?_
    refine wp_reg (by decide +kernel) ?_
    refine l_v (v_move (t := .slice _ _ _) rfl) ?_
    refine l_v (v_assign (t := .slice _ _ _) rfl) ?_
    refine l_nil ?_
    refine n_then ?_
    refine wp_ret ?_
    refine ret1 rfl (by decide) ?_
    have hc := dfalse hc
    have hi : i = (wNum n).length := by omega
    have hxs : xs = wNum n := by
      rw [hi, ← h3, List.take_length] at h4
      rw [h4, h3, List.take_length]
    rw [hxs] at o3
    exact ⟨o3.base (by omega), ⟨_, _, rfl⟩, e1.trans e3⟩

theorem refSigned_c {w : World} {n : Int} (h1 : -9223372036854775808 ≤ n) (h2 : n ≤ 9223372036854775807) : CallsR Try.prog 13 #[.int .i64 n] w (fun r w' => OwV tU8 nU8 w' w.heap.size NoK r (wNum (zig n)) ∧ (∃ q c, r = .slice (some q) (wNum (zig n)).length c) ∧ Ext w w') := by
  have hz := zig_lt h1 h2
  refine enter 15 Try.func13 rfl rfl (by simp) ?_
  refine c_seq ?_
  refine wp_reg (by decide +kernel) ?_
  refine l_v (v_assign rfl) ?_
  refine l_nil ?_
  refine n_then ?_
  refine c_seq ?_
  refine c_seq ?_
  refine wp_reg (by decide +kernel) ?_
  refine l_v (v_move (t := .int _ _) rfl) ?_
  refine l_v (v_geq rfl rfl) ?_
  refine l_nil ?_
  refine n_then ?_
  refine c_cond rfl rfl (fun hc => ?_) (fun hc => ?_)
  · skip
    have hc := dtrue hc
    have hzn := zig_nn hc
    refine c_seq ?_
    refine wp_reg (by decide +kernel) ?_
    refine l_v (v_move (t := .int _ _) rfl) ?_
    refine l_v (v_conv (ds := .int .i64) (by kernel_rfl) (by kernel_rfl) rfl (by first | exact wr_u64 (by omega) (by omega) | rfl)) ?_
    refine l_v (v_mul rfl rfl (by first | exact wr_u64 (by omega) (by omega) | rfl)) ?_
    refine l_to (to_f1 (by kernel_rfl) (show _ = (Value.int _ _) from rfl) (CallsR.mono (refNumber_c (n := zig n) (by omega) hz) ?_))
    rintro _ w1 ⟨o1, ⟨q, c, rfl⟩, e1⟩
    have zs_e1 := e1.size
    refine l_v (v_assign (t := .slice _ _ _) rfl) ?_
    refine l_nil ?_
    refine n_then ?_
    refine wp_ret ?_
    refine r_then ?_
    refine ret1 rfl (by decide) ?_
    exact ⟨o1, ⟨q, c, rfl⟩, e1⟩
  · skip
    have hc := dfalse hc
    have hzn := zig_neg (n := n) (by omega)
    refine wp_skip ?_
    refine n_then ?_
    refine c_seq ?_
    refine wp_reg (by decide +kernel) ?_
    refine l_v (v_move (t := .int _ _) rfl) ?_
    refine l_v (v_sub rfl rfl (by first | exact wr_i64 (by omega) (by omega) | rfl)) ?_
    refine l_v (v_conv (ds := .int .i64) (by kernel_rfl) (by kernel_rfl) rfl (by first | exact wr_u64 (by omega) (by omega) | rfl)) ?_
    refine l_v (v_mul rfl rfl (by first | exact wr_u64 (by omega) (by omega) | rfl)) ?_
    refine l_v (v_add rfl rfl (by first | exact wr_u64 (by omega) (by omega) | rfl)) ?_
    refine l_to (to_f1 (by kernel_rfl) (show _ = (Value.int _ _) from rfl) (CallsR.mono (refNumber_c (n := zig n) (by omega) hz) ?_))
    rintro _ w1 ⟨o1, ⟨q, c, rfl⟩, e1⟩
    have zs_e1 := e1.size
    refine l_v (v_assign (t := .slice _ _ _) rfl) ?_
    refine l_nil ?_
    refine n_then ?_
    refine wp_ret ?_
    refine ret1 rfl (by decide) ?_
    exact ⟨o1, ⟨q, c, rfl⟩, e1⟩
end Go.Proofs.Ythnpnniiejcnbaa
