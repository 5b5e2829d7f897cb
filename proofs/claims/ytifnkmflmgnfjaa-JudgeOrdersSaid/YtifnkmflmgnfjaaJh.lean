/- A part of the proof: steps and lemmas for the walks through the given program. -/
import Derived.Test.YtifnkmflmgnfjaaJg
import Derived.Test.YtifnkmflmgnfjaaGd
namespace Go.Proofs.Ytifnkmflmgnfjaa
open Go.Vc
set_option linter.unusedVariables false
set_option linter.unusedSimpArgs false
set_option maxRecDepth 100000

theorem own_ne {α : Type} {t : Ty α} {e T : TypeId} {w : World} {B b k : Nat} {F : Nat → Prop} {v : Value} {xs : List α} {cs : List Value} (h : OwV t e w B F v xs) (hb : Blk w b cs T) (hne : e ≠ T) (hk : v.ownBlock = some k) : k ≠ b := by
  obtain ⟨a, c, rfl⟩ := h.shape
  cases a with
  | none => cases hk
  | some q =>
    have h2 := OwV.ne_blk h hb hne
    obtain rfl : q.block = k := Option.some.inj hk
    exact h2
theorem mTx_snoc {m : MapV} {i : Nat} {p : PrV} (hx : m[i]? = some p) : mTx (m.take (i + 1)) = mTx (m.take i) ++ prTx p := by
  rw [List.take_add_one, hx]; simp [mTx]
theorem mTx_len : ∀ {m : MapV}, (∀ p ∈ m, okP p = true) → (mTx m).length ≤ 66 * m.length
  | [], _ => by simp [mTx]
  | p :: m, h => by
    have h1 := okP_len (h p (by simp))
    have h2 := mTx_len (m := m) (fun q hq => h q (by simp [hq]))
    unfold mTx at h2 ⊢
    rw [List.flatMap_cons, List.length_append]
    simp only [prTx, List.length_cons, List.length_append]
    omega
theorem state_c {w : World} {F : Nat → Prop} {v : Value} {m : MapV} {d : List Bool} (HSm : SlV tPr w F v m) (hok : ∀ p ∈ m, okP p = true) (hn : m.length ≤ 100000) : CallsR Try.prog 72 #[.int .u64 (bitN d : Nat), v] w (fun o w' => o = .string ⟨(keyS d m).toArray⟩ ∧ Ext w w') := by
 obtain ⟨am, cm, rfl⟩ := HSm.shape
 have hmx := HSm.len_max
 have hlt' : ∀ i, (mTx (m.take i)).length ≤ 66 * m.length := fun i => by
  have h1 := mTx_len (m := m.take i) (fun p hp => hok p (List.mem_of_mem_take hp))
  have h2 : (m.take i).length ≤ m.length := by rw [List.length_take]; omega
  omega
 have hb4 := b4_len (bitN d)
 refine enter 49 Try.func72 rfl rfl (by simp) ?_
 refine c_seq ?_
 have E := Keep.refl (K := NoK) w
 replace HSm := HSm.all
 obtain ⟨n1, hn1⟩ : ∃ n, n = w.heap.size := ⟨_, rfl⟩
 refine wp_reg zd (l_v (v_assign rfl) (l_nil (n_then (c_seq (wp_reg zd (l_v (zmI rfl) (l_v (v_shr (t := ((bitN d / 2 ^ 24 : Nat) : Int)) rfl rfl (by first | decide | omega) (shr64 _ 24 zo)) ?_)))))))
 refine l_v (v_conv (t := (((UInt8.ofNat (bitN d / 16777216)).toNat : Nat) : Int)) (ds := .int .u64) zk zk rfl (byteN _)) ?_
 refine l_v (zmI rfl) (l_v (v_shr (t := ((bitN d / 2 ^ 16 : Nat) : Int)) rfl rfl (by first | decide | omega) (shr64 _ 16 zo)) ?_)
 refine l_v (v_conv (t := (((UInt8.ofNat (bitN d / 65536)).toNat : Nat) : Int)) (ds := .int .u64) zk zk rfl (byteN _)) ?_
 refine l_v (zmI rfl) (l_v (v_shr (t := ((bitN d / 2 ^ 8 : Nat) : Int)) rfl rfl (by first | decide | omega) (shr64 _ 8 zo)) ?_)
 refine l_v (v_conv (t := (((UInt8.ofNat (bitN d / 256)).toNat : Nat) : Int)) (ds := .int .u64) zk zk rfl (byteN _)) ?_
 refine l_v (zmI rfl) (l_v (v_conv (t := (((UInt8.ofNat (bitN d)).toNat : Nat) : Int)) (ds := .int .u64) zk zk rfl (byteN _)) ?_)
 refine l_to (to_sliceN (t := tU8) (xs := b4 (bitN d)) (et := 5) (bytes := 1) (zl := [.int .u8 0, .int .u8 0, .int .u8 0, .int .u8 0]) zk zq zq (by unfold kZeros; kernel_rfl) rfl (cells := [_, _, _, _]) rfl rfl rfl ((reps_u8 (F := NoK) rfl)) ?_)
 rintro b5 w5 zb5 HO5 e5 z5
 have := e5.size
 have zo_HO5 := fun (b : Nat) h => HO5.own_lt (b := b) h
 refine l_v (zaS rfl) (l_nil (n_then (c_seq (c_seq (wp_reg zd (l_v (zmS rfl) (l_v (v_len (et := 50) zk rfl) ?_)))))))
 replace E := E.trans e5.keep
 refine l_v (v_move rfl) (l_nil (n_then (c_block (c_loop (τ := Nat × Option Addr × Nat) [5, 7, 22, 23, 24, 25, 26, 27, 28, 29, 30, 31, 32, 33, 34, 35, 36, 37, 38, 39, 40, 41, 42, 43, 44, 45, 46] (fun (i, a, c) => [(5, .slice a (b4 (bitN d) ++ mTx (m.take i)).length c), (22, .int .i64 i)]) (fun (i, a, c) W => Ext w W ∧ Keep (fun b => n1 ≤ b) w5 W ∧ i ≤ m.length ∧ OwV tU8 5 W n1 NoK (.slice a (b4 (bitN d) ++ mTx (m.take i)).length c) (b4 (bitN d) ++ mTx (m.take i))) (fun (i, a, c) => m.length - i) (0, _, _) (by exact ⟨rfl, rfl, trivial⟩) (by exact ⟨E, Keep.refl _, Nat.zero_le _, by simpa [mTx, b4_len] using (HO5.base zo).mono (F' := NoK) (fun b _ h => h.1)⟩) ?_))))
 rintro ⟨i, a, c⟩ w101 j ⟨E, EL1, h1, HOx⟩
 have := EL1.size
 have zo_HOx := fun (b : Nat) h => HOx.own_lt (b := b) h
 refine c_seq (wp_reg zd (l_v (v_lss rfl rfl) ?_))
 replace HSm := (HSm.ext e5).keep EL1 dj1
 refine l_nil (n_then (c_seq (c_cond rfl rfl (fun hlt => ?_) (fun hlt => ?_))))
 ·
  have hlt := dtrue hlt
  have hlm := hlt' i
  have hla : (b4 (bitN d) ++ mTx (m.take i)).length ≤ 4 + 66 * m.length := by rw [List.length_append]; omega
  obtain ⟨p, hx, _⟩ := getE (l := m) (i := i) zo
  have hpl := okP_len (hok p (List.mem_of_getElem? hx))
  obtain ⟨q, cs, hqq, hF, _, HPq, hr⟩ := HSm.el hx
  subst hqq
  obtain ⟨a1, c1, a2, c2, rfl, HSk, HSv⟩ := tPr_cells hr
  refine c_skip (n_then (c_seq (c_block (c_seq (wp_reg zd (l_v (v_indexAddr (et := 50) (sz := 2) (k := i) zk zk rfl rfl (by first | rfl | omega) zo) ?_))))))
  refine l_v (v_loadA zk rfl (by first | exact HPq | assumption) rfl) ?_
  refine l_to (to_alloc (z := (.agg #[.slice none 0 0, .slice none 0 0])) (by unfold kZero; kernel_rfl) ?_)
  rintro b9 w9 zb9 HB9 e9 z9
  have := e9.size
  try simp only [Value.cells] at HB9
  replace HOx := HOx.ext e9
  have hne9 := fun (k : Nat) hk => own_ne (k := k) HOx HB9 zq hk
  refine l_to (to_storeA (n := 2) rfl rfl (zvA rfl) zk rfl dj6 HB9 dj5 ?_)
  rintro w102 HX102 k102 z102
  have := k102.size
  replace HB9 := HX102
  clear HX102
  try simp only [zS, Nat.zero_add, Nat.reduceAdd, List.drop_nil] at HB9
  refine l_nil (n_then (c_seq (wp_any zk ?_)))
  have e103 : Ext w102 { w102 with drawn := w102.drawn + 1 } := Keep.drawn _ _
  replace E := (E.trans e9.keep).step k102 (by intro i hi he; have he0 := he; (try dsimp only [NoK] at hi he ⊢); (try simp only [Value.ownBlock, Option.some.injEq] at he); first | exact he.elim | omega | exact he | (first | (rcases he with he | he; exact absurd rfl (hne9 _ he); omega) | exact absurd rfl (hne9 _ he)))
  replace HSm := (HSm.ext e9).keep k102 (by intro i _ hi he; have he0 := he; (try dsimp only [NoK, AllB] at hi he); (try simp only [Value.ownBlock, Option.some.injEq] at he); first | exact hi.elim | exact he.elim | omega | (rcases hi with hi | hi <;> omega) | (rcases he with he | he <;> omega) | (first | (rcases he with he | he; exact absurd rfl (hne9 _ he); omega) | exact absurd rfl (hne9 _ he)))
  replace EL1 := (EL1.trans e9.keep).step k102 (by intro i hi he; have he0 := he; (try dsimp only [NoK] at hi he ⊢); (try simp only [Value.ownBlock, Option.some.injEq] at he); first | exact he.elim | omega | exact he | (first | (rcases he with he | he; exact absurd rfl (hne9 _ he); omega) | exact absurd rfl (hne9 _ he)))
  replace HSk := (HSk.ext e9).keep k102 (by intro i _ hi he; have he0 := he; (try dsimp only [NoK, AllB] at hi he); (try simp only [Value.ownBlock, Option.some.injEq] at he); first | exact hi.elim | exact he.elim | omega | (rcases hi with hi | hi <;> omega) | (rcases he with he | he <;> omega) | (first | (rcases he with he | he; exact absurd rfl (hne9 _ he); omega) | exact absurd rfl (hne9 _ he)))
  replace HSv := (HSv.ext e9).keep k102 (by intro i _ hi he; have he0 := he; (try dsimp only [NoK, AllB] at hi he); (try simp only [Value.ownBlock, Option.some.injEq] at he); first | exact hi.elim | exact he.elim | omega | (rcases hi with hi | hi <;> omega) | (rcases he with he | he <;> omega) | (first | (rcases he with he | he; exact absurd rfl (hne9 _ he); omega) | exact absurd rfl (hne9 _ he)))
  replace HOx := HOx.keep k102 (by intro i ho he; have he0 := he; have ho0 := ho; (try dsimp only [NoK] at he); (try simp only [Value.ownBlock, Option.some.injEq, reduceCtorEq] at ho); (try simp only [Value.ownBlock, Option.some.injEq, reduceCtorEq] at he); first | exact he.elim | exact ho.elim | omega | (have := zo_HOx _ ho0; omega) | (first | (rcases he with he | he; exact absurd rfl (hne9 _ he); omega) | exact absurd rfl (hne9 _ he))) (by intro i _ hi _ he; have he0 := he; have hi := hi; have he := he; (try dsimp only [NoK, AllB] at hi he); (try simp only [Value.ownBlock, Option.some.injEq, reduceCtorEq] at he); all_goals first | exact hi.elim | exact hi.1.elim | exact he.elim | omega | (rcases hi with hi | hi <;> omega) | (rcases he with he | he <;> omega) | (first | (rcases he with he | he; exact absurd rfl (hne9 _ he); omega) | exact absurd rfl (hne9 _ he)))
  generalize hw103 : ({ w102 with drawn := w102.drawn + 1 } : World) = w103 at e103 ⊢
  clear hw103
  have := e103.size
  refine r_cut 9 rfl zd zd zd ?_
  replace HOx := HOx.ext e103
  refine wp_regJW (fun k => (.slice a (b4 (bitN d) ++ mTx (m.take i)).length c : Value).ownBlock = some k ∨ w103.heap.size ≤ k) (EqJ [] (ChainJ (tU8) (5) w103.heap.size (n1) (NoK) (AllB) (.slice a (b4 (bitN d) ++ mTx (m.take i)).length c : Value) (b4 (bitN d) ++ mTx (m.take i)) [6] [some 5] [[UInt8.ofNat p.1.length]])) zd zd (fun vals done hd => EqJ.start (ChainJ.start (HOx) (zo) (Nat.le_refl _) (fun i hi => hd i (dOf_lt zq hi))) (fun k j hq => hd k (dQ_lt zq k j hq))) ?_
  refine rj_v (EqJ.on ChainJ.on) zq (fun done vals w hR hJ hdn hd => zmS rfl) ?_
  refine rj_v (EqJ.on ChainJ.on) zq (fun done vals w hR hJ hdn hd => v_fieldAddr (off := 0) (ft := 26) zk rfl) ?_
  replace HB9 := HB9.ext e103
  refine rj_v (EqJ.on ChainJ.on) zq (fun done vals w hR hJ hdn hd => v_load zk (hd 1 rfl) (by first | exact (HB9.keep hR (by intro h; have he0 := h; (try dsimp only at h); (try simp only [Value.ownBlock, Option.some.injEq] at h); first | omega | (have := (HOx).own_lt he0; omega) | (have := zo_HOx _ he0; omega) | (rcases he0 with he0 | he0; (have := (HOx).own_lt he0; omega); omega) | (have he := he0; first | (rcases he with he | he; exact absurd rfl (hne9 _ he); omega) | exact absurd rfl (hne9 _ he)))).pv 0 _ rfl | assumption)) ?_
  refine rj_v (EqJ.on ChainJ.on) zq (fun done vals w hR hJ hdn hd => v_len (et := 5) zk (hd 2 rfl)) ?_
  refine rj_v (EqJ.on ChainJ.on) zq (fun done vals w hR hJ hdn hd => v_conv (t := (((UInt8.ofNat p.1.length).toNat : Nat) : Int)) (ds := .int .i64) zk zk (hd 3 rfl) (byteN _)) ?_
  replace HPq := HPq.ext e9
  replace E := E.trans e103.keep
  replace HSm := HSm.ext e103
  replace EL1 := EL1.trans e103.keep
  replace HSk := HSk.ext e103
  replace HSv := HSv.ext e103
  refine rj_d (fun done vals w hR hcl hdk hJ hdn hd => by
    have := hR.size
    exact to_slice1 (t := tU8) (et := 5) (bytes := 1) zk zq (hd 4 rfl) ((rep_u8 (F := NoK) (UInt8.ofNat p.1.length) rfl)) (fun b w1 hb HO e z => ⟨Ext.keep e, hJ.step hdk zq (hJ.1.prodO (n := 0) e rfl rfl (once_ps zq) zq (HO.view.mono fun b' hb' hF => by rcases hF with hF | hF; exact ⟨by first | trivial | omega | (dsimp only; omega), .inl zo⟩; (have h5 := hF.1; (try dsimp only at h5); first | exact h5.elim | exact ⟨by first | trivial | omega | (dsimp only; omega), .inr ⟨by omega, by simp [Value.ownBlock]⟩⟩)))⟩)) ?_
  refine rj_d (fun done vals w hR hcl hdk hJ hdn hd => by
    have := hR.size
    obtain ⟨hacc, hown, hsrc⟩ := hJ.1.at (n := 0) rfl hdk (fun m h => by cases h)
    exact to_append (et := 5) (bytes := 1) zk (hd 0 rfl) hacc rfl (hsrc _ _ rfl rfl (hdn 5 rfl)) flat_u8.to (by (simp; omega)) (by simp only [maxLen]; (simp; omega)) zo (fun a n cc w1 o hn kk ho _ => ⟨kk.mono (fun b _ h => hown b h), hJ.step hdk zq (hJ.1.app (n := 0) rfl hdk (fun m h => by cases h) rfl (once_as zq) (ps_ne zq) o kk ho)⟩)) ?_
  refine rj_v (EqJ.on ChainJ.on) zq (fun done vals w hR hJ hdn hd => v_fieldAddr (off := 0) (ft := 26) zk rfl) ?_
  refine rj_v (EqJ.on ChainJ.on) zq (fun done vals w hR hJ hdn hd => v_load zk (hd 7 rfl) (by first | exact (HB9.keep hR (by intro h; have he0 := h; (try dsimp only at h); (try simp only [Value.ownBlock, Option.some.injEq] at h); first | omega | (have := (HOx).own_lt he0; omega) | (have := zo_HOx _ he0; omega) | (rcases he0 with he0 | he0; (have := (HOx).own_lt he0; omega); omega) | (have he := he0; first | (rcases he with he | he; exact absurd rfl (hne9 _ he); omega) | exact absurd rfl (hne9 _ he)))).pv 0 _ rfl | assumption)) ?_
  refine rj_nil (fun vals w104 k104 J104 => ?_)
  rintro _ _ rfl _ _ rfl _ _ rfl _ _ rfl _ _ rfl _ rfl - v32 hv32 - _ _ rfl _ _ rfl
  have := k104.size
  have HO32 : OwV (tU8) (5) w104 (n1) (NoK) v32 (b4 (bitN d) ++ mTx (m.take i) ++ [UInt8.ofNat p.1.length]) := by
   have h := J104.1.fin (by exact Nat.le_refl _)
   have h2 : b4 (bitN d) ++ mTx (m.take i) ++ ([[UInt8.ofNat p.1.length]]).flatten = b4 (bitN d) ++ mTx (m.take i) ++ [UInt8.ofNat p.1.length] := by simp
   rw [h2] at h; rw [hv32]; exact h
  clear hv32
  obtain ⟨a32, c32, rfl⟩ := HO32.shape
  have zo_HO32 := fun (b : Nat) h => HO32.own_lt (b := b) h
  refine fin_nilJ (n_then (r_cut 1 rfl zd zd zd ?_))
  refine r_one zd rfl ?_
  replace HB9 := HB9.keep k104 (by intro h; have he0 := h; (try dsimp only at h); (try simp only [Value.ownBlock, Option.some.injEq] at h); first | omega | (have := (HOx).own_lt he0; omega) | (have := zo_HOx _ he0; omega) | (rcases he0 with he0 | he0; (have := (HOx).own_lt he0; omega); omega) | (have he := he0; first | (rcases he with he | he; exact absurd rfl (hne9 _ he); omega) | exact absurd rfl (hne9 _ he)))
  have hne8 := fun (k : Nat) hk => own_ne (k := k) HO32 HB9 zq hk
  replace HSk := HSk.keep k104 (by intro i _ hi he; have he0 := he; (try dsimp only [NoK, AllB] at hi he); (try simp only [Value.ownBlock, Option.some.injEq] at he); first | exact hi.elim | exact he.elim | omega | (rcases hi with hi | hi <;> omega) | (rcases he with he | he <;> omega) | (have := (HOx).own_lt he0; omega) | (have := zo_HOx _ he0; omega) | (have := (HOx).own_lt he0; rcases hi with hi | hi <;> omega) | (rcases he0 with he0 | he0; (have := (HOx).own_lt he0; omega); omega) | (first | (rcases he with he | he; exact absurd rfl (hne9 _ he); omega) | exact absurd rfl (hne9 _ he)))
  refine l_to (to_append (et := 5) (bytes := 1) zk (zvS rfl) HO32 (zvS rfl) HSk (flat_u8.to) (by first | omega | (simp; done) | (simp; omega)) (by simp only [maxLen]; first | omega | (simp; done) | (simp; omega)) zo ?_)
  rintro a40 n40 c40 w40 HO40 hn40 k40 h40 i40
  have := k40.size
  subst hn40
  have zo_HO40 := fun (b : Nat) h => HO40.own_lt (b := b) h
  refine l_nil (n_then (r_one zd rfl ?_))
  have hlb : (b4 (bitN d) ++ mTx (m.take i) ++ [UInt8.ofNat p.1.length] ++ p.1).length ≤ 4 + 66 * m.length + 25 := by rw [List.length_append, List.length_append, List.length_singleton]; omega
  replace HB9 := HB9.keep k40 (by intro h; have he0 := h; (try dsimp only at h); (try simp only [Value.ownBlock, Option.some.injEq] at h); first | omega | (have := (HO32).own_lt he0; omega) | (have := zo_HO32 _ he0; omega) | (have he := he0; first | (rcases he with he | he; exact absurd rfl (hne8 _ he); omega) | exact absurd rfl (hne8 _ he)))
  have hne7 := fun (k : Nat) hk => own_ne (k := k) HO40 HB9 zq hk
  refine l_v (zaS rfl) (l_nil (n_then (wp_any zk ?_)))
  have e105 : Ext w40 { w40 with drawn := w40.drawn + 1 } := Keep.drawn _ _
  replace E := (E.step k104 (by intro i hi he; have he0 := he; (try dsimp only [NoK] at hi he ⊢); (try simp only [Value.ownBlock, Option.some.injEq] at he); first | exact he.elim | omega | exact he | (have := (HOx).own_lt he0; omega) | (have := zo_HOx _ he0; omega) | (have := (HOx).own_lt he0; rcases hi with hi | hi <;> omega) | (rcases he0 with he0 | he0; (have := (HOx).own_lt he0; omega); omega) | (first | (rcases he with he | he; exact absurd rfl (hne9 _ he); omega) | exact absurd rfl (hne9 _ he)))).step k40 (by intro i hi he; have he0 := he; (try dsimp only [NoK] at hi he ⊢); (try simp only [Value.ownBlock, Option.some.injEq] at he); first | exact he.elim | omega | exact he | (have := (HO32).own_lt he0; omega) | (have := zo_HO32 _ he0; omega) | (have := (HO32).own_lt he0; rcases hi with hi | hi <;> omega) | (first | (rcases he with he | he; exact absurd rfl (hne8 _ he); omega) | exact absurd rfl (hne8 _ he)))
  replace HSm := (HSm.keep k104 (by intro i _ hi he; have he0 := he; (try dsimp only [NoK, AllB] at hi he); (try simp only [Value.ownBlock, Option.some.injEq] at he); first | exact hi.elim | exact he.elim | omega | (rcases hi with hi | hi <;> omega) | (rcases he with he | he <;> omega) | (have := (HOx).own_lt he0; omega) | (have := zo_HOx _ he0; omega) | (have := (HOx).own_lt he0; rcases hi with hi | hi <;> omega) | (rcases he0 with he0 | he0; (have := (HOx).own_lt he0; omega); omega) | (first | (rcases he with he | he; exact absurd rfl (hne9 _ he); omega) | exact absurd rfl (hne9 _ he)))).keep k40 (by intro i _ hi he; have he0 := he; (try dsimp only [NoK, AllB] at hi he); (try simp only [Value.ownBlock, Option.some.injEq] at he); first | exact hi.elim | exact he.elim | omega | (rcases hi with hi | hi <;> omega) | (rcases he with he | he <;> omega) | (have := (HO32).own_lt he0; omega) | (have := zo_HO32 _ he0; omega) | (have := (HO32).own_lt he0; rcases hi with hi | hi <;> omega) | (first | (rcases he with he | he; exact absurd rfl (hne8 _ he); omega) | exact absurd rfl (hne8 _ he)))
  replace EL1 := (EL1.step k104 (by intro i hi he; have he0 := he; (try dsimp only [NoK] at hi he ⊢); (try simp only [Value.ownBlock, Option.some.injEq] at he); first | exact he.elim | omega | exact he | (have := (HOx).own_lt he0; omega) | (have := zo_HOx _ he0; omega) | (have := (HOx).own_lt he0; rcases hi with hi | hi <;> omega) | (rcases he0 with he0 | he0; (have := (HOx).own_lt he0; omega); omega) | (first | (rcases he with he | he; exact absurd rfl (hne9 _ he); omega) | exact absurd rfl (hne9 _ he)))).step k40 (by intro i hi he; have he0 := he; (try dsimp only [NoK] at hi he ⊢); (try simp only [Value.ownBlock, Option.some.injEq] at he); first | exact he.elim | omega | exact he | (have := (HO32).own_lt he0; omega) | (have := zo_HO32 _ he0; omega) | (have := (HO32).own_lt he0; rcases hi with hi | hi <;> omega) | (first | (rcases he with he | he; exact absurd rfl (hne8 _ he); omega) | exact absurd rfl (hne8 _ he)))
  replace HSv := (HSv.keep k104 (by intro i _ hi he; have he0 := he; (try dsimp only [NoK, AllB] at hi he); (try simp only [Value.ownBlock, Option.some.injEq] at he); first | exact hi.elim | exact he.elim | omega | (rcases hi with hi | hi <;> omega) | (rcases he with he | he <;> omega) | (have := (HOx).own_lt he0; omega) | (have := zo_HOx _ he0; omega) | (have := (HOx).own_lt he0; rcases hi with hi | hi <;> omega) | (rcases he0 with he0 | he0; (have := (HOx).own_lt he0; omega); omega) | (first | (rcases he with he | he; exact absurd rfl (hne9 _ he); omega) | exact absurd rfl (hne9 _ he)))).keep k40 (by intro i _ hi he; have he0 := he; (try dsimp only [NoK, AllB] at hi he); (try simp only [Value.ownBlock, Option.some.injEq] at he); first | exact hi.elim | exact he.elim | omega | (rcases hi with hi | hi <;> omega) | (rcases he with he | he <;> omega) | (have := (HO32).own_lt he0; omega) | (have := zo_HO32 _ he0; omega) | (have := (HO32).own_lt he0; rcases hi with hi | hi <;> omega) | (first | (rcases he with he | he; exact absurd rfl (hne8 _ he); omega) | exact absurd rfl (hne8 _ he)))
  replace HSk := HSk.keep k40 (by intro i _ hi he; have he0 := he; (try dsimp only [NoK, AllB] at hi he); (try simp only [Value.ownBlock, Option.some.injEq] at he); first | exact hi.elim | exact he.elim | omega | (rcases hi with hi | hi <;> omega) | (rcases he with he | he <;> omega) | (have := (HO32).own_lt he0; omega) | (have := zo_HO32 _ he0; omega) | (have := (HO32).own_lt he0; rcases hi with hi | hi <;> omega) | (first | (rcases he with he | he; exact absurd rfl (hne8 _ he); omega) | exact absurd rfl (hne8 _ he)))
  generalize hw105 : ({ w40 with drawn := w40.drawn + 1 } : World) = w105 at e105 ⊢
  clear hw105
  have := e105.size
  refine r_cut 9 rfl zd zd zd ?_
  replace HO40 := HO40.ext e105
  refine wp_regJW (fun k => (.slice a40 (b4 (bitN d) ++ mTx (m.take i) ++ [UInt8.ofNat p.1.length] ++ p.1).length c40 : Value).ownBlock = some k ∨ w105.heap.size ≤ k) (EqJ [] (ChainJ (tU8) (5) w105.heap.size (n1) (NoK) (AllB) (.slice a40 (b4 (bitN d) ++ mTx (m.take i) ++ [UInt8.ofNat p.1.length] ++ p.1).length c40 : Value) (b4 (bitN d) ++ mTx (m.take i) ++ [UInt8.ofNat p.1.length] ++ p.1) [6] [some 5] [[UInt8.ofNat p.2.length]])) zd zd (fun vals done hd => EqJ.start (ChainJ.start (HO40) (zo) (Nat.le_refl _) (fun i hi => hd i (dOf_lt zq hi))) (fun k j hq => hd k (dQ_lt zq k j hq))) ?_
  refine rj_v (EqJ.on ChainJ.on) zq (fun done vals w hR hJ hdn hd => zmS rfl) ?_
  refine rj_v (EqJ.on ChainJ.on) zq (fun done vals w hR hJ hdn hd => v_fieldAddr (off := 1) (ft := 26) zk rfl) ?_
  replace HB9 := HB9.ext e105
  refine rj_v (EqJ.on ChainJ.on) zq (fun done vals w hR hJ hdn hd => v_load zk (hd 1 rfl) (by first | exact (HB9.keep hR (by intro h; have he0 := h; (try dsimp only at h); (try simp only [Value.ownBlock, Option.some.injEq] at h); first | omega | (have := (HO40).own_lt he0; omega) | (have := zo_HO40 _ he0; omega) | (rcases he0 with he0 | he0; (have := (HO40).own_lt he0; omega); omega) | (have he := he0; first | (rcases he with he | he; exact absurd rfl (hne7 _ he); omega) | exact absurd rfl (hne7 _ he)))).pv 1 _ rfl | assumption)) ?_
  refine rj_v (EqJ.on ChainJ.on) zq (fun done vals w hR hJ hdn hd => v_len (et := 5) zk (hd 2 rfl)) ?_
  refine rj_v (EqJ.on ChainJ.on) zq (fun done vals w hR hJ hdn hd => v_conv (t := (((UInt8.ofNat p.2.length).toNat : Nat) : Int)) (ds := .int .i64) zk zk (hd 3 rfl) (byteN _)) ?_
  replace E := E.trans e105.keep
  replace HSm := HSm.ext e105
  replace EL1 := EL1.trans e105.keep
  replace HSk := HSk.ext e105
  replace HSv := HSv.ext e105
  refine rj_d (fun done vals w hR hcl hdk hJ hdn hd => by
    have := hR.size
    exact to_slice1 (t := tU8) (et := 5) (bytes := 1) zk zq (hd 4 rfl) ((rep_u8 (F := NoK) (UInt8.ofNat p.2.length) rfl)) (fun b w1 hb HO e z => ⟨Ext.keep e, hJ.step hdk zq (hJ.1.prodO (n := 0) e rfl rfl (once_ps zq) zq (HO.view.mono fun b' hb' hF => by rcases hF with hF | hF; exact ⟨by first | trivial | omega | (dsimp only; omega), .inl zo⟩; (have h5 := hF.1; (try dsimp only at h5); first | exact h5.elim | exact ⟨by first | trivial | omega | (dsimp only; omega), .inr ⟨by omega, by simp [Value.ownBlock]⟩⟩)))⟩)) ?_
  refine rj_d (fun done vals w hR hcl hdk hJ hdn hd => by
    have := hR.size
    obtain ⟨hacc, hown, hsrc⟩ := hJ.1.at (n := 0) rfl hdk (fun m h => by cases h)
    exact to_append (et := 5) (bytes := 1) zk (hd 0 rfl) hacc rfl (hsrc _ _ rfl rfl (hdn 5 rfl)) flat_u8.to (by (simp; omega)) (by simp only [maxLen]; (simp; omega)) zo (fun a n cc w1 o hn kk ho _ => ⟨kk.mono (fun b _ h => hown b h), hJ.step hdk zq (hJ.1.app (n := 0) rfl hdk (fun m h => by cases h) rfl (once_as zq) (ps_ne zq) o kk ho)⟩)) ?_
  refine rj_v (EqJ.on ChainJ.on) zq (fun done vals w hR hJ hdn hd => v_fieldAddr (off := 1) (ft := 26) zk rfl) ?_
  refine rj_v (EqJ.on ChainJ.on) zq (fun done vals w hR hJ hdn hd => v_load zk (hd 7 rfl) (by first | exact (HB9.keep hR (by intro h; have he0 := h; (try dsimp only at h); (try simp only [Value.ownBlock, Option.some.injEq] at h); first | omega | (have := (HO40).own_lt he0; omega) | (have := zo_HO40 _ he0; omega) | (rcases he0 with he0 | he0; (have := (HO40).own_lt he0; omega); omega) | (have he := he0; first | (rcases he with he | he; exact absurd rfl (hne7 _ he); omega) | exact absurd rfl (hne7 _ he)))).pv 1 _ rfl | assumption)) ?_
  refine rj_nil (fun vals w106 k106 J106 => ?_)
  rintro _ _ rfl _ _ rfl _ _ rfl _ _ rfl _ _ rfl _ rfl - v42 hv42 - _ _ rfl _ _ rfl
  have := k106.size
  have HO42 : OwV (tU8) (5) w106 (n1) (NoK) v42 (b4 (bitN d) ++ mTx (m.take i) ++ [UInt8.ofNat p.1.length] ++ p.1 ++ [UInt8.ofNat p.2.length]) := by
   have h := J106.1.fin (by exact Nat.le_refl _)
   have h2 : b4 (bitN d) ++ mTx (m.take i) ++ [UInt8.ofNat p.1.length] ++ p.1 ++ ([[UInt8.ofNat p.2.length]]).flatten = b4 (bitN d) ++ mTx (m.take i) ++ [UInt8.ofNat p.1.length] ++ p.1 ++ [UInt8.ofNat p.2.length] := by simp
   rw [h2] at h; rw [hv42]; exact h
  clear hv42
  obtain ⟨a42, c42, rfl⟩ := HO42.shape
  have zo_HO42 := fun (b : Nat) h => HO42.own_lt (b := b) h
  refine fin_nilJ (n_then (r_cut 1 rfl zd zd zd ?_))
  refine r_one zd rfl ?_
  replace HB9 := HB9.keep k106 (by intro h; have he0 := h; (try dsimp only at h); (try simp only [Value.ownBlock, Option.some.injEq] at h); first | omega | (have := (HO40).own_lt he0; omega) | (have := zo_HO40 _ he0; omega) | (rcases he0 with he0 | he0; (have := (HO40).own_lt he0; omega); omega) | (have he := he0; first | (rcases he with he | he; exact absurd rfl (hne7 _ he); omega) | exact absurd rfl (hne7 _ he)))
  have hne6 := fun (k : Nat) hk => own_ne (k := k) HO42 HB9 zq hk
  replace HSv := HSv.keep k106 (by intro i _ hi he; have he0 := he; (try dsimp only [NoK, AllB] at hi he); (try simp only [Value.ownBlock, Option.some.injEq] at he); first | exact hi.elim | exact he.elim | omega | (rcases hi with hi | hi <;> omega) | (rcases he with he | he <;> omega) | (have := (HO40).own_lt he0; omega) | (have := zo_HO40 _ he0; omega) | (have := (HO40).own_lt he0; rcases hi with hi | hi <;> omega) | (rcases he0 with he0 | he0; (have := (HO40).own_lt he0; omega); omega) | (first | (rcases he with he | he; exact absurd rfl (hne7 _ he); omega) | exact absurd rfl (hne7 _ he)))
  refine l_to (to_append (et := 5) (bytes := 1) zk (zvS rfl) HO42 (zvS rfl) HSv (flat_u8.to) (by first | omega | (simp; done) | (simp; omega)) (by simp only [maxLen]; first | omega | (simp; done) | (simp; omega)) zo ?_)
  rintro a50 n50 c50 w50 HO50 hn50 k50 h50 i50
  have := k50.size
  subst hn50
  have h9 : b4 (bitN d) ++ mTx (m.take i) ++ [UInt8.ofNat p.1.length] ++ p.1 ++ [UInt8.ofNat p.2.length] ++ p.2 = b4 (bitN d) ++ mTx (m.take (i + 1)) := by rw [mTx_snoc hx]; simp [prTx]
  rw [h9] at HO50 ⊢
  have zo_HO50 := fun (b : Nat) h => HO50.own_lt (b := b) h
  refine l_nil (n_then (r_one zd rfl ?_))
  refine l_v (zaS rfl) (l_nil (n_blk (n_then (wp_reg zd (l_v (v_add rfl rfl (by first | exact wr_i64 zo zo | rfl)) ?_)))))
  replace E := (E.step k106 (by intro i hi he; have he0 := he; (try dsimp only [NoK] at hi he ⊢); (try simp only [Value.ownBlock, Option.some.injEq] at he); first | exact he.elim | omega | exact he | (have := (HO40).own_lt he0; omega) | (have := zo_HO40 _ he0; omega) | (have := (HO40).own_lt he0; rcases hi with hi | hi <;> omega) | (rcases he0 with he0 | he0; (have := (HO40).own_lt he0; omega); omega) | (first | (rcases he with he | he; exact absurd rfl (hne7 _ he); omega) | exact absurd rfl (hne7 _ he)))).step k50 (by intro i hi he; have he0 := he; (try dsimp only [NoK] at hi he ⊢); (try simp only [Value.ownBlock, Option.some.injEq] at he); first | exact he.elim | omega | exact he | (have := (HO42).own_lt he0; omega) | (have := zo_HO42 _ he0; omega) | (have := (HO42).own_lt he0; rcases hi with hi | hi <;> omega) | (first | (rcases he with he | he; exact absurd rfl (hne6 _ he); omega) | exact absurd rfl (hne6 _ he)))
  replace HSm := (HSm.keep k106 (by intro i _ hi he; have he0 := he; (try dsimp only [NoK, AllB] at hi he); (try simp only [Value.ownBlock, Option.some.injEq] at he); first | exact hi.elim | exact he.elim | omega | (rcases hi with hi | hi <;> omega) | (rcases he with he | he <;> omega) | (have := (HO40).own_lt he0; omega) | (have := zo_HO40 _ he0; omega) | (have := (HO40).own_lt he0; rcases hi with hi | hi <;> omega) | (rcases he0 with he0 | he0; (have := (HO40).own_lt he0; omega); omega) | (first | (rcases he with he | he; exact absurd rfl (hne7 _ he); omega) | exact absurd rfl (hne7 _ he)))).keep k50 (by intro i _ hi he; have he0 := he; (try dsimp only [NoK, AllB] at hi he); (try simp only [Value.ownBlock, Option.some.injEq] at he); first | exact hi.elim | exact he.elim | omega | (rcases hi with hi | hi <;> omega) | (rcases he with he | he <;> omega) | (have := (HO42).own_lt he0; omega) | (have := zo_HO42 _ he0; omega) | (have := (HO42).own_lt he0; rcases hi with hi | hi <;> omega) | (first | (rcases he with he | he; exact absurd rfl (hne6 _ he); omega) | exact absurd rfl (hne6 _ he)))
  replace EL1 := (EL1.step k106 (by intro i hi he; have he0 := he; (try dsimp only [NoK] at hi he ⊢); (try simp only [Value.ownBlock, Option.some.injEq] at he); first | exact he.elim | omega | exact he | (have := (HO40).own_lt he0; omega) | (have := zo_HO40 _ he0; omega) | (have := (HO40).own_lt he0; rcases hi with hi | hi <;> omega) | (rcases he0 with he0 | he0; (have := (HO40).own_lt he0; omega); omega) | (first | (rcases he with he | he; exact absurd rfl (hne7 _ he); omega) | exact absurd rfl (hne7 _ he)))).step k50 (by intro i hi he; have he0 := he; (try dsimp only [NoK] at hi he ⊢); (try simp only [Value.ownBlock, Option.some.injEq] at he); first | exact he.elim | omega | exact he | (have := (HO42).own_lt he0; omega) | (have := zo_HO42 _ he0; omega) | (have := (HO42).own_lt he0; rcases hi with hi | hi <;> omega) | (first | (rcases he with he | he; exact absurd rfl (hne6 _ he); omega) | exact absurd rfl (hne6 _ he)))
  replace HSk := (HSk.keep k106 (by intro i _ hi he; have he0 := he; (try dsimp only [NoK, AllB] at hi he); (try simp only [Value.ownBlock, Option.some.injEq] at he); first | exact hi.elim | exact he.elim | omega | (rcases hi with hi | hi <;> omega) | (rcases he with he | he <;> omega) | (have := (HO40).own_lt he0; omega) | (have := zo_HO40 _ he0; omega) | (have := (HO40).own_lt he0; rcases hi with hi | hi <;> omega) | (rcases he0 with he0 | he0; (have := (HO40).own_lt he0; omega); omega) | (first | (rcases he with he | he; exact absurd rfl (hne7 _ he); omega) | exact absurd rfl (hne7 _ he)))).keep k50 (by intro i _ hi he; have he0 := he; (try dsimp only [NoK, AllB] at hi he); (try simp only [Value.ownBlock, Option.some.injEq] at he); first | exact hi.elim | exact he.elim | omega | (rcases hi with hi | hi <;> omega) | (rcases he with he | he <;> omega) | (have := (HO42).own_lt he0; omega) | (have := zo_HO42 _ he0; omega) | (have := (HO42).own_lt he0; rcases hi with hi | hi <;> omega) | (first | (rcases he with he | he; exact absurd rfl (hne6 _ he); omega) | exact absurd rfl (hne6 _ he)))
  replace HSv := HSv.keep k50 (by intro i _ hi he; have he0 := he; (try dsimp only [NoK, AllB] at hi he); (try simp only [Value.ownBlock, Option.some.injEq] at he); first | exact hi.elim | exact he.elim | omega | (rcases hi with hi | hi <;> omega) | (rcases he with he | he <;> omega) | (have := (HO42).own_lt he0; omega) | (have := zo_HO42 _ he0; omega) | (have := (HO42).own_lt he0; rcases hi with hi | hi <;> omega) | (first | (rcases he with he | he; exact absurd rfl (hne6 _ he); omega) | exact absurd rfl (hne6 _ he)))
  replace HB9 := HB9.keep k50 (by intro h; have he0 := h; (try dsimp only at h); (try simp only [Value.ownBlock, Option.some.injEq] at h); first | omega | (have := (HO42).own_lt he0; omega) | (have := zo_HO42 _ he0; omega) | (have he := he0; first | (rcases he with he | he; exact absurd rfl (hne6 _ he); omega) | exact absurd rfl (hne6 _ he)))
  refine l_v (zmI rfl) (l_nil (n_then (⟨(i + 1, a50, c50), _, rfl, by (repeat (first | exact Off.of_over _ _ _ | refine Off.upd ?_ zq _ | refine Off.overs ?_ zq _)), ⟨by first | rfl | exact congrArg (Value.int _) zo | (simp; done), by first | rfl | exact congrArg (Value.int _) zo | (simp; done), trivial⟩, ⟨E, EL1, ?_⟩, ?_⟩)))
  ·
   exact ⟨by omega, HO50⟩
  (dsimp only; omega)
 refine c_exit (x_then (x_then (x_hit (n_then (c_seq (wp_reg zd (l_v (zmS rfl) (l_v (v_b2s (et := 5) zk zk zk rfl (by first | exact HOx.view | exact HSm | assumption)) ?_))))))))
 refine l_v (v_assign (t := .string _) rfl) (l_nil (n_then (c_ret (ret1v rfl zq (zvG rfl) ?_))))
 refine ⟨?_, E⟩
 rw [List.take_of_length_le (by have := dfalse hlt; omega)]
 rfl
end Go.Proofs.Ytifnkmflmgnfjaa

namespace Go.Proofs.Ytifnkmflmgnfjaa
open Go.Vc
set_option linter.unusedVariables false
set_option linter.unusedSimpArgs false
set_option maxRecDepth 100000

def intsN (l : List Nat) : List Int := l.map fun (n : Nat) => (n : Int)
def VainOk (r : List JdV) (ml : List (List UInt8 × Value)) : Prop := ∀ k v, mpGet ml k = some v → v = .agg #[.bool true] ∧ ∃ d m, k = keyS d m ∧ d.length = r.length ∧ mayMp m = true ∧ seekU r d m = none
theorem VainOk.nil (r : List JdV) : VainOk r [] := fun k v h => by cases h
theorem VainOk.set {r : List JdV} {ml : List (List UInt8 × Value)} (h : VainOk r ml) {d : List Bool} {m : MapV} (hd : d.length = r.length) (hm : mayMp m = true) (hs : seekU r d m = none) : VainOk r (mpSet ml (keyS d m) (.agg #[.bool true])) := by
  intro k v hk
  rw [mpGet_set] at hk
  split at hk
  · rename_i he
    cases hk
    exact ⟨rfl, d, m, he, hd, hm, hs⟩
  · exact h k v hk
theorem VainOk.get {r : List JdV} {ml : List (List UInt8 × Value)} (h : VainOk r ml) {d : List Bool} {m : MapV} (hr : r.length ≤ 32) (hd : d.length = r.length) (hm : mayMp m = true) : ∃ b, (mpGet ml (keyS d m)).getD (.agg #[.bool false]) = .agg #[.bool b] ∧ (b = true → seekU r d m = none) := by
  cases hg : mpGet ml (keyS d m) with
  | none => exact ⟨false, rfl, fun h => by cases h⟩
  | some v =>
    obtain ⟨rfl, d', m', hk, hd', hm', hs⟩ := h _ _ hg
    obtain ⟨rfl, rfl⟩ := keyS_inj zo zo hm hm' hk
    exact ⟨true, rfl, fun _ => hs⟩
/-- what a try comes to -/
def TryP (r : List JdV) (bd bo bm n1 : Nat) (d : List Bool) (ord : List Nat) (m : MapV) (v0 : Value) (n : Nat) (o : Value) (W : World) : Prop :=
  ∃ ua un uc b, o = .tuple #[.slice ua un uc, .bool b] ∧
  (b = true → ∃ os m' ao co, seekU r d m = some (os, m') ∧ SlV tPr W AllB (.slice ua un uc) m' ∧ Blk W bo [.slice ao (ord ++ os).length co] 53 ∧ SlV (tInt .i64) W (fun b => n1 ≤ b) (.slice ao (ord ++ os).length co) (intsN (ord ++ os))) ∧
  (b = false → seekU r d m = none ∧ ∃ ao co ml, VainOk r ml ∧ Blk W bd [.int .u64 (bitN d : Nat)] 127 ∧ Blk W bo [.slice ao ord.length co] 53 ∧ OwV (tInt .i64) 3 W n1 NoK (.slice ao ord.length co) (intsN ord) ∧ MpB kStr W bm ml ∧
    (∀ b, (Value.slice ao ord.length co).ownBlock = some b → v0.ownBlock = some b ∨ n ≤ b))
theorem ge_not (n : Int) : decide (0 ≤ n) = !decide (n < 0) := by
  by_cases h : n < 0
  · rw [decide_eq_true h, decide_eq_false zo]; rfl
  · rw [decide_eq_false h, decide_eq_true zo]; rfl
theorem set_back {d : List Bool} {i : Nat} (hi : i < d.length) (h : d.getD i false = false) : (d.set i true).set i false = d := by
  rw [List.set_set]
  refine List.ext_getElem? fun j => ?_
  rw [List.getElem?_set]
  split
  · rename_i he; subst he
    rw [List.getD_eq_getElem?_getD, List.getElem?_eq_getElem hi] at h
    rw [List.getElem?_eq_getElem hi]
    simp only [Option.getD_some] at h
    simp [h, hi]
  · rfl
theorem seek_no {r : List JdV} {d : List Bool} {m : MapV} (hd : d.length = r.length) (hw : ¬ whlJ r d = true) (h : ∀ j, j < r.length → stepU r d m j = none) : seekU r d m = none := by
  rw [seekU_eq hd, if_neg hw, findR_none h]
theorem seek_yes {r : List JdV} {d : List Bool} {m : MapV} {i : Nat} {y : List Nat × MapV} (hd : d.length = r.length) (hw : ¬ whlJ r d = true) (h : ∀ j, j < i → stepU r d m j = none) (hi : i < r.length) (hs : stepU r d m i = some y) : seekU r d m = some y := by
  rw [seekU_eq hd, if_neg hw, findR_some _ h hs hi]
theorem step_no {r : List JdV} {d : List Bool} {m : MapV} {i : Nat} {x : JdV} (hx : r[i]? = some x) (h : canJ r d m i = false) : stepU r d m i = none := by
  unfold stepU; rw [hx]; simp only [h]; rfl
theorem step_go {r : List JdV} {d : List Bool} {m : MapV} {i : Nat} {x : JdV} (hx : r[i]? = some x) (h : canJ r d m i = true) : stepU r d m i = (seekU r (d.set i true) (doM m x.1.2.2).1).map (fun q => (i :: q.1, q.2)) := by
  unfold stepU; rw [hx]; simp only [h]; rfl
theorem can_eq {r : List JdV} {d : List Bool} {m : MapV} {i : Nat} {x : JdV} (hx : r[i]? = some x) : canJ r d m i = (mayJ r d i && (decide (x.2.2.1 < 0) || fitsM m x.1.2.2 x.2.2.2)) := by
  unfold canJ; rw [hx]
theorem cant {a b c : Bool} : (!a || (!b && !c)) = !(a && (b || c)) := by cases a <;> cases b <;> cases c <;> rfl
end Go.Proofs.Ytifnkmflmgnfjaa
