/- A part of the proof: steps and lemmas for the walks through the given program. -/
import Derived.Test.YtogafjlbpodgjaaGreatGw
import Derived.Test.YtogafjlbpodgjaaGreatGd
import Derived.Test.YtogafjlbpodgjaaGreatGc
namespace Go.Proofs.YtogafjlbpodgjaaGreat
open Go.Vc
set_option linter.unusedVariables false
set_option linter.unusedSimpArgs false
set_option maxRecDepth 100000

theorem refBytes_c {w : World} {v : Value} {F : Nat → Prop} {l : List UInt8} (hv : Bv w F v l) (hl : l.length ≤ 140737488355300) : CallsR Tryz.prog 31 #[v] w (fun r w' => OwV tU8 nU8 w' w.heap.size NoK r (wBytes l) ∧ (∃ q c, r = .slice (some q) (wBytes l).length c) ∧ Ext w w') := by
  obtain ⟨a, c, rfl⟩ := hv.shape
  have hw := wNum_len10 (n := l.length) (by omega)
  refine enter 9 Tryz.func31 rfl rfl (by simp) ?_
  refine c_seq ?_
  refine wp_reg zd ?_
  refine l_v (v_assign rfl) ?_
  refine l_nil ?_
  refine n_then ?_
  refine c_seq ?_
  refine wp_reg zd ?_
  refine l_v (v_move (t := .slice _ _ _) rfl) ?_
  refine l_v (v_len (et := 5) zk rfl) ?_
  refine l_v (v_conv (ds := .int .i64) zk zk rfl (by first | exact wr_u64 (by omega) (by omega) | rfl)) ?_
  refine l_to (to_f1 zk (zvI rfl) (CallsR.mono (refNumber_c (n := l.length) rfl (by omega)) ?_))
  rintro _ w1 ⟨o1, ⟨q1, c1, rfl⟩, e1⟩
  have zs_e1 := e1.size
  refine l_v (v_move (t := .slice _ _ _) rfl) ?_
  refine l_to (to_append (et := 5) (bytes := 1) zk (zvS rfl) o1 (zvS rfl) (hv.ext e1) (flat_u8.to) (by first | omega | (simp; done) | (simp; omega)) (by simp only [maxLen]; first | omega | (simp; done) | (simp; omega)) (by omega) ?_)
  rintro a3 n3 c3 w3 o3 hn3 k3 b3 i3
  have zs_k3 := k3.size
  subst hn3
  have kk3 : Ext w w3 := e1.step k3 fun b hb h => by have := (o1.own_lt h).1; omega
  refine l_v (v_assign (t := .slice _ _ _) rfl) ?_
  refine l_nil ?_
  refine n_then ?_
  refine c_ret ?_
  refine ret1 rfl (by decide) ?_
  refine ⟨o3, ?_, kk3⟩
  cases a3 with
  | some q => exact ⟨q, c3, rfl⟩
  | none => exact absurd (i3.1 rfl).1 (by simp)
abbrev nSl : Nat := 24
theorem OwV_sep {α β : Type} {t : Ty α} {t' : Ty β} {e : TypeId} {w0 w : World} {B : Nat} {F G : Nat → Prop} {v : Value} {ys : List α} (o : OwV t e w0 B F v ys) (hm : ∀ b, G b → w0.heap.size ≤ b) (hB : B ≤ w0.heap.size) :
    ∀ cs x, t'.rep w G cs x → t'.rep w (fun b => B ≤ b ∧ v.ownBlock ≠ some b) cs x := fun cs x h =>
  t'.mono h fun b _ hb => ⟨Nat.le_trans hB (hm b hb), fun he => by have := (o.own_lt he).2; have := hm b hb; omega⟩
/-- a list's form -/
def wList {α : Type} (sp : α → List UInt8) (xs : List α) : List UInt8 := wNum xs.length ++ (xs.map sp).flatten

/-- so many things, one behind the other -/
def rdList {α : Type} (ρ : List UInt8 → Except Int (α × List UInt8)) : Nat → List UInt8 → Except Int (List α × List UInt8)
  | 0, l => .ok ([], l)
  | n + 1, l => match ρ l with
    | .error e => .error e
    | .ok (x, l2) => match rdList ρ n l2 with
      | .error e => .error e
      | .ok (xs, l3) => .ok (x :: xs, l3)
def bindL {α : Type} (xs : List α) : Except Int (List α × List UInt8) → Except Int (List α × List UInt8)
  | .error e => .error e
  | .ok (ys, l) => .ok (xs ++ ys, l)
theorem bindL_nil {α : Type} (r : Except Int (List α × List UInt8)) : bindL [] r = r := by cases r <;> rfl
theorem rdList_ok {α : Type} {ρ : List UInt8 → Except Int (α × List UInt8)} {n : Nat} {l l2 : List UInt8} {x : α} {xs : List α} (h : ρ l = .ok (x, l2)) : bindL xs (rdList ρ (n + 1) l) = bindL (xs ++ [x]) (rdList ρ n l2) := by
  rw [rdList, h]
  simp only []
  cases rdList ρ n l2 with
  | error e => rfl
  | ok q => simp [bindL]
theorem rdList_err {α : Type} {ρ : List UInt8 → Except Int (α × List UInt8)} {n : Nat} {l : List UInt8} {e : Int} {xs : List α} (h : ρ l = .error e) : bindL xs (rdList ρ (n + 1) l) = .error e := by
  rw [rdList, h]; rfl

theorem TryV_any {α : Type} {t : Ty α} {et eR : TypeId} {w w' : World} {b : Nat} {F : Nat → Prop} {l : List UInt8} {q : Except Int (List α × List UInt8)} {r : Value} (h : TryV t et eR w w' b F l q r) :
    ∃ (a : Option Addr) (c : Nat) (e : Int) (xs : List α) (l2 : List UInt8), r = .tuple #[.slice a xs.length c, .int .i64 e] ∧ OwV t et w' w.heap.size (fun k => w.heap.size ≤ k) (.slice a xs.length c) xs ∧ Rd eR w' b F l2 ∧ ((e = 0 ∧ q = .ok (xs, l2)) ∨ (e ≠ 0 ∧ xs = [] ∧ l2 = l ∧ a = none ∧ c = 0 ∧ q = .error e)) := by
  match q, h with
  | .ok (x, l2), ⟨a, c, hr, h1, h2⟩ => exact ⟨a, c, 0, x, l2, hr, h1, h2, .inl ⟨rfl, rfl⟩⟩
  | .error e, ⟨he, hr, h2⟩ => exact ⟨none, 0, e, [], l, hr, OwV.nil _ _ _ _ _, h2, .inr ⟨he, rfl, rfl, rfl, rfl, rfl⟩⟩

end Go.Proofs.YtogafjlbpodgjaaGreat
