/- A part of the proof: steps and lemmas for the walks through the given program. -/
import Derived.Test.YtlhanmlpionomaaD20
namespace Go.Proofs.Ytlhanmlpionomaa
open Go.Vc
set_option linter.unusedVariables false
set_option linter.unusedSimpArgs false
set_option maxRecDepth 100000

def zeroC : List Value := [.int .i64 0, .int .i64 0, .int .i64 0, .int .i64 0, .int .i64 0, .int .i64 0, .slice none 0 0, .slice none 0 0, .int .i64 0, .slice none 0 0, .slice none 0 0, .int .i64 0, .slice none 0 0, .slice none 0 0, .int .i64 0, .slice none 0 0, .slice none 0 0, .int .i64 0, .slice none 0 0, .slice none 0 0]
theorem RfC.new (w : World) (F : Nat → Prop) : RfC w F zeroC (fun _ => none) := by
  refine ⟨rfl, fun c hc => ?_, fun c hc => ?_⟩
  · have h : c = 0 ∨ c = 1 ∨ c = 2 ∨ c = 3 ∨ c = 4 := by omega
    rcases h with rfl | rfl | rfl | rfl | rfl <;> rfl
  · have h : c = 0 ∨ c = 1 ∨ c = 2 ∨ c = 3 ∨ c = 4 := by omega
    have h0 : tAn.rep w F [.int .i64 0, .slice none 0 0, .slice none 0 0] an0 := tAn_mk (SlV.nil _ _ _) (SlV.nil _ _ _) ⟨by decide, by decide⟩
    rcases h with rfl | rfl | rfl | rfl | rfl <;> exact h0
/-- two tables that are filled alike -/
structure TT (W : World) (n0 b bm br : Nat) (cells : List Value) (S : TbS) : Prop where
  ok : TbOk S
  g1 : n0 ≤ b
  g2 : n0 ≤ bm
  g3 : n0 ≤ br
  g4 : b ≠ bm
  g5 : b ≠ br
  g6 : bm ≠ br
  b1 : Blk W b [.map (some bm)] 65
  t1 : TbI W (fun i => n0 ≤ i ∧ i ≠ b ∧ i ≠ bm ∧ i ≠ br) bm S
  b2 : Blk W br cells 48
  t2 : RfC W (fun i => n0 ≤ i ∧ i ≠ b ∧ i ≠ bm ∧ i ≠ br) cells S
theorem TT.keep {W W' : World} {K : Nat → Prop} {n0 b bm br : Nat} {cells : List Value} {S : TbS} (h : TT W n0 b bm br cells S) (k : Keep K W W') (hk : ∀ i, i < W.heap.size → n0 ≤ i → ¬ K i) : TT W' n0 b bm br cells S :=
  ⟨h.ok, h.g1, h.g2, h.g3, h.g4, h.g5, h.g6, h.b1.keep k (hk _ h.b1.lt h.g1), h.t1.keep k (fun i hi hf => hk i hi (by rcases hf with hf | rfl; exact hf.1; exact h.g2)), h.b2.keep k (hk _ h.b2.lt h.g3), h.t2.keep k (fun i hi hf => hk i hi hf.1)⟩
theorem TT.ext {W W' : World} {n0 b bm br : Nat} {cells : List Value} {S : TbS} (h : TT W n0 b bm br cells S) (k : Ext W W') : TT W' n0 b bm br cells S := h.keep k (fun _ _ _ x => x)
end Go.Proofs.Ytlhanmlpionomaa
