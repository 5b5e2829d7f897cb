/-
  No cell of these rows narrows 'for every input' (looked for: loops, veiled, ifaces, maps, wideKeys, modest, calm, conditions, laid).
  DERIVED. THE GIVEN ROWS OF THIS SEAT. 7 by the template 'for every input the law returns true; each argument reads behind the call as it read before'; 0 by the template 'total and deterministic' (their statements: YtifnkmflmgnfjaaTotals.lean).
  GIVEN WITH THE SEED: the statements are not yours to turn. If you find one false, say at which input.
  Laid BY PROGRAM, IN A SANDBOX (cutbox-rows.mjs): the forced cells as the released guide's own fill.sh prints them over the translation ca8bd9b6466dbb2a… (all of the seat's roots in one cut). By AI agents, Wed Nov 11 2026. No macro, syntax, notation, axiom, sorry.
-/
import Derived.Test.YtifnkmflmgnfjaaChecked
import GoSem.Claim
import GoSem.ClaimJoined
import GoSem.ClaimMapViews
import Derived.JoinedTies
import Derived.KernelRfl
namespace Go.Proofs.Ytifnkmflmgnfjaa
/- THE CELL 'sum', in the pinned program and in every row, IS THE sha256 OF THE DUMP (.gsa) THAT YtifnkmflmgnfjaaProg.lean LOADS. Nothing in Lean hashes anything: it is a label: what it is worth is what the hold of that sum in a sandbox is worth. -/
noncomputable def Try.pinned : Pinned := { name := "ytifnkmflmgnfjaa", sum := "ca8bd9b6466dbb2ab71a5cf3c4e07d38393ef1272cc7a57cf37a19cb8387f208", checked := Try.checked }
namespace Rows
def none {H : Type} : Left H := { results := [], args := [] }

/-- 'hectarelaw25.JudgeMaps': WHATEVER THE INPUT: true; the input reads as it did. -/
def judgeMapsSpec : ChangeSpec := { name := "judgeMaps", fn := fun _ => fun
  | [d] => { results := [.lit (.bool true)], args := [d] }
  | _ => none }
def judgeMapsRow : OpenClaim := { program := "ytifnkmflmgnfjaa", sum := "ca8bd9b6466dbb2ab71a5cf3c4e07d38393ef1272cc7a57cf37a19cb8387f208", func := "hectare/hectarelaw25.JudgeMaps", spec := "judgeMaps", inPlace := ["internal/bytealg.Compare"], unfollowed := true, recurses := true, apart := false }
def JudgeMapsSaid : Prop := judgeMapsRow.holds Try.pinned (OpenSpec.ofChange judgeMapsSpec)

/-- ITS FALSE NEIGHBOUR: 'it returns false'. Refute it at one input. -/
def judgeMapsWrong : ChangeSpec := { name := "judgeMaps", fn := fun _ => fun
  | [d] => { results := [.lit (.bool false)], args := [d] }
  | _ => none }
def JudgeMapsWrongFalsely : Prop := judgeMapsRow.holds Try.pinned (OpenSpec.ofChange judgeMapsWrong)

/-- 'hectarelaw25.JudgeFits': WHATEVER THE INPUT: true; the input reads as it did. -/
def judgeFitsSpec : ChangeSpec := { name := "judgeFits", fn := fun _ => fun
  | [d1, d2, d3] => { results := [.lit (.bool true)], args := [d1, d2, d3] }
  | _ => none }
def judgeFitsRow : OpenClaim := { program := "ytifnkmflmgnfjaa", sum := "ca8bd9b6466dbb2ab71a5cf3c4e07d38393ef1272cc7a57cf37a19cb8387f208", func := "hectare/hectarelaw25.JudgeFits", spec := "judgeFits", inPlace := ["internal/bytealg.Compare"], unfollowed := true, recurses := true, apart := false }
def JudgeFitsSaid : Prop := judgeFitsRow.holds Try.pinned (OpenSpec.ofChange judgeFitsSpec)

/-- ITS FALSE NEIGHBOUR: 'it returns false'. Refute it at one input. -/
def judgeFitsWrong : ChangeSpec := { name := "judgeFits", fn := fun _ => fun
  | [d1, d2, d3] => { results := [.lit (.bool false)], args := [d1, d2, d3] }
  | _ => none }
def JudgeFitsWrongFalsely : Prop := judgeFitsRow.holds Try.pinned (OpenSpec.ofChange judgeFitsWrong)

/-- 'hectarelaw25.JudgeRequests': WHATEVER THE INPUT: true; the input reads as it did. -/
def judgeRequestsSpec : ChangeSpec := { name := "judgeRequests", fn := fun _ => fun
  | [d1, d2] => { results := [.lit (.bool true)], args := [d1, d2] }
  | _ => none }
def judgeRequestsRow : OpenClaim := { program := "ytifnkmflmgnfjaa", sum := "ca8bd9b6466dbb2ab71a5cf3c4e07d38393ef1272cc7a57cf37a19cb8387f208", func := "hectare/hectarelaw25.JudgeRequests", spec := "judgeRequests", inPlace := ["internal/bytealg.Compare"], unfollowed := true, recurses := true, apart := false }
def JudgeRequestsSaid : Prop := judgeRequestsRow.holds Try.pinned (OpenSpec.ofChange judgeRequestsSpec)

/-- ITS FALSE NEIGHBOUR: 'it returns false'. Refute it at one input. -/
def judgeRequestsWrong : ChangeSpec := { name := "judgeRequests", fn := fun _ => fun
  | [d1, d2] => { results := [.lit (.bool false)], args := [d1, d2] }
  | _ => none }
def JudgeRequestsWrongFalsely : Prop := judgeRequestsRow.holds Try.pinned (OpenSpec.ofChange judgeRequestsWrong)

/-- 'hectarelaw25.JudgeBounds': WHATEVER THE INPUT: true; the input reads as it did. -/
def judgeBoundsSpec : ChangeSpec := { name := "judgeBounds", fn := fun _ => fun
  | [] => { results := [.lit (.bool true)], args := [] }
  | _ => none }
def judgeBoundsRow : OpenClaim := { program := "ytifnkmflmgnfjaa", sum := "ca8bd9b6466dbb2ab71a5cf3c4e07d38393ef1272cc7a57cf37a19cb8387f208", func := "hectare/hectarelaw25.JudgeBounds", spec := "judgeBounds", inPlace := ["internal/bytealg.Compare"], unfollowed := true, recurses := true, apart := false }
def JudgeBoundsSaid : Prop := judgeBoundsRow.holds Try.pinned (OpenSpec.ofChange judgeBoundsSpec)

/-- ITS FALSE NEIGHBOUR: 'it returns false'. Refute it at one input. -/
def judgeBoundsWrong : ChangeSpec := { name := "judgeBounds", fn := fun _ => fun
  | [] => { results := [.lit (.bool false)], args := [] }
  | _ => none }
def JudgeBoundsWrongFalsely : Prop := judgeBoundsRow.holds Try.pinned (OpenSpec.ofChange judgeBoundsWrong)

/-- 'hectarelaw25.JudgeOrders': WHATEVER THE INPUT: true; the input reads as it did. -/
def judgeOrdersSpec : ChangeSpec := { name := "judgeOrders", fn := fun _ => fun
  | [d] => { results := [.lit (.bool true)], args := [d] }
  | _ => none }
def judgeOrdersRow : OpenClaim := { program := "ytifnkmflmgnfjaa", sum := "ca8bd9b6466dbb2ab71a5cf3c4e07d38393ef1272cc7a57cf37a19cb8387f208", func := "hectare/hectarelaw25.JudgeOrders", spec := "judgeOrders", inPlace := ["internal/bytealg.Compare"], unfollowed := true, recurses := true, apart := false }
def JudgeOrdersSaid : Prop := judgeOrdersRow.holds Try.pinned (OpenSpec.ofChange judgeOrdersSpec)

/-- ITS FALSE NEIGHBOUR: 'it returns false'. Refute it at one input. -/
def judgeOrdersWrong : ChangeSpec := { name := "judgeOrders", fn := fun _ => fun
  | [d] => { results := [.lit (.bool false)], args := [d] }
  | _ => none }
def JudgeOrdersWrongFalsely : Prop := judgeOrdersRow.holds Try.pinned (OpenSpec.ofChange judgeOrdersWrong)

/-- 'hectarelaw25.JudgeDoes': WHATEVER THE INPUT: true; the input reads as it did. -/
def judgeDoesSpec : ChangeSpec := { name := "judgeDoes", fn := fun _ => fun
  | [d1, d2] => { results := [.lit (.bool true)], args := [d1, d2] }
  | _ => none }
def judgeDoesRow : OpenClaim := { program := "ytifnkmflmgnfjaa", sum := "ca8bd9b6466dbb2ab71a5cf3c4e07d38393ef1272cc7a57cf37a19cb8387f208", func := "hectare/hectarelaw25.JudgeDoes", spec := "judgeDoes", inPlace := ["internal/bytealg.Compare"], unfollowed := true, recurses := true, apart := false }
def JudgeDoesSaid : Prop := judgeDoesRow.holds Try.pinned (OpenSpec.ofChange judgeDoesSpec)

/-- ITS FALSE NEIGHBOUR: 'it returns false'. Refute it at one input. -/
def judgeDoesWrong : ChangeSpec := { name := "judgeDoes", fn := fun _ => fun
  | [d1, d2] => { results := [.lit (.bool false)], args := [d1, d2] }
  | _ => none }
def JudgeDoesWrongFalsely : Prop := judgeDoesRow.holds Try.pinned (OpenSpec.ofChange judgeDoesWrong)

/-- 'hectarelaw25.JudgeExplains': WHATEVER THE INPUT: true; the input reads as it did. -/
def judgeExplainsSpec : ChangeSpec := { name := "judgeExplains", fn := fun _ => fun
  | [d1, d2, d3] => { results := [.lit (.bool true)], args := [d1, d2, d3] }
  | _ => none }
def judgeExplainsRow : OpenClaim := { program := "ytifnkmflmgnfjaa", sum := "ca8bd9b6466dbb2ab71a5cf3c4e07d38393ef1272cc7a57cf37a19cb8387f208", func := "hectare/hectarelaw25.JudgeExplains", spec := "judgeExplains", inPlace := ["internal/bytealg.Compare"], unfollowed := true, recurses := true, apart := false }
def JudgeExplainsSaid : Prop := judgeExplainsRow.holds Try.pinned (OpenSpec.ofChange judgeExplainsSpec)

/-- ITS FALSE NEIGHBOUR: 'it returns false'. Refute it at one input. -/
def judgeExplainsWrong : ChangeSpec := { name := "judgeExplains", fn := fun _ => fun
  | [d1, d2, d3] => { results := [.lit (.bool false)], args := [d1, d2, d3] }
  | _ => none }
def JudgeExplainsWrongFalsely : Prop := judgeExplainsRow.holds Try.pinned (OpenSpec.ofChange judgeExplainsWrong)

/- THE SECOND FORM. 'bulk': how many values and letters a reading holds, each counted each time it is reached (what is shared counts as often as it is met; a slice's spare places count too). A statement '..UptoSaid' is the law's where the arguments, and the package variables that the reading takes, are together of bulk at most 1048576: NARROWER than '..Said'. Prove '..Said' where nothing that the law and all that it calls make is longer than what came in: it says more and counts as full. Else prove '..UptoSaid'. A law counts once. -/
mutual
def uptoBulk {H : Type} : DataW H → Nat
  | .lit (.string bytes) => bytes.length + 1
  | .lit _ => 1
  | .nil => 1
  | .ptr d => uptoBulk d + 1
  | .slice elems spare => uptoBulkAll elems + uptoBulkAll spare + 1
  | .agg parts => uptoBulkAll parts + 1
  | .iface _ d => uptoBulk d + 1
  | .map entries => uptoBulkEntries entries + 1
  | .held _ => 1
def uptoBulkAll {H : Type} : List (DataW H) → Nat
  | [] => 0
  | d :: r => uptoBulk d + uptoBulkAll r
def uptoBulkEntries {H : Type} : List (Lit × DataW H) → Nat
  | [] => 0
  | x :: r => uptoBulkEntry x + uptoBulkEntries r
def uptoBulkEntry {H : Type} : Lit × DataW H → Nat
  | (.string bytes, d) => bytes.length + uptoBulk d + 1
  | (_, d) => uptoBulk d + 1
 end
def uptoSmall : (H : Type) → List (DataW H) → Bool := fun _ ds => decide (uptoBulkAll ds ≤ 1048576)
def OpenSpec.upto (s : _root_.Go.ChangeSpec) : _root_.Go.OpenSpec := { _root_.Go.OpenSpec.ofChange s with cond := some uptoSmall }

/-- 'hectarelaw25.JudgeMaps', WHERE WHAT IT READS IS OF BULK AT MOST 1048576: true; the input reads as it did. -/
def judgeMapsUptoRow : OpenClaim := { program := "ytifnkmflmgnfjaa", sum := "ca8bd9b6466dbb2ab71a5cf3c4e07d38393ef1272cc7a57cf37a19cb8387f208", func := "hectare/hectarelaw25.JudgeMaps", spec := "judgeMaps", inPlace := ["internal/bytealg.Compare"], unfollowed := true, recurses := true, apart := false, narrowed := true }
def JudgeMapsUptoSaid : Prop := judgeMapsUptoRow.holds Try.pinned (OpenSpec.upto judgeMapsSpec)

/-- 'hectarelaw25.JudgeFits', WHERE WHAT IT READS IS OF BULK AT MOST 1048576: true; the input reads as it did. -/
def judgeFitsUptoRow : OpenClaim := { program := "ytifnkmflmgnfjaa", sum := "ca8bd9b6466dbb2ab71a5cf3c4e07d38393ef1272cc7a57cf37a19cb8387f208", func := "hectare/hectarelaw25.JudgeFits", spec := "judgeFits", inPlace := ["internal/bytealg.Compare"], unfollowed := true, recurses := true, apart := false, narrowed := true }
def JudgeFitsUptoSaid : Prop := judgeFitsUptoRow.holds Try.pinned (OpenSpec.upto judgeFitsSpec)

/-- 'hectarelaw25.JudgeRequests', WHERE WHAT IT READS IS OF BULK AT MOST 1048576: true; the input reads as it did. -/
def judgeRequestsUptoRow : OpenClaim := { program := "ytifnkmflmgnfjaa", sum := "ca8bd9b6466dbb2ab71a5cf3c4e07d38393ef1272cc7a57cf37a19cb8387f208", func := "hectare/hectarelaw25.JudgeRequests", spec := "judgeRequests", inPlace := ["internal/bytealg.Compare"], unfollowed := true, recurses := true, apart := false, narrowed := true }
def JudgeRequestsUptoSaid : Prop := judgeRequestsUptoRow.holds Try.pinned (OpenSpec.upto judgeRequestsSpec)

/-- 'hectarelaw25.JudgeBounds', WHERE WHAT IT READS IS OF BULK AT MOST 1048576: true; the input reads as it did. -/
def judgeBoundsUptoRow : OpenClaim := { program := "ytifnkmflmgnfjaa", sum := "ca8bd9b6466dbb2ab71a5cf3c4e07d38393ef1272cc7a57cf37a19cb8387f208", func := "hectare/hectarelaw25.JudgeBounds", spec := "judgeBounds", inPlace := ["internal/bytealg.Compare"], unfollowed := true, recurses := true, apart := false, narrowed := true }
def JudgeBoundsUptoSaid : Prop := judgeBoundsUptoRow.holds Try.pinned (OpenSpec.upto judgeBoundsSpec)

/-- 'hectarelaw25.JudgeOrders', WHERE WHAT IT READS IS OF BULK AT MOST 1048576: true; the input reads as it did. -/
def judgeOrdersUptoRow : OpenClaim := { program := "ytifnkmflmgnfjaa", sum := "ca8bd9b6466dbb2ab71a5cf3c4e07d38393ef1272cc7a57cf37a19cb8387f208", func := "hectare/hectarelaw25.JudgeOrders", spec := "judgeOrders", inPlace := ["internal/bytealg.Compare"], unfollowed := true, recurses := true, apart := false, narrowed := true }
def JudgeOrdersUptoSaid : Prop := judgeOrdersUptoRow.holds Try.pinned (OpenSpec.upto judgeOrdersSpec)

/-- 'hectarelaw25.JudgeDoes', WHERE WHAT IT READS IS OF BULK AT MOST 1048576: true; the input reads as it did. -/
def judgeDoesUptoRow : OpenClaim := { program := "ytifnkmflmgnfjaa", sum := "ca8bd9b6466dbb2ab71a5cf3c4e07d38393ef1272cc7a57cf37a19cb8387f208", func := "hectare/hectarelaw25.JudgeDoes", spec := "judgeDoes", inPlace := ["internal/bytealg.Compare"], unfollowed := true, recurses := true, apart := false, narrowed := true }
def JudgeDoesUptoSaid : Prop := judgeDoesUptoRow.holds Try.pinned (OpenSpec.upto judgeDoesSpec)

/-- 'hectarelaw25.JudgeExplains', WHERE WHAT IT READS IS OF BULK AT MOST 1048576: true; the input reads as it did. -/
def judgeExplainsUptoRow : OpenClaim := { program := "ytifnkmflmgnfjaa", sum := "ca8bd9b6466dbb2ab71a5cf3c4e07d38393ef1272cc7a57cf37a19cb8387f208", func := "hectare/hectarelaw25.JudgeExplains", spec := "judgeExplains", inPlace := ["internal/bytealg.Compare"], unfollowed := true, recurses := true, apart := false, narrowed := true }
def JudgeExplainsUptoSaid : Prop := judgeExplainsUptoRow.holds Try.pinned (OpenSpec.upto judgeExplainsSpec)

end Rows
end Go.Proofs.Ytifnkmflmgnfjaa
