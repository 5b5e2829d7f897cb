/-
  No cell of these rows narrows 'for every input' (looked for: loops, veiled, ifaces, maps, wideKeys, modest, calm, conditions, laid).
  DERIVED. THE GIVEN ROWS OF THIS SEAT. 7 by the template 'for every input the law returns true; each argument reads behind the call as it read before'; 0 by the template 'total and deterministic' (their statements: YtogafjlbpodgjaaTotals.lean).
  GIVEN WITH THE SEED: the statements are not yours to turn. If you find one false, say at which input.
  Laid BY PROGRAM, IN A SANDBOX (cutbox-rows.mjs): the forced cells as the released guide's own fill.sh prints them over the translation 60e9eb25b1135367… (all of the seat's roots in one cut). By AI agents, Wed Nov 11 2026. No macro, syntax, notation, axiom, sorry.
-/
import Derived.Test.YtogafjlbpodgjaaChecked
import GoSem.Claim
import GoSem.ClaimJoined
import GoSem.ClaimMapViews
import Derived.JoinedTies
import Derived.KernelRfl
namespace Go.Proofs.Ytogafjlbpodgjaa
/- THE CELL 'sum', in the pinned program and in every row, IS THE sha256 OF THE DUMP (.gsa) THAT YtogafjlbpodgjaaProg.lean LOADS. Nothing in Lean hashes anything: it is a label: what it is worth is what the hold of that sum in a sandbox is worth. -/
noncomputable def Try.pinned : Pinned := { name := "ytogafjlbpodgjaa", sum := "60e9eb25b1135367179884c5bcca07f677ab3877d778ff5123d8e7436e8a7321", checked := Try.checked }
namespace Rows
def none {H : Type} : Left H := { results := [], args := [] }

/-- 'hectarelaw17.CommandRequests': WHATEVER THE INPUT: true; the input reads as it did. -/
def commandRequestsSpec : ChangeSpec := { name := "commandRequests", fn := fun _ => fun
  | [d] => { results := [.lit (.bool true)], args := [d] }
  | _ => none }
def commandRequestsRow : OpenClaim := { program := "ytogafjlbpodgjaa", sum := "60e9eb25b1135367179884c5bcca07f677ab3877d778ff5123d8e7436e8a7321", func := "hectare/hectarelaw17.CommandRequests", spec := "commandRequests", inPlace := ["internal/bytealg.Compare"], unfollowed := true, recurses := true, apart := false }
def CommandRequestsSaid : Prop := commandRequestsRow.holds Try.pinned (OpenSpec.ofChange commandRequestsSpec)

/-- ITS FALSE NEIGHBOUR: 'it returns false'. Refute it at one input. -/
def commandRequestsWrong : ChangeSpec := { name := "commandRequests", fn := fun _ => fun
  | [d] => { results := [.lit (.bool false)], args := [d] }
  | _ => none }
def CommandRequestsWrongFalsely : Prop := commandRequestsRow.holds Try.pinned (OpenSpec.ofChange commandRequestsWrong)

/-- 'hectarelaw17.CommandMay': WHATEVER THE INPUT: true; the input reads as it did. -/
def commandMaySpec : ChangeSpec := { name := "commandMay", fn := fun _ => fun
  | [d1, d2] => { results := [.lit (.bool true)], args := [d1, d2] }
  | _ => none }
def commandMayRow : OpenClaim := { program := "ytogafjlbpodgjaa", sum := "60e9eb25b1135367179884c5bcca07f677ab3877d778ff5123d8e7436e8a7321", func := "hectare/hectarelaw17.CommandMay", spec := "commandMay", inPlace := ["internal/bytealg.Compare"], unfollowed := true, recurses := true, apart := false }
def CommandMaySaid : Prop := commandMayRow.holds Try.pinned (OpenSpec.ofChange commandMaySpec)

/-- ITS FALSE NEIGHBOUR: 'it returns false'. Refute it at one input. -/
def commandMayWrong : ChangeSpec := { name := "commandMay", fn := fun _ => fun
  | [d1, d2] => { results := [.lit (.bool false)], args := [d1, d2] }
  | _ => none }
def CommandMayWrongFalsely : Prop := commandMayRow.holds Try.pinned (OpenSpec.ofChange commandMayWrong)

/-- 'hectarelaw17.CommandBack': WHATEVER THE INPUT: true; the input reads as it did. -/
def commandBackSpec : ChangeSpec := { name := "commandBack", fn := fun _ => fun
  | [d1, d2, d3] => { results := [.lit (.bool true)], args := [d1, d2, d3] }
  | _ => none }
def commandBackRow : OpenClaim := { program := "ytogafjlbpodgjaa", sum := "60e9eb25b1135367179884c5bcca07f677ab3877d778ff5123d8e7436e8a7321", func := "hectare/hectarelaw17.CommandBack", spec := "commandBack", inPlace := ["internal/bytealg.Compare"], unfollowed := true, recurses := true, apart := false }
def CommandBackSaid : Prop := commandBackRow.holds Try.pinned (OpenSpec.ofChange commandBackSpec)

/-- ITS FALSE NEIGHBOUR: 'it returns false'. Refute it at one input. -/
def commandBackWrong : ChangeSpec := { name := "commandBack", fn := fun _ => fun
  | [d1, d2, d3] => { results := [.lit (.bool false)], args := [d1, d2, d3] }
  | _ => none }
def CommandBackWrongFalsely : Prop := commandBackRow.holds Try.pinned (OpenSpec.ofChange commandBackWrong)

/-- 'hectarelaw17.CommandBounds': WHATEVER THE INPUT: true; the input reads as it did. -/
def commandBoundsSpec : ChangeSpec := { name := "commandBounds", fn := fun _ => fun
  | [] => { results := [.lit (.bool true)], args := [] }
  | _ => none }
def commandBoundsRow : OpenClaim := { program := "ytogafjlbpodgjaa", sum := "60e9eb25b1135367179884c5bcca07f677ab3877d778ff5123d8e7436e8a7321", func := "hectare/hectarelaw17.CommandBounds", spec := "commandBounds", inPlace := ["internal/bytealg.Compare"], unfollowed := true, recurses := true, apart := false }
def CommandBoundsSaid : Prop := commandBoundsRow.holds Try.pinned (OpenSpec.ofChange commandBoundsSpec)

/-- ITS FALSE NEIGHBOUR: 'it returns false'. Refute it at one input. -/
def commandBoundsWrong : ChangeSpec := { name := "commandBounds", fn := fun _ => fun
  | [] => { results := [.lit (.bool false)], args := [] }
  | _ => none }
def CommandBoundsWrongFalsely : Prop := commandBoundsRow.holds Try.pinned (OpenSpec.ofChange commandBoundsWrong)

/-- 'hectarelaw17.CommandAsks': WHATEVER THE INPUT: true; the input reads as it did. -/
def commandAsksSpec : ChangeSpec := { name := "commandAsks", fn := fun _ => fun
  | [d1, d2] => { results := [.lit (.bool true)], args := [d1, d2] }
  | _ => none }
def commandAsksRow : OpenClaim := { program := "ytogafjlbpodgjaa", sum := "60e9eb25b1135367179884c5bcca07f677ab3877d778ff5123d8e7436e8a7321", func := "hectare/hectarelaw17.CommandAsks", spec := "commandAsks", inPlace := ["internal/bytealg.Compare"], unfollowed := true, recurses := true, apart := false }
def CommandAsksSaid : Prop := commandAsksRow.holds Try.pinned (OpenSpec.ofChange commandAsksSpec)

/-- ITS FALSE NEIGHBOUR: 'it returns false'. Refute it at one input. -/
def commandAsksWrong : ChangeSpec := { name := "commandAsks", fn := fun _ => fun
  | [d1, d2] => { results := [.lit (.bool false)], args := [d1, d2] }
  | _ => none }
def CommandAsksWrongFalsely : Prop := commandAsksRow.holds Try.pinned (OpenSpec.ofChange commandAsksWrong)

/-- 'hectarelaw17.CommandMoves': WHATEVER THE INPUT: true; the input reads as it did. -/
def commandMovesSpec : ChangeSpec := { name := "commandMoves", fn := fun _ => fun
  | [d1, d2] => { results := [.lit (.bool true)], args := [d1, d2] }
  | _ => none }
def commandMovesRow : OpenClaim := { program := "ytogafjlbpodgjaa", sum := "60e9eb25b1135367179884c5bcca07f677ab3877d778ff5123d8e7436e8a7321", func := "hectare/hectarelaw17.CommandMoves", spec := "commandMoves", inPlace := ["internal/bytealg.Compare"], unfollowed := true, recurses := true, apart := false }
def CommandMovesSaid : Prop := commandMovesRow.holds Try.pinned (OpenSpec.ofChange commandMovesSpec)

/-- ITS FALSE NEIGHBOUR: 'it returns false'. Refute it at one input. -/
def commandMovesWrong : ChangeSpec := { name := "commandMoves", fn := fun _ => fun
  | [d1, d2] => { results := [.lit (.bool false)], args := [d1, d2] }
  | _ => none }
def CommandMovesWrongFalsely : Prop := commandMovesRow.holds Try.pinned (OpenSpec.ofChange commandMovesWrong)

/-- 'hectarelaw17.CommandKinds': WHATEVER THE INPUT: true; the input reads as it did. -/
def commandKindsSpec : ChangeSpec := { name := "commandKinds", fn := fun _ => fun
  | [d] => { results := [.lit (.bool true)], args := [d] }
  | _ => none }
def commandKindsRow : OpenClaim := { program := "ytogafjlbpodgjaa", sum := "60e9eb25b1135367179884c5bcca07f677ab3877d778ff5123d8e7436e8a7321", func := "hectare/hectarelaw17.CommandKinds", spec := "commandKinds", inPlace := ["internal/bytealg.Compare"], unfollowed := true, recurses := true, apart := false }
def CommandKindsSaid : Prop := commandKindsRow.holds Try.pinned (OpenSpec.ofChange commandKindsSpec)

/-- ITS FALSE NEIGHBOUR: 'it returns false'. Refute it at one input. -/
def commandKindsWrong : ChangeSpec := { name := "commandKinds", fn := fun _ => fun
  | [d] => { results := [.lit (.bool false)], args := [d] }
  | _ => none }
def CommandKindsWrongFalsely : Prop := commandKindsRow.holds Try.pinned (OpenSpec.ofChange commandKindsWrong)

/- THE SECOND FORM. 'bulk': how many values and letters a reading holds, each counted each time it is reached (what is shared counts as often as it is met; a slice's spare places count too). A statement '..UptoSaid' is the law's where the arguments, and the package variables that the reading takes, are together of bulk at most 1048576: NARROWER than '..Said'. Prove '..Said' where nothing that the law and all that it calls make is longer than what came in: it says more and counts as full. Else prove '..UptoSaid'. A law counts once. -/
mutual
def uptoBulk {H : Type} : DataW H → Nat
  | .lit (.string bytes) => bytes.length + 1
  | .lit _ => 1
  | .nil => 1
  | .ptr d => uptoBulk d + 1
  | .slice elems spare => uptoBulkAll elems + uptoBulkAll spare + 1
  | .agg parts => uptoBulkAll parts + 1
  | .iface _ d => uptoBulk d + 1
  | .map entries => uptoBulkEntries entries + 1
  | .held _ => 1
def uptoBulkAll {H : Type} : List (DataW H) → Nat
  | [] => 0
  | d :: r => uptoBulk d + uptoBulkAll r
def uptoBulkEntries {H : Type} : List (Lit × DataW H) → Nat
  | [] => 0
  | x :: r => uptoBulkEntry x + uptoBulkEntries r
def uptoBulkEntry {H : Type} : Lit × DataW H → Nat
  | (.string bytes, d) => bytes.length + uptoBulk d + 1
  | (_, d) => uptoBulk d + 1
 end
def uptoSmall : (H : Type) → List (DataW H) → Bool := fun _ ds => decide (uptoBulkAll ds ≤ 1048576)
def OpenSpec.upto (s : _root_.Go.ChangeSpec) : _root_.Go.OpenSpec := { _root_.Go.OpenSpec.ofChange s with cond := some uptoSmall }

/-- 'hectarelaw17.CommandRequests', WHERE WHAT IT READS IS OF BULK AT MOST 1048576: true; the input reads as it did. -/
def commandRequestsUptoRow : OpenClaim := { program := "ytogafjlbpodgjaa", sum := "60e9eb25b1135367179884c5bcca07f677ab3877d778ff5123d8e7436e8a7321", func := "hectare/hectarelaw17.CommandRequests", spec := "commandRequests", inPlace := ["internal/bytealg.Compare"], unfollowed := true, recurses := true, apart := false, narrowed := true }
def CommandRequestsUptoSaid : Prop := commandRequestsUptoRow.holds Try.pinned (OpenSpec.upto commandRequestsSpec)

/-- 'hectarelaw17.CommandMay', WHERE WHAT IT READS IS OF BULK AT MOST 1048576: true; the input reads as it did. -/
def commandMayUptoRow : OpenClaim := { program := "ytogafjlbpodgjaa", sum := "60e9eb25b1135367179884c5bcca07f677ab3877d778ff5123d8e7436e8a7321", func := "hectare/hectarelaw17.CommandMay", spec := "commandMay", inPlace := ["internal/bytealg.Compare"], unfollowed := true, recurses := true, apart := false, narrowed := true }
def CommandMayUptoSaid : Prop := commandMayUptoRow.holds Try.pinned (OpenSpec.upto commandMaySpec)

/-- 'hectarelaw17.CommandBack', WHERE WHAT IT READS IS OF BULK AT MOST 1048576: true; the input reads as it did. -/
def commandBackUptoRow : OpenClaim := { program := "ytogafjlbpodgjaa", sum := "60e9eb25b1135367179884c5bcca07f677ab3877d778ff5123d8e7436e8a7321", func := "hectare/hectarelaw17.CommandBack", spec := "commandBack", inPlace := ["internal/bytealg.Compare"], unfollowed := true, recurses := true, apart := false, narrowed := true }
def CommandBackUptoSaid : Prop := commandBackUptoRow.holds Try.pinned (OpenSpec.upto commandBackSpec)

/-- 'hectarelaw17.CommandBounds', WHERE WHAT IT READS IS OF BULK AT MOST 1048576: true; the input reads as it did. -/
def commandBoundsUptoRow : OpenClaim := { program := "ytogafjlbpodgjaa", sum := "60e9eb25b1135367179884c5bcca07f677ab3877d778ff5123d8e7436e8a7321", func := "hectare/hectarelaw17.CommandBounds", spec := "commandBounds", inPlace := ["internal/bytealg.Compare"], unfollowed := true, recurses := true, apart := false, narrowed := true }
def CommandBoundsUptoSaid : Prop := commandBoundsUptoRow.holds Try.pinned (OpenSpec.upto commandBoundsSpec)

/-- 'hectarelaw17.CommandAsks', WHERE WHAT IT READS IS OF BULK AT MOST 1048576: true; the input reads as it did. -/
def commandAsksUptoRow : OpenClaim := { program := "ytogafjlbpodgjaa", sum := "60e9eb25b1135367179884c5bcca07f677ab3877d778ff5123d8e7436e8a7321", func := "hectare/hectarelaw17.CommandAsks", spec := "commandAsks", inPlace := ["internal/bytealg.Compare"], unfollowed := true, recurses := true, apart := false, narrowed := true }
def CommandAsksUptoSaid : Prop := commandAsksUptoRow.holds Try.pinned (OpenSpec.upto commandAsksSpec)

/-- 'hectarelaw17.CommandMoves', WHERE WHAT IT READS IS OF BULK AT MOST 1048576: true; the input reads as it did. -/
def commandMovesUptoRow : OpenClaim := { program := "ytogafjlbpodgjaa", sum := "60e9eb25b1135367179884c5bcca07f677ab3877d778ff5123d8e7436e8a7321", func := "hectare/hectarelaw17.CommandMoves", spec := "commandMoves", inPlace := ["internal/bytealg.Compare"], unfollowed := true, recurses := true, apart := false, narrowed := true }
def CommandMovesUptoSaid : Prop := commandMovesUptoRow.holds Try.pinned (OpenSpec.upto commandMovesSpec)

/-- 'hectarelaw17.CommandKinds', WHERE WHAT IT READS IS OF BULK AT MOST 1048576: true; the input reads as it did. -/
def commandKindsUptoRow : OpenClaim := { program := "ytogafjlbpodgjaa", sum := "60e9eb25b1135367179884c5bcca07f677ab3877d778ff5123d8e7436e8a7321", func := "hectare/hectarelaw17.CommandKinds", spec := "commandKinds", inPlace := ["internal/bytealg.Compare"], unfollowed := true, recurses := true, apart := false, narrowed := true }
def CommandKindsUptoSaid : Prop := commandKindsUptoRow.holds Try.pinned (OpenSpec.upto commandKindsSpec)

end Rows
end Go.Proofs.Ytogafjlbpodgjaa
