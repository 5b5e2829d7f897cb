/-
  No cell of these rows narrows 'for every input' (looked for: loops, veiled, ifaces, maps, wideKeys, modest, calm, conditions, laid).
  DERIVED. THE GIVEN ROWS OF THIS SEAT. 8 by the template 'for every input the law returns true; each argument reads behind the call as it read before'; 0 by the template 'total and deterministic' (their statements: YtaidpdjlchnonaaTotals.lean).
  GIVEN WITH THE SEED: the statements are not yours to turn. If you find one false, say at which input.
  Laid BY PROGRAM, IN A SANDBOX (cutbox-rows.mjs): the forced cells as the released guide's own fill.sh prints them over the translation e3655b3def250ff7… (all of the seat's roots in one cut). By AI agents, Wed Nov 11 2026. No macro, syntax, notation, axiom, sorry.
-/
import Derived.Test.YtaidpdjlchnonaaChecked
import GoSem.Claim
import GoSem.ClaimJoined
import GoSem.ClaimMapViews
import Derived.JoinedTies
import Derived.KernelRfl
namespace Go.Proofs.Ytaidpdjlchnonaa
/- THE CELL 'sum', in the pinned program and in every row, IS THE sha256 OF THE DUMP (.gsa) THAT YtaidpdjlchnonaaProg.lean LOADS. Nothing in Lean hashes anything: it is a label: what it is worth is what the hold of that sum in a sandbox is worth. -/
noncomputable def Try.pinned : Pinned := { name := "ytaidpdjlchnonaa", sum := "e3655b3def250ff7f3aac6a677fab94931775437bf26c580ab114f70b39b0a0c", checked := Try.checked }
namespace Rows
def none {H : Type} : Left H := { results := [], args := [] }

/-- 'hectarelaw22.NetWrites': WHATEVER THE INPUT: true; the input reads as it did. -/
def netWritesSpec : ChangeSpec := { name := "netWrites", fn := fun _ => fun
  | [d] => { results := [.lit (.bool true)], args := [d] }
  | _ => none }
def netWritesRow : OpenClaim := { program := "ytaidpdjlchnonaa", sum := "e3655b3def250ff7f3aac6a677fab94931775437bf26c580ab114f70b39b0a0c", func := "hectare/hectarelaw22.NetWrites", spec := "netWrites", unfollowed := true, recurses := true, apart := false }
def NetWritesSaid : Prop := netWritesRow.holds Try.pinned (OpenSpec.ofChange netWritesSpec)

/-- ITS FALSE NEIGHBOUR: 'it returns false'. Refute it at one input. -/
def netWritesWrong : ChangeSpec := { name := "netWrites", fn := fun _ => fun
  | [d] => { results := [.lit (.bool false)], args := [d] }
  | _ => none }
def NetWritesWrongFalsely : Prop := netWritesRow.holds Try.pinned (OpenSpec.ofChange netWritesWrong)

/-- 'hectarelaw22.NetCounts': WHATEVER THE INPUT: true; the input reads as it did. -/
def netCountsSpec : ChangeSpec := { name := "netCounts", fn := fun _ => fun
  | [d] => { results := [.lit (.bool true)], args := [d] }
  | _ => none }
def netCountsRow : OpenClaim := { program := "ytaidpdjlchnonaa", sum := "e3655b3def250ff7f3aac6a677fab94931775437bf26c580ab114f70b39b0a0c", func := "hectare/hectarelaw22.NetCounts", spec := "netCounts", unfollowed := true, recurses := true, apart := false }
def NetCountsSaid : Prop := netCountsRow.holds Try.pinned (OpenSpec.ofChange netCountsSpec)

/-- ITS FALSE NEIGHBOUR: 'it returns false'. Refute it at one input. -/
def netCountsWrong : ChangeSpec := { name := "netCounts", fn := fun _ => fun
  | [d] => { results := [.lit (.bool false)], args := [d] }
  | _ => none }
def NetCountsWrongFalsely : Prop := netCountsRow.holds Try.pinned (OpenSpec.ofChange netCountsWrong)

/-- 'hectarelaw22.NetMay': WHATEVER THE INPUT: true; the input reads as it did. -/
def netMaySpec : ChangeSpec := { name := "netMay", fn := fun _ => fun
  | [d1, d2] => { results := [.lit (.bool true)], args := [d1, d2] }
  | _ => none }
def netMayRow : OpenClaim := { program := "ytaidpdjlchnonaa", sum := "e3655b3def250ff7f3aac6a677fab94931775437bf26c580ab114f70b39b0a0c", func := "hectare/hectarelaw22.NetMay", spec := "netMay", unfollowed := true, recurses := true, apart := false }
def NetMaySaid : Prop := netMayRow.holds Try.pinned (OpenSpec.ofChange netMaySpec)

/-- ITS FALSE NEIGHBOUR: 'it returns false'. Refute it at one input. -/
def netMayWrong : ChangeSpec := { name := "netMay", fn := fun _ => fun
  | [d1, d2] => { results := [.lit (.bool false)], args := [d1, d2] }
  | _ => none }
def NetMayWrongFalsely : Prop := netMayRow.holds Try.pinned (OpenSpec.ofChange netMayWrong)

/-- 'hectarelaw22.NetSteps': WHATEVER THE INPUT: true; the input reads as it did. -/
def netStepsSpec : ChangeSpec := { name := "netSteps", fn := fun _ => fun
  | [d1, d2, d3] => { results := [.lit (.bool true)], args := [d1, d2, d3] }
  | _ => none }
def netStepsRow : OpenClaim := { program := "ytaidpdjlchnonaa", sum := "e3655b3def250ff7f3aac6a677fab94931775437bf26c580ab114f70b39b0a0c", func := "hectare/hectarelaw22.NetSteps", spec := "netSteps", unfollowed := true, recurses := true, apart := false }
def NetStepsSaid : Prop := netStepsRow.holds Try.pinned (OpenSpec.ofChange netStepsSpec)

/-- ITS FALSE NEIGHBOUR: 'it returns false'. Refute it at one input. -/
def netStepsWrong : ChangeSpec := { name := "netSteps", fn := fun _ => fun
  | [d1, d2, d3] => { results := [.lit (.bool false)], args := [d1, d2, d3] }
  | _ => none }
def NetStepsWrongFalsely : Prop := netStepsRow.holds Try.pinned (OpenSpec.ofChange netStepsWrong)

/-- 'hectarelaw22.NetSame': WHATEVER THE INPUT: true; the input reads as it did. -/
def netSameSpec : ChangeSpec := { name := "netSame", fn := fun _ => fun
  | [d1, d2] => { results := [.lit (.bool true)], args := [d1, d2] }
  | _ => none }
def netSameRow : OpenClaim := { program := "ytaidpdjlchnonaa", sum := "e3655b3def250ff7f3aac6a677fab94931775437bf26c580ab114f70b39b0a0c", func := "hectare/hectarelaw22.NetSame", spec := "netSame", unfollowed := true, recurses := true, apart := false }
def NetSameSaid : Prop := netSameRow.holds Try.pinned (OpenSpec.ofChange netSameSpec)

/-- ITS FALSE NEIGHBOUR: 'it returns false'. Refute it at one input. -/
def netSameWrong : ChangeSpec := { name := "netSame", fn := fun _ => fun
  | [d1, d2] => { results := [.lit (.bool false)], args := [d1, d2] }
  | _ => none }
def NetSameWrongFalsely : Prop := netSameRow.holds Try.pinned (OpenSpec.ofChange netSameWrong)

/-- 'hectarelaw22.NetBounds': WHATEVER THE INPUT: true; the input reads as it did. -/
def netBoundsSpec : ChangeSpec := { name := "netBounds", fn := fun _ => fun
  | [] => { results := [.lit (.bool true)], args := [] }
  | _ => none }
def netBoundsRow : OpenClaim := { program := "ytaidpdjlchnonaa", sum := "e3655b3def250ff7f3aac6a677fab94931775437bf26c580ab114f70b39b0a0c", func := "hectare/hectarelaw22.NetBounds", spec := "netBounds", unfollowed := true, recurses := true, apart := false }
def NetBoundsSaid : Prop := netBoundsRow.holds Try.pinned (OpenSpec.ofChange netBoundsSpec)

/-- ITS FALSE NEIGHBOUR: 'it returns false'. Refute it at one input. -/
def netBoundsWrong : ChangeSpec := { name := "netBounds", fn := fun _ => fun
  | [] => { results := [.lit (.bool false)], args := [] }
  | _ => none }
def NetBoundsWrongFalsely : Prop := netBoundsRow.holds Try.pinned (OpenSpec.ofChange netBoundsWrong)

/-- 'hectarelaw22.NetReads': WHATEVER THE INPUT: true; the input reads as it did. -/
def netReadsSpec : ChangeSpec := { name := "netReads", fn := fun _ => fun
  | [d] => { results := [.lit (.bool true)], args := [d] }
  | _ => none }
def netReadsRow : OpenClaim := { program := "ytaidpdjlchnonaa", sum := "e3655b3def250ff7f3aac6a677fab94931775437bf26c580ab114f70b39b0a0c", func := "hectare/hectarelaw22.NetReads", spec := "netReads", unfollowed := true, recurses := true, apart := false }
def NetReadsSaid : Prop := netReadsRow.holds Try.pinned (OpenSpec.ofChange netReadsSpec)

/-- ITS FALSE NEIGHBOUR: 'it returns false'. Refute it at one input. -/
def netReadsWrong : ChangeSpec := { name := "netReads", fn := fun _ => fun
  | [d] => { results := [.lit (.bool false)], args := [d] }
  | _ => none }
def NetReadsWrongFalsely : Prop := netReadsRow.holds Try.pinned (OpenSpec.ofChange netReadsWrong)

/-- 'hectarelaw22.NetBack': WHATEVER THE INPUT: true; the input reads as it did. -/
def netBackSpec : ChangeSpec := { name := "netBack", fn := fun _ => fun
  | [d1, d2] => { results := [.lit (.bool true)], args := [d1, d2] }
  | _ => none }
def netBackRow : OpenClaim := { program := "ytaidpdjlchnonaa", sum := "e3655b3def250ff7f3aac6a677fab94931775437bf26c580ab114f70b39b0a0c", func := "hectare/hectarelaw22.NetBack", spec := "netBack", unfollowed := true, recurses := true, apart := false }
def NetBackSaid : Prop := netBackRow.holds Try.pinned (OpenSpec.ofChange netBackSpec)

/-- ITS FALSE NEIGHBOUR: 'it returns false'. Refute it at one input. -/
def netBackWrong : ChangeSpec := { name := "netBack", fn := fun _ => fun
  | [d1, d2] => { results := [.lit (.bool false)], args := [d1, d2] }
  | _ => none }
def NetBackWrongFalsely : Prop := netBackRow.holds Try.pinned (OpenSpec.ofChange netBackWrong)

/- THE SECOND FORM. 'bulk': how many values and letters a reading holds, each counted each time it is reached (what is shared counts as often as it is met; a slice's spare places count too). A statement '..UptoSaid' is the law's where the arguments, and the package variables that the reading takes, are together of bulk at most 1048576: NARROWER than '..Said'. Prove '..Said' where nothing that the law and all that it calls make is longer than what came in: it says more and counts as full. Else prove '..UptoSaid'. A law counts once. -/
mutual
def uptoBulk {H : Type} : DataW H → Nat
  | .lit (.string bytes) => bytes.length + 1
  | .lit _ => 1
  | .nil => 1
  | .ptr d => uptoBulk d + 1
  | .slice elems spare => uptoBulkAll elems + uptoBulkAll spare + 1
  | .agg parts => uptoBulkAll parts + 1
  | .iface _ d => uptoBulk d + 1
  | .map entries => uptoBulkEntries entries + 1
  | .held _ => 1
def uptoBulkAll {H : Type} : List (DataW H) → Nat
  | [] => 0
  | d :: r => uptoBulk d + uptoBulkAll r
def uptoBulkEntries {H : Type} : List (Lit × DataW H) → Nat
  | [] => 0
  | x :: r => uptoBulkEntry x + uptoBulkEntries r
def uptoBulkEntry {H : Type} : Lit × DataW H → Nat
  | (.string bytes, d) => bytes.length + uptoBulk d + 1
  | (_, d) => uptoBulk d + 1
 end
def uptoSmall : (H : Type) → List (DataW H) → Bool := fun _ ds => decide (uptoBulkAll ds ≤ 1048576)
def OpenSpec.upto (s : _root_.Go.ChangeSpec) : _root_.Go.OpenSpec := { _root_.Go.OpenSpec.ofChange s with cond := some uptoSmall }

/-- 'hectarelaw22.NetWrites', WHERE WHAT IT READS IS OF BULK AT MOST 1048576: true; the input reads as it did. -/
def netWritesUptoRow : OpenClaim := { program := "ytaidpdjlchnonaa", sum := "e3655b3def250ff7f3aac6a677fab94931775437bf26c580ab114f70b39b0a0c", func := "hectare/hectarelaw22.NetWrites", spec := "netWrites", unfollowed := true, recurses := true, apart := false, narrowed := true }
def NetWritesUptoSaid : Prop := netWritesUptoRow.holds Try.pinned (OpenSpec.upto netWritesSpec)

/-- 'hectarelaw22.NetCounts', WHERE WHAT IT READS IS OF BULK AT MOST 1048576: true; the input reads as it did. -/
def netCountsUptoRow : OpenClaim := { program := "ytaidpdjlchnonaa", sum := "e3655b3def250ff7f3aac6a677fab94931775437bf26c580ab114f70b39b0a0c", func := "hectare/hectarelaw22.NetCounts", spec := "netCounts", unfollowed := true, recurses := true, apart := false, narrowed := true }
def NetCountsUptoSaid : Prop := netCountsUptoRow.holds Try.pinned (OpenSpec.upto netCountsSpec)

/-- 'hectarelaw22.NetMay', WHERE WHAT IT READS IS OF BULK AT MOST 1048576: true; the input reads as it did. -/
def netMayUptoRow : OpenClaim := { program := "ytaidpdjlchnonaa", sum := "e3655b3def250ff7f3aac6a677fab94931775437bf26c580ab114f70b39b0a0c", func := "hectare/hectarelaw22.NetMay", spec := "netMay", unfollowed := true, recurses := true, apart := false, narrowed := true }
def NetMayUptoSaid : Prop := netMayUptoRow.holds Try.pinned (OpenSpec.upto netMaySpec)

/-- 'hectarelaw22.NetSteps', WHERE WHAT IT READS IS OF BULK AT MOST 1048576: true; the input reads as it did. -/
def netStepsUptoRow : OpenClaim := { program := "ytaidpdjlchnonaa", sum := "e3655b3def250ff7f3aac6a677fab94931775437bf26c580ab114f70b39b0a0c", func := "hectare/hectarelaw22.NetSteps", spec := "netSteps", unfollowed := true, recurses := true, apart := false, narrowed := true }
def NetStepsUptoSaid : Prop := netStepsUptoRow.holds Try.pinned (OpenSpec.upto netStepsSpec)

/-- 'hectarelaw22.NetSame', WHERE WHAT IT READS IS OF BULK AT MOST 1048576: true; the input reads as it did. -/
def netSameUptoRow : OpenClaim := { program := "ytaidpdjlchnonaa", sum := "e3655b3def250ff7f3aac6a677fab94931775437bf26c580ab114f70b39b0a0c", func := "hectare/hectarelaw22.NetSame", spec := "netSame", unfollowed := true, recurses := true, apart := false, narrowed := true }
def NetSameUptoSaid : Prop := netSameUptoRow.holds Try.pinned (OpenSpec.upto netSameSpec)

/-- 'hectarelaw22.NetBounds', WHERE WHAT IT READS IS OF BULK AT MOST 1048576: true; the input reads as it did. -/
def netBoundsUptoRow : OpenClaim := { program := "ytaidpdjlchnonaa", sum := "e3655b3def250ff7f3aac6a677fab94931775437bf26c580ab114f70b39b0a0c", func := "hectare/hectarelaw22.NetBounds", spec := "netBounds", unfollowed := true, recurses := true, apart := false, narrowed := true }
def NetBoundsUptoSaid : Prop := netBoundsUptoRow.holds Try.pinned (OpenSpec.upto netBoundsSpec)

/-- 'hectarelaw22.NetReads', WHERE WHAT IT READS IS OF BULK AT MOST 1048576: true; the input reads as it did. -/
def netReadsUptoRow : OpenClaim := { program := "ytaidpdjlchnonaa", sum := "e3655b3def250ff7f3aac6a677fab94931775437bf26c580ab114f70b39b0a0c", func := "hectare/hectarelaw22.NetReads", spec := "netReads", unfollowed := true, recurses := true, apart := false, narrowed := true }
def NetReadsUptoSaid : Prop := netReadsUptoRow.holds Try.pinned (OpenSpec.upto netReadsSpec)

/-- 'hectarelaw22.NetBack', WHERE WHAT IT READS IS OF BULK AT MOST 1048576: true; the input reads as it did. -/
def netBackUptoRow : OpenClaim := { program := "ytaidpdjlchnonaa", sum := "e3655b3def250ff7f3aac6a677fab94931775437bf26c580ab114f70b39b0a0c", func := "hectare/hectarelaw22.NetBack", spec := "netBack", unfollowed := true, recurses := true, apart := false, narrowed := true }
def NetBackUptoSaid : Prop := netBackUptoRow.holds Try.pinned (OpenSpec.upto netBackSpec)

end Rows
end Go.Proofs.Ytaidpdjlchnonaa
