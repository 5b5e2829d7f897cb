/-
  No cell of these rows narrows 'for every input' (looked for: loops, veiled, ifaces, maps, wideKeys, modest, calm, conditions, laid).
  DERIVED. THE GIVEN ROWS OF THIS SEAT. 13 by the template 'for every input the law returns true; each argument reads behind the call as it read before'; 0 by the template 'total and deterministic' (their statements: YtkaangdfpjkjpaaTotals.lean).
  GIVEN WITH THE SEED: the statements are not yours to turn. If you find one false, say at which input.
  Laid BY PROGRAM, IN A SANDBOX (cutbox-rows.mjs): the forced cells as the released guide's own fill.sh prints them over the translation c0ad09ceaa5ec1a5… (all of the seat's roots in one cut). By AI agents, Wed Nov 11 2026. No macro, syntax, notation, axiom, sorry.
-/
import Derived.Test.YtkaangdfpjkjpaaChecked
import GoSem.Claim
import GoSem.ClaimJoined
import GoSem.ClaimMapViews
import Derived.JoinedTies
import Derived.KernelRfl
namespace Go.Proofs.Ytkaangdfpjkjpaa
/- THE CELL 'sum', in the pinned program and in every row, IS THE sha256 OF THE DUMP (.gsa) THAT YtkaangdfpjkjpaaProg.lean LOADS. Nothing in Lean hashes anything: it is a label: what it is worth is what the hold of that sum in a sandbox is worth. -/
noncomputable def Try.pinned : Pinned := { name := "ytkaangdfpjkjpaa", sum := "c0ad09ceaa5ec1a5315b96ba2bcea554ea87d23a21d5ea4094217a01f54ed0e7", checked := Try.checked }
namespace Rows
def none {H : Type} : Left H := { results := [], args := [] }

/-- 'hectarelaw15.RangesNew': WHATEVER THE INPUT: true; the input reads as it did. -/
def rangesNewSpec : ChangeSpec := { name := "rangesNew", fn := fun _ => fun
  | [d] => { results := [.lit (.bool true)], args := [d] }
  | _ => none }
def rangesNewRow : OpenClaim := { program := "ytkaangdfpjkjpaa", sum := "c0ad09ceaa5ec1a5315b96ba2bcea554ea87d23a21d5ea4094217a01f54ed0e7", func := "hectare/hectarelaw15.RangesNew", spec := "rangesNew", inPlace := ["internal/bytealg.Compare"], unfollowed := true, recurses := true, apart := false }
def RangesNewSaid : Prop := rangesNewRow.holds Try.pinned (OpenSpec.ofChange rangesNewSpec)

/-- ITS FALSE NEIGHBOUR: 'it returns false'. Refute it at one input. -/
def rangesNewWrong : ChangeSpec := { name := "rangesNew", fn := fun _ => fun
  | [d] => { results := [.lit (.bool false)], args := [d] }
  | _ => none }
def RangesNewWrongFalsely : Prop := rangesNewRow.holds Try.pinned (OpenSpec.ofChange rangesNewWrong)

/-- 'hectarelaw15.RangesMay': WHATEVER THE INPUT: true; the input reads as it did. -/
def rangesMaySpec : ChangeSpec := { name := "rangesMay", fn := fun _ => fun
  | [d] => { results := [.lit (.bool true)], args := [d] }
  | _ => none }
def rangesMayRow : OpenClaim := { program := "ytkaangdfpjkjpaa", sum := "c0ad09ceaa5ec1a5315b96ba2bcea554ea87d23a21d5ea4094217a01f54ed0e7", func := "hectare/hectarelaw15.RangesMay", spec := "rangesMay", inPlace := ["internal/bytealg.Compare"], unfollowed := true, recurses := true, apart := false }
def RangesMaySaid : Prop := rangesMayRow.holds Try.pinned (OpenSpec.ofChange rangesMaySpec)

/-- ITS FALSE NEIGHBOUR: 'it returns false'. Refute it at one input. -/
def rangesMayWrong : ChangeSpec := { name := "rangesMay", fn := fun _ => fun
  | [d] => { results := [.lit (.bool false)], args := [d] }
  | _ => none }
def RangesMayWrongFalsely : Prop := rangesMayRow.holds Try.pinned (OpenSpec.ofChange rangesMayWrong)

/-- 'hectarelaw15.RangesFind': WHATEVER THE INPUT: true; the input reads as it did. -/
def rangesFindSpec : ChangeSpec := { name := "rangesFind", fn := fun _ => fun
  | [d1, d2] => { results := [.lit (.bool true)], args := [d1, d2] }
  | _ => none }
def rangesFindRow : OpenClaim := { program := "ytkaangdfpjkjpaa", sum := "c0ad09ceaa5ec1a5315b96ba2bcea554ea87d23a21d5ea4094217a01f54ed0e7", func := "hectare/hectarelaw15.RangesFind", spec := "rangesFind", inPlace := ["internal/bytealg.Compare"], unfollowed := true, recurses := true, apart := false }
def RangesFindSaid : Prop := rangesFindRow.holds Try.pinned (OpenSpec.ofChange rangesFindSpec)

/-- ITS FALSE NEIGHBOUR: 'it returns false'. Refute it at one input. -/
def rangesFindWrong : ChangeSpec := { name := "rangesFind", fn := fun _ => fun
  | [d1, d2] => { results := [.lit (.bool false)], args := [d1, d2] }
  | _ => none }
def RangesFindWrongFalsely : Prop := rangesFindRow.holds Try.pinned (OpenSpec.ofChange rangesFindWrong)

/-- 'hectarelaw15.RangesHas': WHATEVER THE INPUT: true; the input reads as it did. -/
def rangesHasSpec : ChangeSpec := { name := "rangesHas", fn := fun _ => fun
  | [d1, d2] => { results := [.lit (.bool true)], args := [d1, d2] }
  | _ => none }
def rangesHasRow : OpenClaim := { program := "ytkaangdfpjkjpaa", sum := "c0ad09ceaa5ec1a5315b96ba2bcea554ea87d23a21d5ea4094217a01f54ed0e7", func := "hectare/hectarelaw15.RangesHas", spec := "rangesHas", inPlace := ["internal/bytealg.Compare"], unfollowed := true, recurses := true, apart := false }
def RangesHasSaid : Prop := rangesHasRow.holds Try.pinned (OpenSpec.ofChange rangesHasSpec)

/-- ITS FALSE NEIGHBOUR: 'it returns false'. Refute it at one input. -/
def rangesHasWrong : ChangeSpec := { name := "rangesHas", fn := fun _ => fun
  | [d1, d2] => { results := [.lit (.bool false)], args := [d1, d2] }
  | _ => none }
def RangesHasWrongFalsely : Prop := rangesHasRow.holds Try.pinned (OpenSpec.ofChange rangesHasWrong)

/-- 'hectarelaw15.RangesSplit': WHATEVER THE INPUT: true; the input reads as it did. -/
def rangesSplitSpec : ChangeSpec := { name := "rangesSplit", fn := fun _ => fun
  | [d1, d2] => { results := [.lit (.bool true)], args := [d1, d2] }
  | _ => none }
def rangesSplitRow : OpenClaim := { program := "ytkaangdfpjkjpaa", sum := "c0ad09ceaa5ec1a5315b96ba2bcea554ea87d23a21d5ea4094217a01f54ed0e7", func := "hectare/hectarelaw15.RangesSplit", spec := "rangesSplit", inPlace := ["internal/bytealg.Compare"], unfollowed := true, recurses := true, apart := false }
def RangesSplitSaid : Prop := rangesSplitRow.holds Try.pinned (OpenSpec.ofChange rangesSplitSpec)

/-- ITS FALSE NEIGHBOUR: 'it returns false'. Refute it at one input. -/
def rangesSplitWrong : ChangeSpec := { name := "rangesSplit", fn := fun _ => fun
  | [d1, d2] => { results := [.lit (.bool false)], args := [d1, d2] }
  | _ => none }
def RangesSplitWrongFalsely : Prop := rangesSplitRow.holds Try.pinned (OpenSpec.ofChange rangesSplitWrong)

/-- 'hectarelaw15.RangesUnion': WHATEVER THE INPUT: true; the input reads as it did. -/
def rangesUnionSpec : ChangeSpec := { name := "rangesUnion", fn := fun _ => fun
  | [d1, d2] => { results := [.lit (.bool true)], args := [d1, d2] }
  | _ => none }
def rangesUnionRow : OpenClaim := { program := "ytkaangdfpjkjpaa", sum := "c0ad09ceaa5ec1a5315b96ba2bcea554ea87d23a21d5ea4094217a01f54ed0e7", func := "hectare/hectarelaw15.RangesUnion", spec := "rangesUnion", inPlace := ["internal/bytealg.Compare"], unfollowed := true, recurses := true, apart := false }
def RangesUnionSaid : Prop := rangesUnionRow.holds Try.pinned (OpenSpec.ofChange rangesUnionSpec)

/-- ITS FALSE NEIGHBOUR: 'it returns false'. Refute it at one input. -/
def rangesUnionWrong : ChangeSpec := { name := "rangesUnion", fn := fun _ => fun
  | [d1, d2] => { results := [.lit (.bool false)], args := [d1, d2] }
  | _ => none }
def RangesUnionWrongFalsely : Prop := rangesUnionRow.holds Try.pinned (OpenSpec.ofChange rangesUnionWrong)

/-- 'hectarelaw15.RangesGive': WHATEVER THE INPUT: true; the input reads as it did. -/
def rangesGiveSpec : ChangeSpec := { name := "rangesGive", fn := fun _ => fun
  | [d1, d2, d3] => { results := [.lit (.bool true)], args := [d1, d2, d3] }
  | _ => none }
def rangesGiveRow : OpenClaim := { program := "ytkaangdfpjkjpaa", sum := "c0ad09ceaa5ec1a5315b96ba2bcea554ea87d23a21d5ea4094217a01f54ed0e7", func := "hectare/hectarelaw15.RangesGive", spec := "rangesGive", inPlace := ["internal/bytealg.Compare"], unfollowed := true, recurses := true, apart := false }
def RangesGiveSaid : Prop := rangesGiveRow.holds Try.pinned (OpenSpec.ofChange rangesGiveSpec)

/-- ITS FALSE NEIGHBOUR: 'it returns false'. Refute it at one input. -/
def rangesGiveWrong : ChangeSpec := { name := "rangesGive", fn := fun _ => fun
  | [d1, d2, d3] => { results := [.lit (.bool false)], args := [d1, d2, d3] }
  | _ => none }
def RangesGiveWrongFalsely : Prop := rangesGiveRow.holds Try.pinned (OpenSpec.ofChange rangesGiveWrong)

/-- 'hectarelaw15.RangesMeet': WHATEVER THE INPUT: true; the input reads as it did. -/
def rangesMeetSpec : ChangeSpec := { name := "rangesMeet", fn := fun _ => fun
  | [d1, d2] => { results := [.lit (.bool true)], args := [d1, d2] }
  | _ => none }
def rangesMeetRow : OpenClaim := { program := "ytkaangdfpjkjpaa", sum := "c0ad09ceaa5ec1a5315b96ba2bcea554ea87d23a21d5ea4094217a01f54ed0e7", func := "hectare/hectarelaw15.RangesMeet", spec := "rangesMeet", inPlace := ["internal/bytealg.Compare"], unfollowed := true, recurses := true, apart := false }
def RangesMeetSaid : Prop := rangesMeetRow.holds Try.pinned (OpenSpec.ofChange rangesMeetSpec)

/-- ITS FALSE NEIGHBOUR: 'it returns false'. Refute it at one input. -/
def rangesMeetWrong : ChangeSpec := { name := "rangesMeet", fn := fun _ => fun
  | [d1, d2] => { results := [.lit (.bool false)], args := [d1, d2] }
  | _ => none }
def RangesMeetWrongFalsely : Prop := rangesMeetRow.holds Try.pinned (OpenSpec.ofChange rangesMeetWrong)

/-- 'hectarelaw15.RangesBounds': WHATEVER THE INPUT: true; the input reads as it did. -/
def rangesBoundsSpec : ChangeSpec := { name := "rangesBounds", fn := fun _ => fun
  | [] => { results := [.lit (.bool true)], args := [] }
  | _ => none }
def rangesBoundsRow : OpenClaim := { program := "ytkaangdfpjkjpaa", sum := "c0ad09ceaa5ec1a5315b96ba2bcea554ea87d23a21d5ea4094217a01f54ed0e7", func := "hectare/hectarelaw15.RangesBounds", spec := "rangesBounds", inPlace := ["internal/bytealg.Compare"], unfollowed := true, recurses := true, apart := false }
def RangesBoundsSaid : Prop := rangesBoundsRow.holds Try.pinned (OpenSpec.ofChange rangesBoundsSpec)

/-- ITS FALSE NEIGHBOUR: 'it returns false'. Refute it at one input. -/
def rangesBoundsWrong : ChangeSpec := { name := "rangesBounds", fn := fun _ => fun
  | [] => { results := [.lit (.bool false)], args := [] }
  | _ => none }
def RangesBoundsWrongFalsely : Prop := rangesBoundsRow.holds Try.pinned (OpenSpec.ofChange rangesBoundsWrong)

/-- 'hectarelaw15.RangesOf': WHATEVER THE INPUT: true; the input reads as it did. -/
def rangesOfSpec : ChangeSpec := { name := "rangesOf", fn := fun _ => fun
  | [d1, d2, d3] => { results := [.lit (.bool true)], args := [d1, d2, d3] }
  | _ => none }
def rangesOfRow : OpenClaim := { program := "ytkaangdfpjkjpaa", sum := "c0ad09ceaa5ec1a5315b96ba2bcea554ea87d23a21d5ea4094217a01f54ed0e7", func := "hectare/hectarelaw15.RangesOf", spec := "rangesOf", inPlace := ["internal/bytealg.Compare"], unfollowed := true, recurses := true, apart := false }
def RangesOfSaid : Prop := rangesOfRow.holds Try.pinned (OpenSpec.ofChange rangesOfSpec)

/-- ITS FALSE NEIGHBOUR: 'it returns false'. Refute it at one input. -/
def rangesOfWrong : ChangeSpec := { name := "rangesOf", fn := fun _ => fun
  | [d1, d2, d3] => { results := [.lit (.bool false)], args := [d1, d2, d3] }
  | _ => none }
def RangesOfWrongFalsely : Prop := rangesOfRow.holds Try.pinned (OpenSpec.ofChange rangesOfWrong)

/-- 'hectarelaw15.RangesWrites': WHATEVER THE INPUT: true; the input reads as it did. -/
def rangesWritesSpec : ChangeSpec := { name := "rangesWrites", fn := fun _ => fun
  | [d] => { results := [.lit (.bool true)], args := [d] }
  | _ => none }
def rangesWritesRow : OpenClaim := { program := "ytkaangdfpjkjpaa", sum := "c0ad09ceaa5ec1a5315b96ba2bcea554ea87d23a21d5ea4094217a01f54ed0e7", func := "hectare/hectarelaw15.RangesWrites", spec := "rangesWrites", inPlace := ["internal/bytealg.Compare"], unfollowed := true, recurses := true, apart := false }
def RangesWritesSaid : Prop := rangesWritesRow.holds Try.pinned (OpenSpec.ofChange rangesWritesSpec)

/-- ITS FALSE NEIGHBOUR: 'it returns false'. Refute it at one input. -/
def rangesWritesWrong : ChangeSpec := { name := "rangesWrites", fn := fun _ => fun
  | [d] => { results := [.lit (.bool false)], args := [d] }
  | _ => none }
def RangesWritesWrongFalsely : Prop := rangesWritesRow.holds Try.pinned (OpenSpec.ofChange rangesWritesWrong)

/-- 'hectarelaw15.RangesReads': WHATEVER THE INPUT: true; the input reads as it did. -/
def rangesReadsSpec : ChangeSpec := { name := "rangesReads", fn := fun _ => fun
  | [d] => { results := [.lit (.bool true)], args := [d] }
  | _ => none }
def rangesReadsRow : OpenClaim := { program := "ytkaangdfpjkjpaa", sum := "c0ad09ceaa5ec1a5315b96ba2bcea554ea87d23a21d5ea4094217a01f54ed0e7", func := "hectare/hectarelaw15.RangesReads", spec := "rangesReads", inPlace := ["internal/bytealg.Compare"], unfollowed := true, recurses := true, apart := false }
def RangesReadsSaid : Prop := rangesReadsRow.holds Try.pinned (OpenSpec.ofChange rangesReadsSpec)

/-- ITS FALSE NEIGHBOUR: 'it returns false'. Refute it at one input. -/
def rangesReadsWrong : ChangeSpec := { name := "rangesReads", fn := fun _ => fun
  | [d] => { results := [.lit (.bool false)], args := [d] }
  | _ => none }
def RangesReadsWrongFalsely : Prop := rangesReadsRow.holds Try.pinned (OpenSpec.ofChange rangesReadsWrong)

/-- 'hectarelaw15.RangesOne': WHATEVER THE INPUT: true; the input reads as it did. -/
def rangesOneSpec : ChangeSpec := { name := "rangesOne", fn := fun _ => fun
  | [d1, d2, d3] => { results := [.lit (.bool true)], args := [d1, d2, d3] }
  | _ => none }
def rangesOneRow : OpenClaim := { program := "ytkaangdfpjkjpaa", sum := "c0ad09ceaa5ec1a5315b96ba2bcea554ea87d23a21d5ea4094217a01f54ed0e7", func := "hectare/hectarelaw15.RangesOne", spec := "rangesOne", inPlace := ["internal/bytealg.Compare"], unfollowed := true, recurses := true, apart := false }
def RangesOneSaid : Prop := rangesOneRow.holds Try.pinned (OpenSpec.ofChange rangesOneSpec)

/-- ITS FALSE NEIGHBOUR: 'it returns false'. Refute it at one input. -/
def rangesOneWrong : ChangeSpec := { name := "rangesOne", fn := fun _ => fun
  | [d1, d2, d3] => { results := [.lit (.bool false)], args := [d1, d2, d3] }
  | _ => none }
def RangesOneWrongFalsely : Prop := rangesOneRow.holds Try.pinned (OpenSpec.ofChange rangesOneWrong)

/- THE SECOND FORM. 'bulk': how many values and letters a reading holds, each counted each time it is reached (what is shared counts as often as it is met; a slice's spare places count too). A statement '..UptoSaid' is the law's where the arguments, and the package variables that the reading takes, are together of bulk at most 1048576: NARROWER than '..Said'. Prove '..Said' where nothing that the law and all that it calls make is longer than what came in: it says more and counts as full. Else prove '..UptoSaid'. A law counts once. -/
mutual
def uptoBulk {H : Type} : DataW H → Nat
  | .lit (.string bytes) => bytes.length + 1
  | .lit _ => 1
  | .nil => 1
  | .ptr d => uptoBulk d + 1
  | .slice elems spare => uptoBulkAll elems + uptoBulkAll spare + 1
  | .agg parts => uptoBulkAll parts + 1
  | .iface _ d => uptoBulk d + 1
  | .map entries => uptoBulkEntries entries + 1
  | .held _ => 1
def uptoBulkAll {H : Type} : List (DataW H) → Nat
  | [] => 0
  | d :: r => uptoBulk d + uptoBulkAll r
def uptoBulkEntries {H : Type} : List (Lit × DataW H) → Nat
  | [] => 0
  | x :: r => uptoBulkEntry x + uptoBulkEntries r
def uptoBulkEntry {H : Type} : Lit × DataW H → Nat
  | (.string bytes, d) => bytes.length + uptoBulk d + 1
  | (_, d) => uptoBulk d + 1
 end
def uptoSmall : (H : Type) → List (DataW H) → Bool := fun _ ds => decide (uptoBulkAll ds ≤ 1048576)
def OpenSpec.upto (s : _root_.Go.ChangeSpec) : _root_.Go.OpenSpec := { _root_.Go.OpenSpec.ofChange s with cond := some uptoSmall }

/-- 'hectarelaw15.RangesNew', WHERE WHAT IT READS IS OF BULK AT MOST 1048576: true; the input reads as it did. -/
def rangesNewUptoRow : OpenClaim := { program := "ytkaangdfpjkjpaa", sum := "c0ad09ceaa5ec1a5315b96ba2bcea554ea87d23a21d5ea4094217a01f54ed0e7", func := "hectare/hectarelaw15.RangesNew", spec := "rangesNew", inPlace := ["internal/bytealg.Compare"], unfollowed := true, recurses := true, apart := false, narrowed := true }
def RangesNewUptoSaid : Prop := rangesNewUptoRow.holds Try.pinned (OpenSpec.upto rangesNewSpec)

/-- 'hectarelaw15.RangesMay', WHERE WHAT IT READS IS OF BULK AT MOST 1048576: true; the input reads as it did. -/
def rangesMayUptoRow : OpenClaim := { program := "ytkaangdfpjkjpaa", sum := "c0ad09ceaa5ec1a5315b96ba2bcea554ea87d23a21d5ea4094217a01f54ed0e7", func := "hectare/hectarelaw15.RangesMay", spec := "rangesMay", inPlace := ["internal/bytealg.Compare"], unfollowed := true, recurses := true, apart := false, narrowed := true }
def RangesMayUptoSaid : Prop := rangesMayUptoRow.holds Try.pinned (OpenSpec.upto rangesMaySpec)

/-- 'hectarelaw15.RangesFind', WHERE WHAT IT READS IS OF BULK AT MOST 1048576: true; the input reads as it did. -/
def rangesFindUptoRow : OpenClaim := { program := "ytkaangdfpjkjpaa", sum := "c0ad09ceaa5ec1a5315b96ba2bcea554ea87d23a21d5ea4094217a01f54ed0e7", func := "hectare/hectarelaw15.RangesFind", spec := "rangesFind", inPlace := ["internal/bytealg.Compare"], unfollowed := true, recurses := true, apart := false, narrowed := true }
def RangesFindUptoSaid : Prop := rangesFindUptoRow.holds Try.pinned (OpenSpec.upto rangesFindSpec)

/-- 'hectarelaw15.RangesHas', WHERE WHAT IT READS IS OF BULK AT MOST 1048576: true; the input reads as it did. -/
def rangesHasUptoRow : OpenClaim := { program := "ytkaangdfpjkjpaa", sum := "c0ad09ceaa5ec1a5315b96ba2bcea554ea87d23a21d5ea4094217a01f54ed0e7", func := "hectare/hectarelaw15.RangesHas", spec := "rangesHas", inPlace := ["internal/bytealg.Compare"], unfollowed := true, recurses := true, apart := false, narrowed := true }
def RangesHasUptoSaid : Prop := rangesHasUptoRow.holds Try.pinned (OpenSpec.upto rangesHasSpec)

/-- 'hectarelaw15.RangesSplit', WHERE WHAT IT READS IS OF BULK AT MOST 1048576: true; the input reads as it did. -/
def rangesSplitUptoRow : OpenClaim := { program := "ytkaangdfpjkjpaa", sum := "c0ad09ceaa5ec1a5315b96ba2bcea554ea87d23a21d5ea4094217a01f54ed0e7", func := "hectare/hectarelaw15.RangesSplit", spec := "rangesSplit", inPlace := ["internal/bytealg.Compare"], unfollowed := true, recurses := true, apart := false, narrowed := true }
def RangesSplitUptoSaid : Prop := rangesSplitUptoRow.holds Try.pinned (OpenSpec.upto rangesSplitSpec)

/-- 'hectarelaw15.RangesUnion', WHERE WHAT IT READS IS OF BULK AT MOST 1048576: true; the input reads as it did. -/
def rangesUnionUptoRow : OpenClaim := { program := "ytkaangdfpjkjpaa", sum := "c0ad09ceaa5ec1a5315b96ba2bcea554ea87d23a21d5ea4094217a01f54ed0e7", func := "hectare/hectarelaw15.RangesUnion", spec := "rangesUnion", inPlace := ["internal/bytealg.Compare"], unfollowed := true, recurses := true, apart := false, narrowed := true }
def RangesUnionUptoSaid : Prop := rangesUnionUptoRow.holds Try.pinned (OpenSpec.upto rangesUnionSpec)

/-- 'hectarelaw15.RangesGive', WHERE WHAT IT READS IS OF BULK AT MOST 1048576: true; the input reads as it did. -/
def rangesGiveUptoRow : OpenClaim := { program := "ytkaangdfpjkjpaa", sum := "c0ad09ceaa5ec1a5315b96ba2bcea554ea87d23a21d5ea4094217a01f54ed0e7", func := "hectare/hectarelaw15.RangesGive", spec := "rangesGive", inPlace := ["internal/bytealg.Compare"], unfollowed := true, recurses := true, apart := false, narrowed := true }
def RangesGiveUptoSaid : Prop := rangesGiveUptoRow.holds Try.pinned (OpenSpec.upto rangesGiveSpec)

/-- 'hectarelaw15.RangesMeet', WHERE WHAT IT READS IS OF BULK AT MOST 1048576: true; the input reads as it did. -/
def rangesMeetUptoRow : OpenClaim := { program := "ytkaangdfpjkjpaa", sum := "c0ad09ceaa5ec1a5315b96ba2bcea554ea87d23a21d5ea4094217a01f54ed0e7", func := "hectare/hectarelaw15.RangesMeet", spec := "rangesMeet", inPlace := ["internal/bytealg.Compare"], unfollowed := true, recurses := true, apart := false, narrowed := true }
def RangesMeetUptoSaid : Prop := rangesMeetUptoRow.holds Try.pinned (OpenSpec.upto rangesMeetSpec)

/-- 'hectarelaw15.RangesBounds', WHERE WHAT IT READS IS OF BULK AT MOST 1048576: true; the input reads as it did. -/
def rangesBoundsUptoRow : OpenClaim := { program := "ytkaangdfpjkjpaa", sum := "c0ad09ceaa5ec1a5315b96ba2bcea554ea87d23a21d5ea4094217a01f54ed0e7", func := "hectare/hectarelaw15.RangesBounds", spec := "rangesBounds", inPlace := ["internal/bytealg.Compare"], unfollowed := true, recurses := true, apart := false, narrowed := true }
def RangesBoundsUptoSaid : Prop := rangesBoundsUptoRow.holds Try.pinned (OpenSpec.upto rangesBoundsSpec)

/-- 'hectarelaw15.RangesOf', WHERE WHAT IT READS IS OF BULK AT MOST 1048576: true; the input reads as it did. -/
def rangesOfUptoRow : OpenClaim := { program := "ytkaangdfpjkjpaa", sum := "c0ad09ceaa5ec1a5315b96ba2bcea554ea87d23a21d5ea4094217a01f54ed0e7", func := "hectare/hectarelaw15.RangesOf", spec := "rangesOf", inPlace := ["internal/bytealg.Compare"], unfollowed := true, recurses := true, apart := false, narrowed := true }
def RangesOfUptoSaid : Prop := rangesOfUptoRow.holds Try.pinned (OpenSpec.upto rangesOfSpec)

/-- 'hectarelaw15.RangesWrites', WHERE WHAT IT READS IS OF BULK AT MOST 1048576: true; the input reads as it did. -/
def rangesWritesUptoRow : OpenClaim := { program := "ytkaangdfpjkjpaa", sum := "c0ad09ceaa5ec1a5315b96ba2bcea554ea87d23a21d5ea4094217a01f54ed0e7", func := "hectare/hectarelaw15.RangesWrites", spec := "rangesWrites", inPlace := ["internal/bytealg.Compare"], unfollowed := true, recurses := true, apart := false, narrowed := true }
def RangesWritesUptoSaid : Prop := rangesWritesUptoRow.holds Try.pinned (OpenSpec.upto rangesWritesSpec)

/-- 'hectarelaw15.RangesReads', WHERE WHAT IT READS IS OF BULK AT MOST 1048576: true; the input reads as it did. -/
def rangesReadsUptoRow : OpenClaim := { program := "ytkaangdfpjkjpaa", sum := "c0ad09ceaa5ec1a5315b96ba2bcea554ea87d23a21d5ea4094217a01f54ed0e7", func := "hectare/hectarelaw15.RangesReads", spec := "rangesReads", inPlace := ["internal/bytealg.Compare"], unfollowed := true, recurses := true, apart := false, narrowed := true }
def RangesReadsUptoSaid : Prop := rangesReadsUptoRow.holds Try.pinned (OpenSpec.upto rangesReadsSpec)

/-- 'hectarelaw15.RangesOne', WHERE WHAT IT READS IS OF BULK AT MOST 1048576: true; the input reads as it did. -/
def rangesOneUptoRow : OpenClaim := { program := "ytkaangdfpjkjpaa", sum := "c0ad09ceaa5ec1a5315b96ba2bcea554ea87d23a21d5ea4094217a01f54ed0e7", func := "hectare/hectarelaw15.RangesOne", spec := "rangesOne", inPlace := ["internal/bytealg.Compare"], unfollowed := true, recurses := true, apart := false, narrowed := true }
def RangesOneUptoSaid : Prop := rangesOneUptoRow.holds Try.pinned (OpenSpec.upto rangesOneSpec)

end Rows
end Go.Proofs.Ytkaangdfpjkjpaa
