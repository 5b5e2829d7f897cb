/-
  No cell of these rows narrows 'for every input' (looked for: loops, veiled, ifaces, maps, wideKeys, modest, calm, conditions, laid).
  DERIVED. THE GIVEN ROWS OF THIS SEAT. 7 by the template 'for every input the law returns true; each argument reads behind the call as it read before'; 0 by the template 'total and deterministic' (their statements: YtlhanmlpionomaaTotals.lean).
  GIVEN WITH THE SEED: the statements are not yours to turn. If you find one false, say at which input.
  Laid BY PROGRAM, IN A SANDBOX (cutbox-rows.mjs): the forced cells as the released guide's own fill.sh prints them over the translation 89acc64b8672a3cd… (all of the seat's roots in one cut). By AI agents, Wed Nov 11 2026. No macro, syntax, notation, axiom, sorry.
-/
import Derived.Test.YtlhanmlpionomaaChecked
import GoSem.Claim
import GoSem.ClaimJoined
import GoSem.ClaimMapViews
import Derived.JoinedTies
import Derived.KernelRfl
namespace Go.Proofs.Ytlhanmlpionomaa
/- THE CELL 'sum', in the pinned program and in every row, IS THE sha256 OF THE DUMP (.gsa) THAT YtlhanmlpionomaaProg.lean LOADS. Nothing in Lean hashes anything: it is a label: what it is worth is what the hold of that sum in a sandbox is worth. -/
noncomputable def Try.pinned : Pinned := { name := "ytlhanmlpionomaa", sum := "89acc64b8672a3cd079591dd67301d9338adf83d4d3d106a07e1b3759f9baefb", checked := Try.checked }
namespace Rows
def none {H : Type} : Left H := { results := [], args := [] }

/-- 'hectarelaw16.DedupLooks': WHATEVER THE INPUT: true; the input reads as it did. -/
def dedupLooksSpec : ChangeSpec := { name := "dedupLooks", fn := fun _ => fun
  | [d1, d2, d3] => { results := [.lit (.bool true)], args := [d1, d2, d3] }
  | _ => none }
def dedupLooksRow : OpenClaim := { program := "ytlhanmlpionomaa", sum := "89acc64b8672a3cd079591dd67301d9338adf83d4d3d106a07e1b3759f9baefb", func := "hectare/hectarelaw16.DedupLooks", spec := "dedupLooks", unfollowed := true, recurses := true, apart := false }
def DedupLooksSaid : Prop := dedupLooksRow.holds Try.pinned (OpenSpec.ofChange dedupLooksSpec)

/-- ITS FALSE NEIGHBOUR: 'it returns false'. Refute it at one input. -/
def dedupLooksWrong : ChangeSpec := { name := "dedupLooks", fn := fun _ => fun
  | [d1, d2, d3] => { results := [.lit (.bool false)], args := [d1, d2, d3] }
  | _ => none }
def DedupLooksWrongFalsely : Prop := dedupLooksRow.holds Try.pinned (OpenSpec.ofChange dedupLooksWrong)

/-- 'hectarelaw16.DedupTells': WHATEVER THE INPUT: true; the input reads as it did. -/
def dedupTellsSpec : ChangeSpec := { name := "dedupTells", fn := fun _ => fun
  | [d1, d2, d3] => { results := [.lit (.bool true)], args := [d1, d2, d3] }
  | _ => none }
def dedupTellsRow : OpenClaim := { program := "ytlhanmlpionomaa", sum := "89acc64b8672a3cd079591dd67301d9338adf83d4d3d106a07e1b3759f9baefb", func := "hectare/hectarelaw16.DedupTells", spec := "dedupTells", unfollowed := true, recurses := true, apart := false }
def DedupTellsSaid : Prop := dedupTellsRow.holds Try.pinned (OpenSpec.ofChange dedupTellsSpec)

/-- ITS FALSE NEIGHBOUR: 'it returns false'. Refute it at one input. -/
def dedupTellsWrong : ChangeSpec := { name := "dedupTells", fn := fun _ => fun
  | [d1, d2, d3] => { results := [.lit (.bool false)], args := [d1, d2, d3] }
  | _ => none }
def DedupTellsWrongFalsely : Prop := dedupTellsRow.holds Try.pinned (OpenSpec.ofChange dedupTellsWrong)

/-- 'hectarelaw16.DedupCopies': WHATEVER THE INPUT: true; the input reads as it did. -/
def dedupCopiesSpec : ChangeSpec := { name := "dedupCopies", fn := fun _ => fun
  | [d1, d2] => { results := [.lit (.bool true)], args := [d1, d2] }
  | _ => none }
def dedupCopiesRow : OpenClaim := { program := "ytlhanmlpionomaa", sum := "89acc64b8672a3cd079591dd67301d9338adf83d4d3d106a07e1b3759f9baefb", func := "hectare/hectarelaw16.DedupCopies", spec := "dedupCopies", unfollowed := true, recurses := true, apart := false }
def DedupCopiesSaid : Prop := dedupCopiesRow.holds Try.pinned (OpenSpec.ofChange dedupCopiesSpec)

/-- ITS FALSE NEIGHBOUR: 'it returns false'. Refute it at one input. -/
def dedupCopiesWrong : ChangeSpec := { name := "dedupCopies", fn := fun _ => fun
  | [d1, d2] => { results := [.lit (.bool false)], args := [d1, d2] }
  | _ => none }
def DedupCopiesWrongFalsely : Prop := dedupCopiesRow.holds Try.pinned (OpenSpec.ofChange dedupCopiesWrong)

/-- 'hectarelaw16.DedupNil': WHATEVER THE INPUT: true; the input reads as it did. -/
def dedupNilSpec : ChangeSpec := { name := "dedupNil", fn := fun _ => fun
  | [] => { results := [.lit (.bool true)], args := [] }
  | _ => none }
def dedupNilRow : OpenClaim := { program := "ytlhanmlpionomaa", sum := "89acc64b8672a3cd079591dd67301d9338adf83d4d3d106a07e1b3759f9baefb", func := "hectare/hectarelaw16.DedupNil", spec := "dedupNil", unfollowed := true, recurses := true, apart := false }
def DedupNilSaid : Prop := dedupNilRow.holds Try.pinned (OpenSpec.ofChange dedupNilSpec)

/-- ITS FALSE NEIGHBOUR: 'it returns false'. Refute it at one input. -/
def dedupNilWrong : ChangeSpec := { name := "dedupNil", fn := fun _ => fun
  | [] => { results := [.lit (.bool false)], args := [] }
  | _ => none }
def DedupNilWrongFalsely : Prop := dedupNilRow.holds Try.pinned (OpenSpec.ofChange dedupNilWrong)

/-- 'hectarelaw16.DedupAnswers': WHATEVER THE INPUT: true; the input reads as it did. -/
def dedupAnswersSpec : ChangeSpec := { name := "dedupAnswers", fn := fun _ => fun
  | [d1, d2] => { results := [.lit (.bool true)], args := [d1, d2] }
  | _ => none }
def dedupAnswersRow : OpenClaim := { program := "ytlhanmlpionomaa", sum := "89acc64b8672a3cd079591dd67301d9338adf83d4d3d106a07e1b3759f9baefb", func := "hectare/hectarelaw16.DedupAnswers", spec := "dedupAnswers", unfollowed := true, recurses := true, apart := false }
def DedupAnswersSaid : Prop := dedupAnswersRow.holds Try.pinned (OpenSpec.ofChange dedupAnswersSpec)

/-- ITS FALSE NEIGHBOUR: 'it returns false'. Refute it at one input. -/
def dedupAnswersWrong : ChangeSpec := { name := "dedupAnswers", fn := fun _ => fun
  | [d1, d2] => { results := [.lit (.bool false)], args := [d1, d2] }
  | _ => none }
def DedupAnswersWrongFalsely : Prop := dedupAnswersRow.holds Try.pinned (OpenSpec.ofChange dedupAnswersWrong)

/-- 'hectarelaw16.DedupReads': WHATEVER THE INPUT: true; the input reads as it did. -/
def dedupReadsSpec : ChangeSpec := { name := "dedupReads", fn := fun _ => fun
  | [d] => { results := [.lit (.bool true)], args := [d] }
  | _ => none }
def dedupReadsRow : OpenClaim := { program := "ytlhanmlpionomaa", sum := "89acc64b8672a3cd079591dd67301d9338adf83d4d3d106a07e1b3759f9baefb", func := "hectare/hectarelaw16.DedupReads", spec := "dedupReads", unfollowed := true, recurses := true, apart := false }
def DedupReadsSaid : Prop := dedupReadsRow.holds Try.pinned (OpenSpec.ofChange dedupReadsSpec)

/-- ITS FALSE NEIGHBOUR: 'it returns false'. Refute it at one input. -/
def dedupReadsWrong : ChangeSpec := { name := "dedupReads", fn := fun _ => fun
  | [d] => { results := [.lit (.bool false)], args := [d] }
  | _ => none }
def DedupReadsWrongFalsely : Prop := dedupReadsRow.holds Try.pinned (OpenSpec.ofChange dedupReadsWrong)

/-- 'hectarelaw16.DedupJoins': WHATEVER THE INPUT: true; the input reads as it did. -/
def dedupJoinsSpec : ChangeSpec := { name := "dedupJoins", fn := fun _ => fun
  | [d1, d2] => { results := [.lit (.bool true)], args := [d1, d2] }
  | _ => none }
def dedupJoinsRow : OpenClaim := { program := "ytlhanmlpionomaa", sum := "89acc64b8672a3cd079591dd67301d9338adf83d4d3d106a07e1b3759f9baefb", func := "hectare/hectarelaw16.DedupJoins", spec := "dedupJoins", unfollowed := true, recurses := true, apart := false }
def DedupJoinsSaid : Prop := dedupJoinsRow.holds Try.pinned (OpenSpec.ofChange dedupJoinsSpec)

/-- ITS FALSE NEIGHBOUR: 'it returns false'. Refute it at one input. -/
def dedupJoinsWrong : ChangeSpec := { name := "dedupJoins", fn := fun _ => fun
  | [d1, d2] => { results := [.lit (.bool false)], args := [d1, d2] }
  | _ => none }
def DedupJoinsWrongFalsely : Prop := dedupJoinsRow.holds Try.pinned (OpenSpec.ofChange dedupJoinsWrong)

/- THE SECOND FORM. 'bulk': how many values and letters a reading holds, each counted each time it is reached (what is shared counts as often as it is met; a slice's spare places count too). A statement '..UptoSaid' is the law's where the arguments, and the package variables that the reading takes, are together of bulk at most 1048576: NARROWER than '..Said'. Prove '..Said' where nothing that the law and all that it calls make is longer than what came in: it says more and counts as full. Else prove '..UptoSaid'. A law counts once. -/
mutual
def uptoBulk {H : Type} : DataW H → Nat
  | .lit (.string bytes) => bytes.length + 1
  | .lit _ => 1
  | .nil => 1
  | .ptr d => uptoBulk d + 1
  | .slice elems spare => uptoBulkAll elems + uptoBulkAll spare + 1
  | .agg parts => uptoBulkAll parts + 1
  | .iface _ d => uptoBulk d + 1
  | .map entries => uptoBulkEntries entries + 1
  | .held _ => 1
def uptoBulkAll {H : Type} : List (DataW H) → Nat
  | [] => 0
  | d :: r => uptoBulk d + uptoBulkAll r
def uptoBulkEntries {H : Type} : List (Lit × DataW H) → Nat
  | [] => 0
  | x :: r => uptoBulkEntry x + uptoBulkEntries r
def uptoBulkEntry {H : Type} : Lit × DataW H → Nat
  | (.string bytes, d) => bytes.length + uptoBulk d + 1
  | (_, d) => uptoBulk d + 1
 end
def uptoSmall : (H : Type) → List (DataW H) → Bool := fun _ ds => decide (uptoBulkAll ds ≤ 1048576)
def OpenSpec.upto (s : _root_.Go.ChangeSpec) : _root_.Go.OpenSpec := { _root_.Go.OpenSpec.ofChange s with cond := some uptoSmall }

/-- 'hectarelaw16.DedupLooks', WHERE WHAT IT READS IS OF BULK AT MOST 1048576: true; the input reads as it did. -/
def dedupLooksUptoRow : OpenClaim := { program := "ytlhanmlpionomaa", sum := "89acc64b8672a3cd079591dd67301d9338adf83d4d3d106a07e1b3759f9baefb", func := "hectare/hectarelaw16.DedupLooks", spec := "dedupLooks", unfollowed := true, recurses := true, apart := false, narrowed := true }
def DedupLooksUptoSaid : Prop := dedupLooksUptoRow.holds Try.pinned (OpenSpec.upto dedupLooksSpec)

/-- 'hectarelaw16.DedupTells', WHERE WHAT IT READS IS OF BULK AT MOST 1048576: true; the input reads as it did. -/
def dedupTellsUptoRow : OpenClaim := { program := "ytlhanmlpionomaa", sum := "89acc64b8672a3cd079591dd67301d9338adf83d4d3d106a07e1b3759f9baefb", func := "hectare/hectarelaw16.DedupTells", spec := "dedupTells", unfollowed := true, recurses := true, apart := false, narrowed := true }
def DedupTellsUptoSaid : Prop := dedupTellsUptoRow.holds Try.pinned (OpenSpec.upto dedupTellsSpec)

/-- 'hectarelaw16.DedupCopies', WHERE WHAT IT READS IS OF BULK AT MOST 1048576: true; the input reads as it did. -/
def dedupCopiesUptoRow : OpenClaim := { program := "ytlhanmlpionomaa", sum := "89acc64b8672a3cd079591dd67301d9338adf83d4d3d106a07e1b3759f9baefb", func := "hectare/hectarelaw16.DedupCopies", spec := "dedupCopies", unfollowed := true, recurses := true, apart := false, narrowed := true }
def DedupCopiesUptoSaid : Prop := dedupCopiesUptoRow.holds Try.pinned (OpenSpec.upto dedupCopiesSpec)

/-- 'hectarelaw16.DedupNil', WHERE WHAT IT READS IS OF BULK AT MOST 1048576: true; the input reads as it did. -/
def dedupNilUptoRow : OpenClaim := { program := "ytlhanmlpionomaa", sum := "89acc64b8672a3cd079591dd67301d9338adf83d4d3d106a07e1b3759f9baefb", func := "hectare/hectarelaw16.DedupNil", spec := "dedupNil", unfollowed := true, recurses := true, apart := false, narrowed := true }
def DedupNilUptoSaid : Prop := dedupNilUptoRow.holds Try.pinned (OpenSpec.upto dedupNilSpec)

/-- 'hectarelaw16.DedupAnswers', WHERE WHAT IT READS IS OF BULK AT MOST 1048576: true; the input reads as it did. -/
def dedupAnswersUptoRow : OpenClaim := { program := "ytlhanmlpionomaa", sum := "89acc64b8672a3cd079591dd67301d9338adf83d4d3d106a07e1b3759f9baefb", func := "hectare/hectarelaw16.DedupAnswers", spec := "dedupAnswers", unfollowed := true, recurses := true, apart := false, narrowed := true }
def DedupAnswersUptoSaid : Prop := dedupAnswersUptoRow.holds Try.pinned (OpenSpec.upto dedupAnswersSpec)

/-- 'hectarelaw16.DedupReads', WHERE WHAT IT READS IS OF BULK AT MOST 1048576: true; the input reads as it did. -/
def dedupReadsUptoRow : OpenClaim := { program := "ytlhanmlpionomaa", sum := "89acc64b8672a3cd079591dd67301d9338adf83d4d3d106a07e1b3759f9baefb", func := "hectare/hectarelaw16.DedupReads", spec := "dedupReads", unfollowed := true, recurses := true, apart := false, narrowed := true }
def DedupReadsUptoSaid : Prop := dedupReadsUptoRow.holds Try.pinned (OpenSpec.upto dedupReadsSpec)

/-- 'hectarelaw16.DedupJoins', WHERE WHAT IT READS IS OF BULK AT MOST 1048576: true; the input reads as it did. -/
def dedupJoinsUptoRow : OpenClaim := { program := "ytlhanmlpionomaa", sum := "89acc64b8672a3cd079591dd67301d9338adf83d4d3d106a07e1b3759f9baefb", func := "hectare/hectarelaw16.DedupJoins", spec := "dedupJoins", unfollowed := true, recurses := true, apart := false, narrowed := true }
def DedupJoinsUptoSaid : Prop := dedupJoinsUptoRow.holds Try.pinned (OpenSpec.upto dedupJoinsSpec)

end Rows
end Go.Proofs.Ytlhanmlpionomaa
