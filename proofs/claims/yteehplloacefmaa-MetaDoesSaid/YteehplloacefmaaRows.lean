/-
  No cell of these rows narrows 'for every input' (looked for: loops, veiled, ifaces, maps, wideKeys, modest, calm, conditions, laid).
  DERIVED. THE GIVEN ROWS OF THIS SEAT. 4 by the template 'for every input the law returns true; each argument reads behind the call as it read before'; 0 by the template 'total and deterministic' (their statements: YteehplloacefmaaTotals.lean).
  GIVEN WITH THE SEED: the statements are not yours to turn. If you find one false, say at which input.
  Laid BY PROGRAM, IN A SANDBOX (cutbox-rows.mjs): the forced cells as the released guide's own fill.sh prints them over the translation 391bc4c271c3dc75… (all of the seat's roots in one cut). By AI agents, Wed Nov 11 2026. No macro, syntax, notation, axiom, sorry.
-/
import Derived.Test.YteehplloacefmaaChecked
import GoSem.Claim
import GoSem.ClaimJoined
import GoSem.ClaimMapViews
import Derived.JoinedTies
import Derived.KernelRfl
namespace Go.Proofs.Yteehplloacefmaa
/- THE CELL 'sum', in the pinned program and in every row, IS THE sha256 OF THE DUMP (.gsa) THAT YteehplloacefmaaProg.lean LOADS. Nothing in Lean hashes anything: it is a label: what it is worth is what the hold of that sum in a sandbox is worth. -/
noncomputable def Try.pinned : Pinned := { name := "yteehplloacefmaa", sum := "391bc4c271c3dc752c5e185f9398202f8a0a89c016df83582e063de053d4557b", checked := Try.checked }
namespace Rows
def none {H : Type} : Left H := { results := [], args := [] }

/-- 'hectarelaw20.MetaSame': WHATEVER THE INPUT: true; the input reads as it did. -/
def metaSameSpec : ChangeSpec := { name := "metaSame", fn := fun _ => fun
  | [d1, d2] => { results := [.lit (.bool true)], args := [d1, d2] }
  | _ => none }
def metaSameRow : OpenClaim := { program := "yteehplloacefmaa", sum := "391bc4c271c3dc752c5e185f9398202f8a0a89c016df83582e063de053d4557b", func := "hectare/hectarelaw20.MetaSame", spec := "metaSame", inPlace := ["internal/bytealg.Compare"], unfollowed := true, recurses := true, apart := false }
def MetaSameSaid : Prop := metaSameRow.holds Try.pinned (OpenSpec.ofChange metaSameSpec)

/-- ITS FALSE NEIGHBOUR: 'it returns false'. Refute it at one input. -/
def metaSameWrong : ChangeSpec := { name := "metaSame", fn := fun _ => fun
  | [d1, d2] => { results := [.lit (.bool false)], args := [d1, d2] }
  | _ => none }
def MetaSameWrongFalsely : Prop := metaSameRow.holds Try.pinned (OpenSpec.ofChange metaSameWrong)

/-- 'hectarelaw20.MetaDoes': WHATEVER THE INPUT: true; the input reads as it did. -/
def metaDoesSpec : ChangeSpec := { name := "metaDoes", fn := fun _ => fun
  | [d1, d2] => { results := [.lit (.bool true)], args := [d1, d2] }
  | _ => none }
def metaDoesRow : OpenClaim := { program := "yteehplloacefmaa", sum := "391bc4c271c3dc752c5e185f9398202f8a0a89c016df83582e063de053d4557b", func := "hectare/hectarelaw20.MetaDoes", spec := "metaDoes", inPlace := ["internal/bytealg.Compare"], unfollowed := true, recurses := true, apart := false }
def MetaDoesSaid : Prop := metaDoesRow.holds Try.pinned (OpenSpec.ofChange metaDoesSpec)

/-- ITS FALSE NEIGHBOUR: 'it returns false'. Refute it at one input. -/
def metaDoesWrong : ChangeSpec := { name := "metaDoes", fn := fun _ => fun
  | [d1, d2] => { results := [.lit (.bool false)], args := [d1, d2] }
  | _ => none }
def MetaDoesWrongFalsely : Prop := metaDoesRow.holds Try.pinned (OpenSpec.ofChange metaDoesWrong)

/-- 'hectarelaw20.MetaKeeps': WHATEVER THE INPUT: true; the input reads as it did. -/
def metaKeepsSpec : ChangeSpec := { name := "metaKeeps", fn := fun _ => fun
  | [d] => { results := [.lit (.bool true)], args := [d] }
  | _ => none }
def metaKeepsRow : OpenClaim := { program := "yteehplloacefmaa", sum := "391bc4c271c3dc752c5e185f9398202f8a0a89c016df83582e063de053d4557b", func := "hectare/hectarelaw20.MetaKeeps", spec := "metaKeeps", inPlace := ["internal/bytealg.Compare"], unfollowed := true, recurses := true, apart := false }
def MetaKeepsSaid : Prop := metaKeepsRow.holds Try.pinned (OpenSpec.ofChange metaKeepsSpec)

/-- ITS FALSE NEIGHBOUR: 'it returns false'. Refute it at one input. -/
def metaKeepsWrong : ChangeSpec := { name := "metaKeeps", fn := fun _ => fun
  | [d] => { results := [.lit (.bool false)], args := [d] }
  | _ => none }
def MetaKeepsWrongFalsely : Prop := metaKeepsRow.holds Try.pinned (OpenSpec.ofChange metaKeepsWrong)

/-- 'hectarelaw20.MetaWants': WHATEVER THE INPUT: true; the input reads as it did. -/
def metaWantsSpec : ChangeSpec := { name := "metaWants", fn := fun _ => fun
  | [d] => { results := [.lit (.bool true)], args := [d] }
  | _ => none }
def metaWantsRow : OpenClaim := { program := "yteehplloacefmaa", sum := "391bc4c271c3dc752c5e185f9398202f8a0a89c016df83582e063de053d4557b", func := "hectare/hectarelaw20.MetaWants", spec := "metaWants", inPlace := ["internal/bytealg.Compare"], unfollowed := true, recurses := true, apart := false }
def MetaWantsSaid : Prop := metaWantsRow.holds Try.pinned (OpenSpec.ofChange metaWantsSpec)

/-- ITS FALSE NEIGHBOUR: 'it returns false'. Refute it at one input. -/
def metaWantsWrong : ChangeSpec := { name := "metaWants", fn := fun _ => fun
  | [d] => { results := [.lit (.bool false)], args := [d] }
  | _ => none }
def MetaWantsWrongFalsely : Prop := metaWantsRow.holds Try.pinned (OpenSpec.ofChange metaWantsWrong)

/- THE SECOND FORM. 'bulk': how many values and letters a reading holds, each counted each time it is reached (what is shared counts as often as it is met; a slice's spare places count too). A statement '..UptoSaid' is the law's where the arguments, and the package variables that the reading takes, are together of bulk at most 1048576: NARROWER than '..Said'. Prove '..Said' where nothing that the law and all that it calls make is longer than what came in: it says more and counts as full. Else prove '..UptoSaid'. A law counts once. -/
mutual
def uptoBulk {H : Type} : DataW H → Nat
  | .lit (.string bytes) => bytes.length + 1
  | .lit _ => 1
  | .nil => 1
  | .ptr d => uptoBulk d + 1
  | .slice elems spare => uptoBulkAll elems + uptoBulkAll spare + 1
  | .agg parts => uptoBulkAll parts + 1
  | .iface _ d => uptoBulk d + 1
  | .map entries => uptoBulkEntries entries + 1
  | .held _ => 1
def uptoBulkAll {H : Type} : List (DataW H) → Nat
  | [] => 0
  | d :: r => uptoBulk d + uptoBulkAll r
def uptoBulkEntries {H : Type} : List (Lit × DataW H) → Nat
  | [] => 0
  | x :: r => uptoBulkEntry x + uptoBulkEntries r
def uptoBulkEntry {H : Type} : Lit × DataW H → Nat
  | (.string bytes, d) => bytes.length + uptoBulk d + 1
  | (_, d) => uptoBulk d + 1
 end
def uptoSmall : (H : Type) → List (DataW H) → Bool := fun _ ds => decide (uptoBulkAll ds ≤ 1048576)
def OpenSpec.upto (s : _root_.Go.ChangeSpec) : _root_.Go.OpenSpec := { _root_.Go.OpenSpec.ofChange s with cond := some uptoSmall }

/-- 'hectarelaw20.MetaSame', WHERE WHAT IT READS IS OF BULK AT MOST 1048576: true; the input reads as it did. -/
def metaSameUptoRow : OpenClaim := { program := "yteehplloacefmaa", sum := "391bc4c271c3dc752c5e185f9398202f8a0a89c016df83582e063de053d4557b", func := "hectare/hectarelaw20.MetaSame", spec := "metaSame", inPlace := ["internal/bytealg.Compare"], unfollowed := true, recurses := true, apart := false, narrowed := true }
def MetaSameUptoSaid : Prop := metaSameUptoRow.holds Try.pinned (OpenSpec.upto metaSameSpec)

/-- 'hectarelaw20.MetaDoes', WHERE WHAT IT READS IS OF BULK AT MOST 1048576: true; the input reads as it did. -/
def metaDoesUptoRow : OpenClaim := { program := "yteehplloacefmaa", sum := "391bc4c271c3dc752c5e185f9398202f8a0a89c016df83582e063de053d4557b", func := "hectare/hectarelaw20.MetaDoes", spec := "metaDoes", inPlace := ["internal/bytealg.Compare"], unfollowed := true, recurses := true, apart := false, narrowed := true }
def MetaDoesUptoSaid : Prop := metaDoesUptoRow.holds Try.pinned (OpenSpec.upto metaDoesSpec)

/-- 'hectarelaw20.MetaKeeps', WHERE WHAT IT READS IS OF BULK AT MOST 1048576: true; the input reads as it did. -/
def metaKeepsUptoRow : OpenClaim := { program := "yteehplloacefmaa", sum := "391bc4c271c3dc752c5e185f9398202f8a0a89c016df83582e063de053d4557b", func := "hectare/hectarelaw20.MetaKeeps", spec := "metaKeeps", inPlace := ["internal/bytealg.Compare"], unfollowed := true, recurses := true, apart := false, narrowed := true }
def MetaKeepsUptoSaid : Prop := metaKeepsUptoRow.holds Try.pinned (OpenSpec.upto metaKeepsSpec)

/-- 'hectarelaw20.MetaWants', WHERE WHAT IT READS IS OF BULK AT MOST 1048576: true; the input reads as it did. -/
def metaWantsUptoRow : OpenClaim := { program := "yteehplloacefmaa", sum := "391bc4c271c3dc752c5e185f9398202f8a0a89c016df83582e063de053d4557b", func := "hectare/hectarelaw20.MetaWants", spec := "metaWants", inPlace := ["internal/bytealg.Compare"], unfollowed := true, recurses := true, apart := false, narrowed := true }
def MetaWantsUptoSaid : Prop := metaWantsUptoRow.holds Try.pinned (OpenSpec.upto metaWantsSpec)

end Rows
end Go.Proofs.Yteehplloacefmaa
