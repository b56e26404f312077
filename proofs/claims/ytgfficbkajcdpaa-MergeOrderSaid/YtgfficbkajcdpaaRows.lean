/-
  No cell of these rows narrows 'for every input' (looked for: loops, veiled, ifaces, maps, wideKeys, modest, calm, conditions, laid).
  DERIVED. THE GIVEN ROWS OF THIS SEAT. 9 by the template 'for every input the law returns true; each argument reads behind the call as it read before'; 0 by the template 'total and deterministic' (their statements: YtgfficbkajcdpaaTotals.lean).
  GIVEN WITH THE SEED: the statements are not yours to turn. If you find one false, say at which input.
  Laid BY PROGRAM, IN A SANDBOX (cutbox-rows.mjs): the forced cells as the released guide's own fill.sh prints them over the translation 1b511b6b6fd2a468… (all of the seat's roots in one cut). By AI agents, Wed Nov 11 2026. No macro, syntax, notation, axiom, sorry.
-/
import Derived.Test.YtgfficbkajcdpaaChecked
import GoSem.Claim
import GoSem.ClaimJoined
import GoSem.ClaimMapViews
import Derived.JoinedTies
import Derived.KernelRfl
namespace Go.Proofs.Ytgfficbkajcdpaa
/- THE CELL 'sum', in the pinned program and in every row, IS THE sha256 OF THE DUMP (.gsa) THAT YtgfficbkajcdpaaProg.lean LOADS. Nothing in Lean hashes anything: it is a label: what it is worth is what the hold of that sum in a sandbox is worth. -/
noncomputable def Try.pinned : Pinned := { name := "ytgfficbkajcdpaa", sum := "1b511b6b6fd2a468b5ae7b9bb3855b2708f3dc031526d4477c2c87dac6893cfe", checked := Try.checked }
namespace Rows
def none {H : Type} : Left H := { results := [], args := [] }

/-- 'pedigreelaw09.MergeOrder': WHATEVER THE INPUT: true; the input reads as it did. -/
def mergeOrderSpec : ChangeSpec := { name := "mergeOrder", fn := fun _ => fun
  | [d] => { results := [.lit (.bool true)], args := [d] }
  | _ => none }
def mergeOrderRow : OpenClaim := { program := "ytgfficbkajcdpaa", sum := "1b511b6b6fd2a468b5ae7b9bb3855b2708f3dc031526d4477c2c87dac6893cfe", func := "pedigree/pedigreelaw09.MergeOrder", spec := "mergeOrder", unfollowed := true, recurses := true, apart := false }
def MergeOrderSaid : Prop := mergeOrderRow.holds Try.pinned (OpenSpec.ofChange mergeOrderSpec)

/-- ITS FALSE NEIGHBOUR: 'it returns false'. Refute it at one input. -/
def mergeOrderWrong : ChangeSpec := { name := "mergeOrder", fn := fun _ => fun
  | [d] => { results := [.lit (.bool false)], args := [d] }
  | _ => none }
def MergeOrderWrongFalsely : Prop := mergeOrderRow.holds Try.pinned (OpenSpec.ofChange mergeOrderWrong)

/-- 'pedigreelaw09.MergeRows': WHATEVER THE INPUT: true; the input reads as it did. -/
def mergeRowsSpec : ChangeSpec := { name := "mergeRows", fn := fun _ => fun
  | [d1, d2] => { results := [.lit (.bool true)], args := [d1, d2] }
  | _ => none }
def mergeRowsRow : OpenClaim := { program := "ytgfficbkajcdpaa", sum := "1b511b6b6fd2a468b5ae7b9bb3855b2708f3dc031526d4477c2c87dac6893cfe", func := "pedigree/pedigreelaw09.MergeRows", spec := "mergeRows", unfollowed := true, recurses := true, apart := false }
def MergeRowsSaid : Prop := mergeRowsRow.holds Try.pinned (OpenSpec.ofChange mergeRowsSpec)

/-- ITS FALSE NEIGHBOUR: 'it returns false'. Refute it at one input. -/
def mergeRowsWrong : ChangeSpec := { name := "mergeRows", fn := fun _ => fun
  | [d1, d2] => { results := [.lit (.bool false)], args := [d1, d2] }
  | _ => none }
def MergeRowsWrongFalsely : Prop := mergeRowsRow.holds Try.pinned (OpenSpec.ofChange mergeRowsWrong)

/-- 'pedigreelaw09.MergeMerges': WHATEVER THE INPUT: true; the input reads as it did. -/
def mergeMergesSpec : ChangeSpec := { name := "mergeMerges", fn := fun _ => fun
  | [d] => { results := [.lit (.bool true)], args := [d] }
  | _ => none }
def mergeMergesRow : OpenClaim := { program := "ytgfficbkajcdpaa", sum := "1b511b6b6fd2a468b5ae7b9bb3855b2708f3dc031526d4477c2c87dac6893cfe", func := "pedigree/pedigreelaw09.MergeMerges", spec := "mergeMerges", unfollowed := true, recurses := true, apart := false }
def MergeMergesSaid : Prop := mergeMergesRow.holds Try.pinned (OpenSpec.ofChange mergeMergesSpec)

/-- ITS FALSE NEIGHBOUR: 'it returns false'. Refute it at one input. -/
def mergeMergesWrong : ChangeSpec := { name := "mergeMerges", fn := fun _ => fun
  | [d] => { results := [.lit (.bool false)], args := [d] }
  | _ => none }
def MergeMergesWrongFalsely : Prop := mergeMergesRow.holds Try.pinned (OpenSpec.ofChange mergeMergesWrong)

/-- 'pedigreelaw09.MergeHolds': WHATEVER THE INPUT: true; the input reads as it did. -/
def mergeHoldsSpec : ChangeSpec := { name := "mergeHolds", fn := fun _ => fun
  | [d1, d2] => { results := [.lit (.bool true)], args := [d1, d2] }
  | _ => none }
def mergeHoldsRow : OpenClaim := { program := "ytgfficbkajcdpaa", sum := "1b511b6b6fd2a468b5ae7b9bb3855b2708f3dc031526d4477c2c87dac6893cfe", func := "pedigree/pedigreelaw09.MergeHolds", spec := "mergeHolds", unfollowed := true, recurses := true, apart := false }
def MergeHoldsSaid : Prop := mergeHoldsRow.holds Try.pinned (OpenSpec.ofChange mergeHoldsSpec)

/-- ITS FALSE NEIGHBOUR: 'it returns false'. Refute it at one input. -/
def mergeHoldsWrong : ChangeSpec := { name := "mergeHolds", fn := fun _ => fun
  | [d1, d2] => { results := [.lit (.bool false)], args := [d1, d2] }
  | _ => none }
def MergeHoldsWrongFalsely : Prop := mergeHoldsRow.holds Try.pinned (OpenSpec.ofChange mergeHoldsWrong)

/-- 'pedigreelaw09.MergeSets': WHATEVER THE INPUT: true; the input reads as it did. -/
def mergeSetsSpec : ChangeSpec := { name := "mergeSets", fn := fun _ => fun
  | [d1, d2] => { results := [.lit (.bool true)], args := [d1, d2] }
  | _ => none }
def mergeSetsRow : OpenClaim := { program := "ytgfficbkajcdpaa", sum := "1b511b6b6fd2a468b5ae7b9bb3855b2708f3dc031526d4477c2c87dac6893cfe", func := "pedigree/pedigreelaw09.MergeSets", spec := "mergeSets", unfollowed := true, recurses := true, apart := false }
def MergeSetsSaid : Prop := mergeSetsRow.holds Try.pinned (OpenSpec.ofChange mergeSetsSpec)

/-- ITS FALSE NEIGHBOUR: 'it returns false'. Refute it at one input. -/
def mergeSetsWrong : ChangeSpec := { name := "mergeSets", fn := fun _ => fun
  | [d1, d2] => { results := [.lit (.bool false)], args := [d1, d2] }
  | _ => none }
def MergeSetsWrongFalsely : Prop := mergeSetsRow.holds Try.pinned (OpenSpec.ofChange mergeSetsWrong)

/-- 'pedigreelaw09.MergeCuts': WHATEVER THE INPUT: true; the input reads as it did. -/
def mergeCutsSpec : ChangeSpec := { name := "mergeCuts", fn := fun _ => fun
  | [d1, d2, d3] => { results := [.lit (.bool true)], args := [d1, d2, d3] }
  | _ => none }
def mergeCutsRow : OpenClaim := { program := "ytgfficbkajcdpaa", sum := "1b511b6b6fd2a468b5ae7b9bb3855b2708f3dc031526d4477c2c87dac6893cfe", func := "pedigree/pedigreelaw09.MergeCuts", spec := "mergeCuts", unfollowed := true, recurses := true, apart := false }
def MergeCutsSaid : Prop := mergeCutsRow.holds Try.pinned (OpenSpec.ofChange mergeCutsSpec)

/-- ITS FALSE NEIGHBOUR: 'it returns false'. Refute it at one input. -/
def mergeCutsWrong : ChangeSpec := { name := "mergeCuts", fn := fun _ => fun
  | [d1, d2, d3] => { results := [.lit (.bool false)], args := [d1, d2, d3] }
  | _ => none }
def MergeCutsWrongFalsely : Prop := mergeCutsRow.holds Try.pinned (OpenSpec.ofChange mergeCutsWrong)

/-- 'pedigreelaw09.MergeSums': WHATEVER THE INPUT: true; the input reads as it did. -/
def mergeSumsSpec : ChangeSpec := { name := "mergeSums", fn := fun _ => fun
  | [d] => { results := [.lit (.bool true)], args := [d] }
  | _ => none }
def mergeSumsRow : OpenClaim := { program := "ytgfficbkajcdpaa", sum := "1b511b6b6fd2a468b5ae7b9bb3855b2708f3dc031526d4477c2c87dac6893cfe", func := "pedigree/pedigreelaw09.MergeSums", spec := "mergeSums", unfollowed := true, recurses := true, apart := false }
def MergeSumsSaid : Prop := mergeSumsRow.holds Try.pinned (OpenSpec.ofChange mergeSumsSpec)

/-- ITS FALSE NEIGHBOUR: 'it returns false'. Refute it at one input. -/
def mergeSumsWrong : ChangeSpec := { name := "mergeSums", fn := fun _ => fun
  | [d] => { results := [.lit (.bool false)], args := [d] }
  | _ => none }
def MergeSumsWrongFalsely : Prop := mergeSumsRow.holds Try.pinned (OpenSpec.ofChange mergeSumsWrong)

/-- 'pedigreelaw09.MergeAny': WHATEVER THE INPUT: true; the input reads as it did. -/
def mergeAnySpec : ChangeSpec := { name := "mergeAny", fn := fun _ => fun
  | [d] => { results := [.lit (.bool true)], args := [d] }
  | _ => none }
def mergeAnyRow : OpenClaim := { program := "ytgfficbkajcdpaa", sum := "1b511b6b6fd2a468b5ae7b9bb3855b2708f3dc031526d4477c2c87dac6893cfe", func := "pedigree/pedigreelaw09.MergeAny", spec := "mergeAny", unfollowed := true, recurses := true, apart := false }
def MergeAnySaid : Prop := mergeAnyRow.holds Try.pinned (OpenSpec.ofChange mergeAnySpec)

/-- ITS FALSE NEIGHBOUR: 'it returns false'. Refute it at one input. -/
def mergeAnyWrong : ChangeSpec := { name := "mergeAny", fn := fun _ => fun
  | [d] => { results := [.lit (.bool false)], args := [d] }
  | _ => none }
def MergeAnyWrongFalsely : Prop := mergeAnyRow.holds Try.pinned (OpenSpec.ofChange mergeAnyWrong)

/-- 'pedigreelaw09.MergeNone': WHATEVER THE INPUT: true; the input reads as it did. -/
def mergeNoneSpec : ChangeSpec := { name := "mergeNone", fn := fun _ => fun
  | [d] => { results := [.lit (.bool true)], args := [d] }
  | _ => none }
def mergeNoneRow : OpenClaim := { program := "ytgfficbkajcdpaa", sum := "1b511b6b6fd2a468b5ae7b9bb3855b2708f3dc031526d4477c2c87dac6893cfe", func := "pedigree/pedigreelaw09.MergeNone", spec := "mergeNone", unfollowed := true, recurses := true, apart := false }
def MergeNoneSaid : Prop := mergeNoneRow.holds Try.pinned (OpenSpec.ofChange mergeNoneSpec)

/-- ITS FALSE NEIGHBOUR: 'it returns false'. Refute it at one input. -/
def mergeNoneWrong : ChangeSpec := { name := "mergeNone", fn := fun _ => fun
  | [d] => { results := [.lit (.bool false)], args := [d] }
  | _ => none }
def MergeNoneWrongFalsely : Prop := mergeNoneRow.holds Try.pinned (OpenSpec.ofChange mergeNoneWrong)

/- THE SECOND FORM. 'bulk': how many values and letters a reading holds, each counted each time it is reached (what is shared counts as often as it is met; a slice's spare places count too). A statement '..UptoSaid' is the law's where the arguments, and the package variables that the reading takes, are together of bulk at most 1048576: NARROWER than '..Said'. Prove '..Said' where nothing that the law and all that it calls make is longer than what came in: it says more and counts as full. Else prove '..UptoSaid'. A law counts once. -/
mutual
def uptoBulk {H : Type} : DataW H → Nat
  | .lit (.string bytes) => bytes.length + 1
  | .lit _ => 1
  | .nil => 1
  | .ptr d => uptoBulk d + 1
  | .slice elems spare => uptoBulkAll elems + uptoBulkAll spare + 1
  | .agg parts => uptoBulkAll parts + 1
  | .iface _ d => uptoBulk d + 1
  | .map entries => uptoBulkEntries entries + 1
  | .held _ => 1
def uptoBulkAll {H : Type} : List (DataW H) → Nat
  | [] => 0
  | d :: r => uptoBulk d + uptoBulkAll r
def uptoBulkEntries {H : Type} : List (Lit × DataW H) → Nat
  | [] => 0
  | x :: r => uptoBulkEntry x + uptoBulkEntries r
def uptoBulkEntry {H : Type} : Lit × DataW H → Nat
  | (.string bytes, d) => bytes.length + uptoBulk d + 1
  | (_, d) => uptoBulk d + 1
 end
def uptoSmall : (H : Type) → List (DataW H) → Bool := fun _ ds => decide (uptoBulkAll ds ≤ 1048576)
def OpenSpec.upto (s : _root_.Go.ChangeSpec) : _root_.Go.OpenSpec := { _root_.Go.OpenSpec.ofChange s with cond := some uptoSmall }

/-- 'pedigreelaw09.MergeOrder', WHERE WHAT IT READS IS OF BULK AT MOST 1048576: true; the input reads as it did. -/
def mergeOrderUptoRow : OpenClaim := { program := "ytgfficbkajcdpaa", sum := "1b511b6b6fd2a468b5ae7b9bb3855b2708f3dc031526d4477c2c87dac6893cfe", func := "pedigree/pedigreelaw09.MergeOrder", spec := "mergeOrder", unfollowed := true, recurses := true, apart := false, narrowed := true }
def MergeOrderUptoSaid : Prop := mergeOrderUptoRow.holds Try.pinned (OpenSpec.upto mergeOrderSpec)

/-- 'pedigreelaw09.MergeRows', WHERE WHAT IT READS IS OF BULK AT MOST 1048576: true; the input reads as it did. -/
def mergeRowsUptoRow : OpenClaim := { program := "ytgfficbkajcdpaa", sum := "1b511b6b6fd2a468b5ae7b9bb3855b2708f3dc031526d4477c2c87dac6893cfe", func := "pedigree/pedigreelaw09.MergeRows", spec := "mergeRows", unfollowed := true, recurses := true, apart := false, narrowed := true }
def MergeRowsUptoSaid : Prop := mergeRowsUptoRow.holds Try.pinned (OpenSpec.upto mergeRowsSpec)

/-- 'pedigreelaw09.MergeMerges', WHERE WHAT IT READS IS OF BULK AT MOST 1048576: true; the input reads as it did. -/
def mergeMergesUptoRow : OpenClaim := { program := "ytgfficbkajcdpaa", sum := "1b511b6b6fd2a468b5ae7b9bb3855b2708f3dc031526d4477c2c87dac6893cfe", func := "pedigree/pedigreelaw09.MergeMerges", spec := "mergeMerges", unfollowed := true, recurses := true, apart := false, narrowed := true }
def MergeMergesUptoSaid : Prop := mergeMergesUptoRow.holds Try.pinned (OpenSpec.upto mergeMergesSpec)

/-- 'pedigreelaw09.MergeHolds', WHERE WHAT IT READS IS OF BULK AT MOST 1048576: true; the input reads as it did. -/
def mergeHoldsUptoRow : OpenClaim := { program := "ytgfficbkajcdpaa", sum := "1b511b6b6fd2a468b5ae7b9bb3855b2708f3dc031526d4477c2c87dac6893cfe", func := "pedigree/pedigreelaw09.MergeHolds", spec := "mergeHolds", unfollowed := true, recurses := true, apart := false, narrowed := true }
def MergeHoldsUptoSaid : Prop := mergeHoldsUptoRow.holds Try.pinned (OpenSpec.upto mergeHoldsSpec)

/-- 'pedigreelaw09.MergeSets', WHERE WHAT IT READS IS OF BULK AT MOST 1048576: true; the input reads as it did. -/
def mergeSetsUptoRow : OpenClaim := { program := "ytgfficbkajcdpaa", sum := "1b511b6b6fd2a468b5ae7b9bb3855b2708f3dc031526d4477c2c87dac6893cfe", func := "pedigree/pedigreelaw09.MergeSets", spec := "mergeSets", unfollowed := true, recurses := true, apart := false, narrowed := true }
def MergeSetsUptoSaid : Prop := mergeSetsUptoRow.holds Try.pinned (OpenSpec.upto mergeSetsSpec)

/-- 'pedigreelaw09.MergeCuts', WHERE WHAT IT READS IS OF BULK AT MOST 1048576: true; the input reads as it did. -/
def mergeCutsUptoRow : OpenClaim := { program := "ytgfficbkajcdpaa", sum := "1b511b6b6fd2a468b5ae7b9bb3855b2708f3dc031526d4477c2c87dac6893cfe", func := "pedigree/pedigreelaw09.MergeCuts", spec := "mergeCuts", unfollowed := true, recurses := true, apart := false, narrowed := true }
def MergeCutsUptoSaid : Prop := mergeCutsUptoRow.holds Try.pinned (OpenSpec.upto mergeCutsSpec)

/-- 'pedigreelaw09.MergeSums', WHERE WHAT IT READS IS OF BULK AT MOST 1048576: true; the input reads as it did. -/
def mergeSumsUptoRow : OpenClaim := { program := "ytgfficbkajcdpaa", sum := "1b511b6b6fd2a468b5ae7b9bb3855b2708f3dc031526d4477c2c87dac6893cfe", func := "pedigree/pedigreelaw09.MergeSums", spec := "mergeSums", unfollowed := true, recurses := true, apart := false, narrowed := true }
def MergeSumsUptoSaid : Prop := mergeSumsUptoRow.holds Try.pinned (OpenSpec.upto mergeSumsSpec)

/-- 'pedigreelaw09.MergeAny', WHERE WHAT IT READS IS OF BULK AT MOST 1048576: true; the input reads as it did. -/
def mergeAnyUptoRow : OpenClaim := { program := "ytgfficbkajcdpaa", sum := "1b511b6b6fd2a468b5ae7b9bb3855b2708f3dc031526d4477c2c87dac6893cfe", func := "pedigree/pedigreelaw09.MergeAny", spec := "mergeAny", unfollowed := true, recurses := true, apart := false, narrowed := true }
def MergeAnyUptoSaid : Prop := mergeAnyUptoRow.holds Try.pinned (OpenSpec.upto mergeAnySpec)

/-- 'pedigreelaw09.MergeNone', WHERE WHAT IT READS IS OF BULK AT MOST 1048576: true; the input reads as it did. -/
def mergeNoneUptoRow : OpenClaim := { program := "ytgfficbkajcdpaa", sum := "1b511b6b6fd2a468b5ae7b9bb3855b2708f3dc031526d4477c2c87dac6893cfe", func := "pedigree/pedigreelaw09.MergeNone", spec := "mergeNone", unfollowed := true, recurses := true, apart := false, narrowed := true }
def MergeNoneUptoSaid : Prop := mergeNoneUptoRow.holds Try.pinned (OpenSpec.upto mergeNoneSpec)

end Rows
end Go.Proofs.Ytgfficbkajcdpaa
