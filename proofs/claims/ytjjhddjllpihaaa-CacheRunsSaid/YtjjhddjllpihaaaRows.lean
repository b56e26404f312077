/-
  No cell of these rows narrows 'for every input' (looked for: loops, veiled, ifaces, maps, wideKeys, modest, calm, conditions, laid).
  DERIVED. THE GIVEN ROWS OF THIS SEAT. 4 by the template 'for every input the law returns true; each argument reads behind the call as it read before'; 0 by the template 'total and deterministic' (their statements: YtjjhddjllpihaaaTotals.lean).
  GIVEN WITH THE SEED: the statements are not yours to turn. If you find one false, say at which input.
  Laid BY PROGRAM, IN A SANDBOX (cutbox-rows.mjs): the forced cells as the released guide's own fill.sh prints them over the translation 8c82a4b3e4428609… (all of the seat's roots in one cut). By AI agents, Wed Nov 11 2026. No macro, syntax, notation, axiom, sorry.
-/
import Derived.Test.YtjjhddjllpihaaaChecked
import GoSem.Claim
import GoSem.ClaimJoined
import GoSem.ClaimMapViews
import Derived.JoinedTies
import Derived.KernelRfl
namespace Go.Proofs.Ytjjhddjllpihaaa
/- THE CELL 'sum', in the pinned program and in every row, IS THE sha256 OF THE DUMP (.gsa) THAT YtjjhddjllpihaaaProg.lean LOADS. Nothing in Lean hashes anything: it is a label: what it is worth is what the hold of that sum in a sandbox is worth. -/
noncomputable def Try.pinned : Pinned := { name := "ytjjhddjllpihaaa", sum := "8c82a4b3e44286090db67fca47c17f1e53d5aa58374127bf86607b28ceeac4d8", checked := Try.checked }
namespace Rows
def none {H : Type} : Left H := { results := [], args := [] }

/-- 'pedigreelaw08.CacheFresh': WHATEVER THE INPUT: true; the input reads as it did. -/
def cacheFreshSpec : ChangeSpec := { name := "cacheFresh", fn := fun _ => fun
  | [d1, d2] => { results := [.lit (.bool true)], args := [d1, d2] }
  | _ => none }
def cacheFreshRow : OpenClaim := { program := "ytjjhddjllpihaaa", sum := "8c82a4b3e44286090db67fca47c17f1e53d5aa58374127bf86607b28ceeac4d8", func := "pedigree/pedigreelaw08.CacheFresh", spec := "cacheFresh", inPlace := ["slices.overlaps[pedigree/api.PageKey]"], plainKeys := false, apart := false }
def CacheFreshSaid : Prop := cacheFreshRow.holds Try.pinned (OpenSpec.ofChange cacheFreshSpec)

/-- ITS FALSE NEIGHBOUR: 'it returns false'. Refute it at one input. -/
def cacheFreshWrong : ChangeSpec := { name := "cacheFresh", fn := fun _ => fun
  | [d1, d2] => { results := [.lit (.bool false)], args := [d1, d2] }
  | _ => none }
def CacheFreshWrongFalsely : Prop := cacheFreshRow.holds Try.pinned (OpenSpec.ofChange cacheFreshWrong)

/-- 'pedigreelaw08.CacheRuns': WHATEVER THE INPUT: true; the input reads as it did. -/
def cacheRunsSpec : ChangeSpec := { name := "cacheRuns", fn := fun _ => fun
  | [d1, d2] => { results := [.lit (.bool true)], args := [d1, d2] }
  | _ => none }
def cacheRunsRow : OpenClaim := { program := "ytjjhddjllpihaaa", sum := "8c82a4b3e44286090db67fca47c17f1e53d5aa58374127bf86607b28ceeac4d8", func := "pedigree/pedigreelaw08.CacheRuns", spec := "cacheRuns", inPlace := ["slices.overlaps[pedigree/api.PageKey]"], plainKeys := false, apart := false }
def CacheRunsSaid : Prop := cacheRunsRow.holds Try.pinned (OpenSpec.ofChange cacheRunsSpec)

/-- ITS FALSE NEIGHBOUR: 'it returns false'. Refute it at one input. -/
def cacheRunsWrong : ChangeSpec := { name := "cacheRuns", fn := fun _ => fun
  | [d1, d2] => { results := [.lit (.bool false)], args := [d1, d2] }
  | _ => none }
def CacheRunsWrongFalsely : Prop := cacheRunsRow.holds Try.pinned (OpenSpec.ofChange cacheRunsWrong)

/-- 'pedigreelaw08.CacheRoom': WHATEVER THE INPUT: true; the input reads as it did. -/
def cacheRoomSpec : ChangeSpec := { name := "cacheRoom", fn := fun _ => fun
  | [d1, d2] => { results := [.lit (.bool true)], args := [d1, d2] }
  | _ => none }
def cacheRoomRow : OpenClaim := { program := "ytjjhddjllpihaaa", sum := "8c82a4b3e44286090db67fca47c17f1e53d5aa58374127bf86607b28ceeac4d8", func := "pedigree/pedigreelaw08.CacheRoom", spec := "cacheRoom", inPlace := ["slices.overlaps[pedigree/api.PageKey]"], plainKeys := false, apart := false }
def CacheRoomSaid : Prop := cacheRoomRow.holds Try.pinned (OpenSpec.ofChange cacheRoomSpec)

/-- ITS FALSE NEIGHBOUR: 'it returns false'. Refute it at one input. -/
def cacheRoomWrong : ChangeSpec := { name := "cacheRoom", fn := fun _ => fun
  | [d1, d2] => { results := [.lit (.bool false)], args := [d1, d2] }
  | _ => none }
def CacheRoomWrongFalsely : Prop := cacheRoomRow.holds Try.pinned (OpenSpec.ofChange cacheRoomWrong)

/-- 'pedigreelaw08.CacheNobody': WHATEVER THE INPUT: true; the input reads as it did. -/
def cacheNobodySpec : ChangeSpec := { name := "cacheNobody", fn := fun _ => fun
  | [d] => { results := [.lit (.bool true)], args := [d] }
  | _ => none }
def cacheNobodyRow : OpenClaim := { program := "ytjjhddjllpihaaa", sum := "8c82a4b3e44286090db67fca47c17f1e53d5aa58374127bf86607b28ceeac4d8", func := "pedigree/pedigreelaw08.CacheNobody", spec := "cacheNobody", inPlace := ["slices.overlaps[pedigree/api.PageKey]"], plainKeys := false, apart := false }
def CacheNobodySaid : Prop := cacheNobodyRow.holds Try.pinned (OpenSpec.ofChange cacheNobodySpec)

/-- ITS FALSE NEIGHBOUR: 'it returns false'. Refute it at one input. -/
def cacheNobodyWrong : ChangeSpec := { name := "cacheNobody", fn := fun _ => fun
  | [d] => { results := [.lit (.bool false)], args := [d] }
  | _ => none }
def CacheNobodyWrongFalsely : Prop := cacheNobodyRow.holds Try.pinned (OpenSpec.ofChange cacheNobodyWrong)

/- THE SECOND FORM. 'bulk': how many values and letters a reading holds, each counted each time it is reached (what is shared counts as often as it is met; a slice's spare places count too). A statement '..UptoSaid' is the law's where the arguments, and the package variables that the reading takes, are together of bulk at most 1048576: NARROWER than '..Said'. Prove '..Said' where nothing that the law and all that it calls make is longer than what came in: it says more and counts as full. Else prove '..UptoSaid'. A law counts once. -/
mutual
def uptoBulk {H : Type} : DataW H → Nat
  | .lit (.string bytes) => bytes.length + 1
  | .lit _ => 1
  | .nil => 1
  | .ptr d => uptoBulk d + 1
  | .slice elems spare => uptoBulkAll elems + uptoBulkAll spare + 1
  | .agg parts => uptoBulkAll parts + 1
  | .iface _ d => uptoBulk d + 1
  | .map entries => uptoBulkEntries entries + 1
  | .held _ => 1
def uptoBulkAll {H : Type} : List (DataW H) → Nat
  | [] => 0
  | d :: r => uptoBulk d + uptoBulkAll r
def uptoBulkEntries {H : Type} : List (Lit × DataW H) → Nat
  | [] => 0
  | x :: r => uptoBulkEntry x + uptoBulkEntries r
def uptoBulkEntry {H : Type} : Lit × DataW H → Nat
  | (.string bytes, d) => bytes.length + uptoBulk d + 1
  | (_, d) => uptoBulk d + 1
 end
def uptoSmall : (H : Type) → List (DataW H) → Bool := fun _ ds => decide (uptoBulkAll ds ≤ 1048576)
def OpenSpec.upto (s : _root_.Go.ChangeSpec) : _root_.Go.OpenSpec := { _root_.Go.OpenSpec.ofChange s with cond := some uptoSmall }

/-- 'pedigreelaw08.CacheFresh', WHERE WHAT IT READS IS OF BULK AT MOST 1048576: true; the input reads as it did. -/
def cacheFreshUptoRow : OpenClaim := { program := "ytjjhddjllpihaaa", sum := "8c82a4b3e44286090db67fca47c17f1e53d5aa58374127bf86607b28ceeac4d8", func := "pedigree/pedigreelaw08.CacheFresh", spec := "cacheFresh", inPlace := ["slices.overlaps[pedigree/api.PageKey]"], plainKeys := false, apart := false, narrowed := true }
def CacheFreshUptoSaid : Prop := cacheFreshUptoRow.holds Try.pinned (OpenSpec.upto cacheFreshSpec)

/-- 'pedigreelaw08.CacheRuns', WHERE WHAT IT READS IS OF BULK AT MOST 1048576: true; the input reads as it did. -/
def cacheRunsUptoRow : OpenClaim := { program := "ytjjhddjllpihaaa", sum := "8c82a4b3e44286090db67fca47c17f1e53d5aa58374127bf86607b28ceeac4d8", func := "pedigree/pedigreelaw08.CacheRuns", spec := "cacheRuns", inPlace := ["slices.overlaps[pedigree/api.PageKey]"], plainKeys := false, apart := false, narrowed := true }
def CacheRunsUptoSaid : Prop := cacheRunsUptoRow.holds Try.pinned (OpenSpec.upto cacheRunsSpec)

/-- 'pedigreelaw08.CacheRoom', WHERE WHAT IT READS IS OF BULK AT MOST 1048576: true; the input reads as it did. -/
def cacheRoomUptoRow : OpenClaim := { program := "ytjjhddjllpihaaa", sum := "8c82a4b3e44286090db67fca47c17f1e53d5aa58374127bf86607b28ceeac4d8", func := "pedigree/pedigreelaw08.CacheRoom", spec := "cacheRoom", inPlace := ["slices.overlaps[pedigree/api.PageKey]"], plainKeys := false, apart := false, narrowed := true }
def CacheRoomUptoSaid : Prop := cacheRoomUptoRow.holds Try.pinned (OpenSpec.upto cacheRoomSpec)

/-- 'pedigreelaw08.CacheNobody', WHERE WHAT IT READS IS OF BULK AT MOST 1048576: true; the input reads as it did. -/
def cacheNobodyUptoRow : OpenClaim := { program := "ytjjhddjllpihaaa", sum := "8c82a4b3e44286090db67fca47c17f1e53d5aa58374127bf86607b28ceeac4d8", func := "pedigree/pedigreelaw08.CacheNobody", spec := "cacheNobody", inPlace := ["slices.overlaps[pedigree/api.PageKey]"], plainKeys := false, apart := false, narrowed := true }
def CacheNobodyUptoSaid : Prop := cacheNobodyUptoRow.holds Try.pinned (OpenSpec.upto cacheNobodySpec)

end Rows
end Go.Proofs.Ytjjhddjllpihaaa
