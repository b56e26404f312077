/-
  NARROWER THAN 'FOR EVERY INPUT', by the rows' own cells (each row's printed sentence says how): RunFinds: laid · RunWrites: laid · RunNobody: laid · RunReads: laid · RunBursts: laid · RunFiles: laid.
  DERIVED. THE GIVEN ROWS OF THIS SEAT. 6 by the template 'for every input the law returns true; each argument reads behind the call as it read before'; 0 by the template 'total and deterministic' (their statements: YtbljooblpfdbiaaGreatDoorTotals.lean).
  GIVEN WITH THE SEED: the statements are not yours to turn. If you find one false, say at which input.
  Laid BY PROGRAM, IN A SANDBOX (cutbox-rows.mjs): the forced cells as the released guide's own fill.sh prints them over the translation 4ed18d289d619b13… (all of the seat's roots in one cut). By AI agents, Wed Nov 11 2026. No macro, syntax, notation, axiom, sorry.
-/
import Derived.Test.YtbljooblpfdbiaaGreatDoorChecked
import GoSem.Claim
import GoSem.ClaimJoined
import GoSem.ClaimMapViews
import Derived.JoinedTies
import Derived.KernelRfl
namespace Go.Proofs.YtbljooblpfdbiaaGreatDoor
/- THE CELL 'sum', in the pinned program and in every row, IS THE sha256 OF THE DUMP (.gsa) THAT YtbljooblpfdbiaaGreatDoorProg.lean LOADS. Nothing in Lean hashes anything: it is a label: what it is worth is what the hold of that sum in a sandbox is worth. -/
noncomputable def Tryz.pinned : Pinned := { name := "ytbljooblpfdbiaagreatdoor", sum := "4ed18d289d619b13ba5927e2ad59f3fd46ff3f10298c24af8a6982e6fe2b851c", checked := Tryz.checked }
namespace Rows
def none {H : Type} : Left H := { results := [], args := [] }

/- WHAT THE LISTED PACKAGE-LEVEL VARIABLES READ AS WHEN THE CALL BEGINS. Each datum BY PROGRAM (the guide's laid-datum.mjs) off the statement by which the dump's own 'gosem.cut.vars' lays the variable. In a bare row this is a premise. The card (YtbljooblpfdbiaaGreatDoorCards.lean) ties it to the program's text. -/
def laid_pedigree_crc_table {H : Type} : DataW H := .agg [.lit (.int .u32 0), .lit (.int .u32 498536548), .lit (.int .u32 997073096), .lit (.int .u32 651767980), .lit (.int .u32 1994146192), .lit (.int .u32 1802195444), .lit (.int .u32 1303535960), .lit (.int .u32 1342533948), .lit (.int .u32 3988292384), .lit (.int .u32 4027552580), .lit (.int .u32 3604390888), .lit (.int .u32 3412177804), .lit (.int .u32 2607071920), .lit (.int .u32 2262029012), .lit (.int .u32 2685067896), .lit (.int .u32 3183342108)]

/-- 'pedigreelaw07.RunFinds': WHATEVER THE INPUT: true; the input reads as it did. -/
def runFindsSpec : ChangeSpec := { name := "runFinds", fn := fun _ => fun
  | [d1, d2] => { results := [.lit (.bool true)], args := [d1, d2] }
  | _ => none }
def runFindsRow : OpenClaim := { program := "ytbljooblpfdbiaagreatdoor", sum := "4ed18d289d619b13ba5927e2ad59f3fd46ff3f10298c24af8a6982e6fe2b851c", func := "pedigree/pedigreelaw07.RunFinds", spec := "runFinds", unfollowed := true, recurses := true, named := ["pedigree/crc.table"], plainKeys := false, apart := false, laid := [("pedigree/crc.table", laid_pedigree_crc_table)] }
def RunFindsSaid : Prop := runFindsRow.holds Tryz.pinned (OpenSpec.ofChange runFindsSpec)

/-- ITS FALSE NEIGHBOUR: 'it returns false'. Refute it at one input. -/
def runFindsWrong : ChangeSpec := { name := "runFinds", fn := fun _ => fun
  | [d1, d2] => { results := [.lit (.bool false)], args := [d1, d2] }
  | _ => none }
def RunFindsWrongFalsely : Prop := runFindsRow.holds Tryz.pinned (OpenSpec.ofChange runFindsWrong)

/-- 'pedigreelaw07.RunWrites': WHATEVER THE INPUT: true; the input reads as it did. -/
def runWritesSpec : ChangeSpec := { name := "runWrites", fn := fun _ => fun
  | [d] => { results := [.lit (.bool true)], args := [d] }
  | _ => none }
def runWritesRow : OpenClaim := { program := "ytbljooblpfdbiaagreatdoor", sum := "4ed18d289d619b13ba5927e2ad59f3fd46ff3f10298c24af8a6982e6fe2b851c", func := "pedigree/pedigreelaw07.RunWrites", spec := "runWrites", unfollowed := true, recurses := true, named := ["pedigree/crc.table"], plainKeys := false, apart := false, laid := [("pedigree/crc.table", laid_pedigree_crc_table)] }
def RunWritesSaid : Prop := runWritesRow.holds Tryz.pinned (OpenSpec.ofChange runWritesSpec)

/-- ITS FALSE NEIGHBOUR: 'it returns false'. Refute it at one input. -/
def runWritesWrong : ChangeSpec := { name := "runWrites", fn := fun _ => fun
  | [d] => { results := [.lit (.bool false)], args := [d] }
  | _ => none }
def RunWritesWrongFalsely : Prop := runWritesRow.holds Tryz.pinned (OpenSpec.ofChange runWritesWrong)

/-- 'pedigreelaw07.RunNobody': WHATEVER THE INPUT: true; the input reads as it did. -/
def runNobodySpec : ChangeSpec := { name := "runNobody", fn := fun _ => fun
  | [d1, d2] => { results := [.lit (.bool true)], args := [d1, d2] }
  | _ => none }
def runNobodyRow : OpenClaim := { program := "ytbljooblpfdbiaagreatdoor", sum := "4ed18d289d619b13ba5927e2ad59f3fd46ff3f10298c24af8a6982e6fe2b851c", func := "pedigree/pedigreelaw07.RunNobody", spec := "runNobody", unfollowed := true, recurses := true, named := ["pedigree/crc.table"], plainKeys := false, apart := false, laid := [("pedigree/crc.table", laid_pedigree_crc_table)] }
def RunNobodySaid : Prop := runNobodyRow.holds Tryz.pinned (OpenSpec.ofChange runNobodySpec)

/-- ITS FALSE NEIGHBOUR: 'it returns false'. Refute it at one input. -/
def runNobodyWrong : ChangeSpec := { name := "runNobody", fn := fun _ => fun
  | [d1, d2] => { results := [.lit (.bool false)], args := [d1, d2] }
  | _ => none }
def RunNobodyWrongFalsely : Prop := runNobodyRow.holds Tryz.pinned (OpenSpec.ofChange runNobodyWrong)

/-- 'pedigreelaw07.RunReads': WHATEVER THE INPUT: true; the input reads as it did. -/
def runReadsSpec : ChangeSpec := { name := "runReads", fn := fun _ => fun
  | [d] => { results := [.lit (.bool true)], args := [d] }
  | _ => none }
def runReadsRow : OpenClaim := { program := "ytbljooblpfdbiaagreatdoor", sum := "4ed18d289d619b13ba5927e2ad59f3fd46ff3f10298c24af8a6982e6fe2b851c", func := "pedigree/pedigreelaw07.RunReads", spec := "runReads", unfollowed := true, recurses := true, named := ["pedigree/crc.table"], plainKeys := false, apart := false, laid := [("pedigree/crc.table", laid_pedigree_crc_table)] }
def RunReadsSaid : Prop := runReadsRow.holds Tryz.pinned (OpenSpec.ofChange runReadsSpec)

/-- ITS FALSE NEIGHBOUR: 'it returns false'. Refute it at one input. -/
def runReadsWrong : ChangeSpec := { name := "runReads", fn := fun _ => fun
  | [d] => { results := [.lit (.bool false)], args := [d] }
  | _ => none }
def RunReadsWrongFalsely : Prop := runReadsRow.holds Tryz.pinned (OpenSpec.ofChange runReadsWrong)

/-- 'pedigreelaw07.RunBursts': WHATEVER THE INPUT: true; the input reads as it did. -/
def runBurstsSpec : ChangeSpec := { name := "runBursts", fn := fun _ => fun
  | [d1, d2, d3] => { results := [.lit (.bool true)], args := [d1, d2, d3] }
  | _ => none }
def runBurstsRow : OpenClaim := { program := "ytbljooblpfdbiaagreatdoor", sum := "4ed18d289d619b13ba5927e2ad59f3fd46ff3f10298c24af8a6982e6fe2b851c", func := "pedigree/pedigreelaw07.RunBursts", spec := "runBursts", unfollowed := true, recurses := true, named := ["pedigree/crc.table"], plainKeys := false, apart := false, laid := [("pedigree/crc.table", laid_pedigree_crc_table)] }
def RunBurstsSaid : Prop := runBurstsRow.holds Tryz.pinned (OpenSpec.ofChange runBurstsSpec)

/-- ITS FALSE NEIGHBOUR: 'it returns false'. Refute it at one input. -/
def runBurstsWrong : ChangeSpec := { name := "runBursts", fn := fun _ => fun
  | [d1, d2, d3] => { results := [.lit (.bool false)], args := [d1, d2, d3] }
  | _ => none }
def RunBurstsWrongFalsely : Prop := runBurstsRow.holds Tryz.pinned (OpenSpec.ofChange runBurstsWrong)

/-- 'pedigreelaw07.RunFiles': WHATEVER THE INPUT: true; the input reads as it did. -/
def runFilesSpec : ChangeSpec := { name := "runFiles", fn := fun _ => fun
  | [d1, d2, d3, d4] => { results := [.lit (.bool true)], args := [d1, d2, d3, d4] }
  | _ => none }
def runFilesRow : OpenClaim := { program := "ytbljooblpfdbiaagreatdoor", sum := "4ed18d289d619b13ba5927e2ad59f3fd46ff3f10298c24af8a6982e6fe2b851c", func := "pedigree/pedigreelaw07.RunFiles", spec := "runFiles", unfollowed := true, recurses := true, named := ["pedigree/crc.table"], plainKeys := false, apart := false, laid := [("pedigree/crc.table", laid_pedigree_crc_table)] }
def RunFilesSaid : Prop := runFilesRow.holds Tryz.pinned (OpenSpec.ofChange runFilesSpec)

/-- ITS FALSE NEIGHBOUR: 'it returns false'. Refute it at one input. -/
def runFilesWrong : ChangeSpec := { name := "runFiles", fn := fun _ => fun
  | [d1, d2, d3, d4] => { results := [.lit (.bool false)], args := [d1, d2, d3, d4] }
  | _ => none }
def RunFilesWrongFalsely : Prop := runFilesRow.holds Tryz.pinned (OpenSpec.ofChange runFilesWrong)

/- THE SECOND FORM. 'bulk': how many values and letters a reading holds, each counted each time it is reached (what is shared counts as often as it is met; a slice's spare places count too). A statement '..UptoSaid' is the law's where the arguments, and the package variables that the reading takes, are together of bulk at most 1048576: NARROWER than '..Said'. Prove '..Said' where nothing that the law and all that it calls make is longer than what came in: it says more and counts as full. Else prove '..UptoSaid'. A law counts once. -/
mutual
def uptoBulk {H : Type} : DataW H → Nat
  | .lit (.string bytes) => bytes.length + 1
  | .lit _ => 1
  | .nil => 1
  | .ptr d => uptoBulk d + 1
  | .slice elems spare => uptoBulkAll elems + uptoBulkAll spare + 1
  | .agg parts => uptoBulkAll parts + 1
  | .iface _ d => uptoBulk d + 1
  | .map entries => uptoBulkEntries entries + 1
  | .held _ => 1
def uptoBulkAll {H : Type} : List (DataW H) → Nat
  | [] => 0
  | d :: r => uptoBulk d + uptoBulkAll r
def uptoBulkEntries {H : Type} : List (Lit × DataW H) → Nat
  | [] => 0
  | x :: r => uptoBulkEntry x + uptoBulkEntries r
def uptoBulkEntry {H : Type} : Lit × DataW H → Nat
  | (.string bytes, d) => bytes.length + uptoBulk d + 1
  | (_, d) => uptoBulk d + 1
 end
def uptoSmall : (H : Type) → List (DataW H) → Bool := fun _ ds => decide (uptoBulkAll ds ≤ 1048576)
def OpenSpec.upto (s : _root_.Go.ChangeSpec) : _root_.Go.OpenSpec := { _root_.Go.OpenSpec.ofChange s with cond := some uptoSmall }

/-- 'pedigreelaw07.RunFinds', WHERE WHAT IT READS IS OF BULK AT MOST 1048576: true; the input reads as it did. -/
def runFindsUptoRow : OpenClaim := { program := "ytbljooblpfdbiaagreatdoor", sum := "4ed18d289d619b13ba5927e2ad59f3fd46ff3f10298c24af8a6982e6fe2b851c", func := "pedigree/pedigreelaw07.RunFinds", spec := "runFinds", unfollowed := true, recurses := true, named := ["pedigree/crc.table"], plainKeys := false, apart := false, laid := [("pedigree/crc.table", laid_pedigree_crc_table)], narrowed := true }
def RunFindsUptoSaid : Prop := runFindsUptoRow.holds Tryz.pinned (OpenSpec.upto runFindsSpec)

/-- 'pedigreelaw07.RunWrites', WHERE WHAT IT READS IS OF BULK AT MOST 1048576: true; the input reads as it did. -/
def runWritesUptoRow : OpenClaim := { program := "ytbljooblpfdbiaagreatdoor", sum := "4ed18d289d619b13ba5927e2ad59f3fd46ff3f10298c24af8a6982e6fe2b851c", func := "pedigree/pedigreelaw07.RunWrites", spec := "runWrites", unfollowed := true, recurses := true, named := ["pedigree/crc.table"], plainKeys := false, apart := false, laid := [("pedigree/crc.table", laid_pedigree_crc_table)], narrowed := true }
def RunWritesUptoSaid : Prop := runWritesUptoRow.holds Tryz.pinned (OpenSpec.upto runWritesSpec)

/-- 'pedigreelaw07.RunNobody', WHERE WHAT IT READS IS OF BULK AT MOST 1048576: true; the input reads as it did. -/
def runNobodyUptoRow : OpenClaim := { program := "ytbljooblpfdbiaagreatdoor", sum := "4ed18d289d619b13ba5927e2ad59f3fd46ff3f10298c24af8a6982e6fe2b851c", func := "pedigree/pedigreelaw07.RunNobody", spec := "runNobody", unfollowed := true, recurses := true, named := ["pedigree/crc.table"], plainKeys := false, apart := false, laid := [("pedigree/crc.table", laid_pedigree_crc_table)], narrowed := true }
def RunNobodyUptoSaid : Prop := runNobodyUptoRow.holds Tryz.pinned (OpenSpec.upto runNobodySpec)

/-- 'pedigreelaw07.RunReads', WHERE WHAT IT READS IS OF BULK AT MOST 1048576: true; the input reads as it did. -/
def runReadsUptoRow : OpenClaim := { program := "ytbljooblpfdbiaagreatdoor", sum := "4ed18d289d619b13ba5927e2ad59f3fd46ff3f10298c24af8a6982e6fe2b851c", func := "pedigree/pedigreelaw07.RunReads", spec := "runReads", unfollowed := true, recurses := true, named := ["pedigree/crc.table"], plainKeys := false, apart := false, laid := [("pedigree/crc.table", laid_pedigree_crc_table)], narrowed := true }
def RunReadsUptoSaid : Prop := runReadsUptoRow.holds Tryz.pinned (OpenSpec.upto runReadsSpec)

/-- 'pedigreelaw07.RunBursts', WHERE WHAT IT READS IS OF BULK AT MOST 1048576: true; the input reads as it did. -/
def runBurstsUptoRow : OpenClaim := { program := "ytbljooblpfdbiaagreatdoor", sum := "4ed18d289d619b13ba5927e2ad59f3fd46ff3f10298c24af8a6982e6fe2b851c", func := "pedigree/pedigreelaw07.RunBursts", spec := "runBursts", unfollowed := true, recurses := true, named := ["pedigree/crc.table"], plainKeys := false, apart := false, laid := [("pedigree/crc.table", laid_pedigree_crc_table)], narrowed := true }
def RunBurstsUptoSaid : Prop := runBurstsUptoRow.holds Tryz.pinned (OpenSpec.upto runBurstsSpec)

/-- 'pedigreelaw07.RunFiles', WHERE WHAT IT READS IS OF BULK AT MOST 1048576: true; the input reads as it did. -/
def runFilesUptoRow : OpenClaim := { program := "ytbljooblpfdbiaagreatdoor", sum := "4ed18d289d619b13ba5927e2ad59f3fd46ff3f10298c24af8a6982e6fe2b851c", func := "pedigree/pedigreelaw07.RunFiles", spec := "runFiles", unfollowed := true, recurses := true, named := ["pedigree/crc.table"], plainKeys := false, apart := false, laid := [("pedigree/crc.table", laid_pedigree_crc_table)], narrowed := true }
def RunFilesUptoSaid : Prop := runFilesUptoRow.holds Tryz.pinned (OpenSpec.upto runFilesSpec)

end Rows
end Go.Proofs.YtbljooblpfdbiaaGreatDoor
