/-
  NARROWER THAN 'FOR EVERY INPUT', by the rows' own cells (each row's printed sentence says how): CrcSums: laid · CrcLong: laid · CrcAdds: laid · CrcBursts: laid · CrcFrames: laid · CrcBack: laid · CrcJoined: laid.
  DERIVED. THE GIVEN ROWS OF THIS SEAT. 7 by the template 'for every input the law returns true; each argument reads behind the call as it read before'; 0 by the template 'total and deterministic' (their statements: YtleaidgngkfjbaaDoorTotals.lean).
  GIVEN WITH THE SEED: the statements are not yours to turn. If you find one false, say at which input.
  Laid BY PROGRAM, IN A SANDBOX (cutbox-rows.mjs): the forced cells as the released guide's own fill.sh prints them over the translation 312f205ce36bb827… (all of the seat's roots in one cut). By AI agents, Wed Nov 11 2026. No macro, syntax, notation, axiom, sorry.
-/
import Derived.Test.YtleaidgngkfjbaaDoorChecked
import GoSem.Claim
import GoSem.ClaimJoined
import GoSem.ClaimMapViews
import Derived.JoinedTies
import Derived.KernelRfl
namespace Go.Proofs.YtleaidgngkfjbaaDoor
/- THE CELL 'sum', in the pinned program and in every row, IS THE sha256 OF THE DUMP (.gsa) THAT YtleaidgngkfjbaaDoorProg.lean LOADS. Nothing in Lean hashes anything: it is a label: what it is worth is what the hold of that sum in a sandbox is worth. -/
noncomputable def Tryd.pinned : Pinned := { name := "ytleaidgngkfjbaadoor", sum := "312f205ce36bb827db382c28ac42044e20dcc52e42e4cd52c97cb57ddcb4a549", checked := Tryd.checked }
namespace Rows
def none {H : Type} : Left H := { results := [], args := [] }

/- WHAT THE LISTED PACKAGE-LEVEL VARIABLES READ AS WHEN THE CALL BEGINS. Each datum BY PROGRAM (the guide's laid-datum.mjs) off the statement by which the dump's own 'gosem.cut.vars' lays the variable. In a bare row this is a premise. The card (YtleaidgngkfjbaaDoorCards.lean) ties it to the program's text. -/
def laid_pedigree_crc_table {H : Type} : DataW H := .agg [.lit (.int .u32 0), .lit (.int .u32 498536548), .lit (.int .u32 997073096), .lit (.int .u32 651767980), .lit (.int .u32 1994146192), .lit (.int .u32 1802195444), .lit (.int .u32 1303535960), .lit (.int .u32 1342533948), .lit (.int .u32 3988292384), .lit (.int .u32 4027552580), .lit (.int .u32 3604390888), .lit (.int .u32 3412177804), .lit (.int .u32 2607071920), .lit (.int .u32 2262029012), .lit (.int .u32 2685067896), .lit (.int .u32 3183342108)]

/-- 'pedigreelaw04.CrcSums': WHATEVER THE INPUT: true; the input reads as it did. -/
def crcSumsSpec : ChangeSpec := { name := "crcSums", fn := fun _ => fun
  | [d] => { results := [.lit (.bool true)], args := [d] }
  | _ => none }
def crcSumsRow : OpenClaim := { program := "ytleaidgngkfjbaadoor", sum := "312f205ce36bb827db382c28ac42044e20dcc52e42e4cd52c97cb57ddcb4a549", func := "pedigree/pedigreelaw04.CrcSums", spec := "crcSums", named := ["pedigree/crc.table"], apart := false, laid := [("pedigree/crc.table", laid_pedigree_crc_table)] }
def CrcSumsSaid : Prop := crcSumsRow.holds Tryd.pinned (OpenSpec.ofChange crcSumsSpec)

/-- ITS FALSE NEIGHBOUR: 'it returns false'. Refute it at one input. -/
def crcSumsWrong : ChangeSpec := { name := "crcSums", fn := fun _ => fun
  | [d] => { results := [.lit (.bool false)], args := [d] }
  | _ => none }
def CrcSumsWrongFalsely : Prop := crcSumsRow.holds Tryd.pinned (OpenSpec.ofChange crcSumsWrong)

/-- 'pedigreelaw04.CrcLong': WHATEVER THE INPUT: true; the input reads as it did. -/
def crcLongSpec : ChangeSpec := { name := "crcLong", fn := fun _ => fun
  | [d1, d2] => { results := [.lit (.bool true)], args := [d1, d2] }
  | _ => none }
def crcLongRow : OpenClaim := { program := "ytleaidgngkfjbaadoor", sum := "312f205ce36bb827db382c28ac42044e20dcc52e42e4cd52c97cb57ddcb4a549", func := "pedigree/pedigreelaw04.CrcLong", spec := "crcLong", named := ["pedigree/crc.table"], apart := false, laid := [("pedigree/crc.table", laid_pedigree_crc_table)] }
def CrcLongSaid : Prop := crcLongRow.holds Tryd.pinned (OpenSpec.ofChange crcLongSpec)

/-- ITS FALSE NEIGHBOUR: 'it returns false'. Refute it at one input. -/
def crcLongWrong : ChangeSpec := { name := "crcLong", fn := fun _ => fun
  | [d1, d2] => { results := [.lit (.bool false)], args := [d1, d2] }
  | _ => none }
def CrcLongWrongFalsely : Prop := crcLongRow.holds Tryd.pinned (OpenSpec.ofChange crcLongWrong)

/-- 'pedigreelaw04.CrcAdds': WHATEVER THE INPUT: true; the input reads as it did. -/
def crcAddsSpec : ChangeSpec := { name := "crcAdds", fn := fun _ => fun
  | [d] => { results := [.lit (.bool true)], args := [d] }
  | _ => none }
def crcAddsRow : OpenClaim := { program := "ytleaidgngkfjbaadoor", sum := "312f205ce36bb827db382c28ac42044e20dcc52e42e4cd52c97cb57ddcb4a549", func := "pedigree/pedigreelaw04.CrcAdds", spec := "crcAdds", named := ["pedigree/crc.table"], apart := false, laid := [("pedigree/crc.table", laid_pedigree_crc_table)] }
def CrcAddsSaid : Prop := crcAddsRow.holds Tryd.pinned (OpenSpec.ofChange crcAddsSpec)

/-- ITS FALSE NEIGHBOUR: 'it returns false'. Refute it at one input. -/
def crcAddsWrong : ChangeSpec := { name := "crcAdds", fn := fun _ => fun
  | [d] => { results := [.lit (.bool false)], args := [d] }
  | _ => none }
def CrcAddsWrongFalsely : Prop := crcAddsRow.holds Tryd.pinned (OpenSpec.ofChange crcAddsWrong)

/-- 'pedigreelaw04.CrcBursts': WHATEVER THE INPUT: true; the input reads as it did. -/
def crcBurstsSpec : ChangeSpec := { name := "crcBursts", fn := fun _ => fun
  | [d1, d2, d3] => { results := [.lit (.bool true)], args := [d1, d2, d3] }
  | _ => none }
def crcBurstsRow : OpenClaim := { program := "ytleaidgngkfjbaadoor", sum := "312f205ce36bb827db382c28ac42044e20dcc52e42e4cd52c97cb57ddcb4a549", func := "pedigree/pedigreelaw04.CrcBursts", spec := "crcBursts", named := ["pedigree/crc.table"], apart := false, laid := [("pedigree/crc.table", laid_pedigree_crc_table)] }
def CrcBurstsSaid : Prop := crcBurstsRow.holds Tryd.pinned (OpenSpec.ofChange crcBurstsSpec)

/-- ITS FALSE NEIGHBOUR: 'it returns false'. Refute it at one input. -/
def crcBurstsWrong : ChangeSpec := { name := "crcBursts", fn := fun _ => fun
  | [d1, d2, d3] => { results := [.lit (.bool false)], args := [d1, d2, d3] }
  | _ => none }
def CrcBurstsWrongFalsely : Prop := crcBurstsRow.holds Tryd.pinned (OpenSpec.ofChange crcBurstsWrong)

/-- 'pedigreelaw04.CrcFrames': WHATEVER THE INPUT: true; the input reads as it did. -/
def crcFramesSpec : ChangeSpec := { name := "crcFrames", fn := fun _ => fun
  | [d1, d2] => { results := [.lit (.bool true)], args := [d1, d2] }
  | _ => none }
def crcFramesRow : OpenClaim := { program := "ytleaidgngkfjbaadoor", sum := "312f205ce36bb827db382c28ac42044e20dcc52e42e4cd52c97cb57ddcb4a549", func := "pedigree/pedigreelaw04.CrcFrames", spec := "crcFrames", unfollowed := true, recurses := true, named := ["pedigree/crc.table"], apart := false, laid := [("pedigree/crc.table", laid_pedigree_crc_table)] }
def CrcFramesSaid : Prop := crcFramesRow.holds Tryd.pinned (OpenSpec.ofChange crcFramesSpec)

/-- ITS FALSE NEIGHBOUR: 'it returns false'. Refute it at one input. -/
def crcFramesWrong : ChangeSpec := { name := "crcFrames", fn := fun _ => fun
  | [d1, d2] => { results := [.lit (.bool false)], args := [d1, d2] }
  | _ => none }
def CrcFramesWrongFalsely : Prop := crcFramesRow.holds Tryd.pinned (OpenSpec.ofChange crcFramesWrong)

/-- 'pedigreelaw04.CrcBack': WHATEVER THE INPUT: true; the input reads as it did. -/
def crcBackSpec : ChangeSpec := { name := "crcBack", fn := fun _ => fun
  | [d1, d2] => { results := [.lit (.bool true)], args := [d1, d2] }
  | _ => none }
def crcBackRow : OpenClaim := { program := "ytleaidgngkfjbaadoor", sum := "312f205ce36bb827db382c28ac42044e20dcc52e42e4cd52c97cb57ddcb4a549", func := "pedigree/pedigreelaw04.CrcBack", spec := "crcBack", unfollowed := true, recurses := true, named := ["pedigree/crc.table"], apart := false, laid := [("pedigree/crc.table", laid_pedigree_crc_table)] }
def CrcBackSaid : Prop := crcBackRow.holds Tryd.pinned (OpenSpec.ofChange crcBackSpec)

/-- ITS FALSE NEIGHBOUR: 'it returns false'. Refute it at one input. -/
def crcBackWrong : ChangeSpec := { name := "crcBack", fn := fun _ => fun
  | [d1, d2] => { results := [.lit (.bool false)], args := [d1, d2] }
  | _ => none }
def CrcBackWrongFalsely : Prop := crcBackRow.holds Tryd.pinned (OpenSpec.ofChange crcBackWrong)

/-- 'pedigreelaw04.CrcJoined': WHATEVER THE INPUT: true; the input reads as it did. -/
def crcJoinedSpec : ChangeSpec := { name := "crcJoined", fn := fun _ => fun
  | [d1, d2] => { results := [.lit (.bool true)], args := [d1, d2] }
  | _ => none }
def crcJoinedRow : OpenClaim := { program := "ytleaidgngkfjbaadoor", sum := "312f205ce36bb827db382c28ac42044e20dcc52e42e4cd52c97cb57ddcb4a549", func := "pedigree/pedigreelaw04.CrcJoined", spec := "crcJoined", named := ["pedigree/crc.table"], apart := false, laid := [("pedigree/crc.table", laid_pedigree_crc_table)] }
def CrcJoinedSaid : Prop := crcJoinedRow.holds Tryd.pinned (OpenSpec.ofChange crcJoinedSpec)

/-- ITS FALSE NEIGHBOUR: 'it returns false'. Refute it at one input. -/
def crcJoinedWrong : ChangeSpec := { name := "crcJoined", fn := fun _ => fun
  | [d1, d2] => { results := [.lit (.bool false)], args := [d1, d2] }
  | _ => none }
def CrcJoinedWrongFalsely : Prop := crcJoinedRow.holds Tryd.pinned (OpenSpec.ofChange crcJoinedWrong)

/- THE SECOND FORM. 'bulk': how many values and letters a reading holds, each counted each time it is reached (what is shared counts as often as it is met; a slice's spare places count too). A statement '..UptoSaid' is the law's where the arguments, and the package variables that the reading takes, are together of bulk at most 1048576: NARROWER than '..Said'. Prove '..Said' where nothing that the law and all that it calls make is longer than what came in: it says more and counts as full. Else prove '..UptoSaid'. A law counts once. -/
mutual
def uptoBulk {H : Type} : DataW H → Nat
  | .lit (.string bytes) => bytes.length + 1
  | .lit _ => 1
  | .nil => 1
  | .ptr d => uptoBulk d + 1
  | .slice elems spare => uptoBulkAll elems + uptoBulkAll spare + 1
  | .agg parts => uptoBulkAll parts + 1
  | .iface _ d => uptoBulk d + 1
  | .map entries => uptoBulkEntries entries + 1
  | .held _ => 1
def uptoBulkAll {H : Type} : List (DataW H) → Nat
  | [] => 0
  | d :: r => uptoBulk d + uptoBulkAll r
def uptoBulkEntries {H : Type} : List (Lit × DataW H) → Nat
  | [] => 0
  | x :: r => uptoBulkEntry x + uptoBulkEntries r
def uptoBulkEntry {H : Type} : Lit × DataW H → Nat
  | (.string bytes, d) => bytes.length + uptoBulk d + 1
  | (_, d) => uptoBulk d + 1
 end
def uptoSmall : (H : Type) → List (DataW H) → Bool := fun _ ds => decide (uptoBulkAll ds ≤ 1048576)
def OpenSpec.upto (s : _root_.Go.ChangeSpec) : _root_.Go.OpenSpec := { _root_.Go.OpenSpec.ofChange s with cond := some uptoSmall }

/-- 'pedigreelaw04.CrcSums', WHERE WHAT IT READS IS OF BULK AT MOST 1048576: true; the input reads as it did. -/
def crcSumsUptoRow : OpenClaim := { program := "ytleaidgngkfjbaadoor", sum := "312f205ce36bb827db382c28ac42044e20dcc52e42e4cd52c97cb57ddcb4a549", func := "pedigree/pedigreelaw04.CrcSums", spec := "crcSums", named := ["pedigree/crc.table"], apart := false, laid := [("pedigree/crc.table", laid_pedigree_crc_table)], narrowed := true }
def CrcSumsUptoSaid : Prop := crcSumsUptoRow.holds Tryd.pinned (OpenSpec.upto crcSumsSpec)

/-- 'pedigreelaw04.CrcLong', WHERE WHAT IT READS IS OF BULK AT MOST 1048576: true; the input reads as it did. -/
def crcLongUptoRow : OpenClaim := { program := "ytleaidgngkfjbaadoor", sum := "312f205ce36bb827db382c28ac42044e20dcc52e42e4cd52c97cb57ddcb4a549", func := "pedigree/pedigreelaw04.CrcLong", spec := "crcLong", named := ["pedigree/crc.table"], apart := false, laid := [("pedigree/crc.table", laid_pedigree_crc_table)], narrowed := true }
def CrcLongUptoSaid : Prop := crcLongUptoRow.holds Tryd.pinned (OpenSpec.upto crcLongSpec)

/-- 'pedigreelaw04.CrcAdds', WHERE WHAT IT READS IS OF BULK AT MOST 1048576: true; the input reads as it did. -/
def crcAddsUptoRow : OpenClaim := { program := "ytleaidgngkfjbaadoor", sum := "312f205ce36bb827db382c28ac42044e20dcc52e42e4cd52c97cb57ddcb4a549", func := "pedigree/pedigreelaw04.CrcAdds", spec := "crcAdds", named := ["pedigree/crc.table"], apart := false, laid := [("pedigree/crc.table", laid_pedigree_crc_table)], narrowed := true }
def CrcAddsUptoSaid : Prop := crcAddsUptoRow.holds Tryd.pinned (OpenSpec.upto crcAddsSpec)

/-- 'pedigreelaw04.CrcBursts', WHERE WHAT IT READS IS OF BULK AT MOST 1048576: true; the input reads as it did. -/
def crcBurstsUptoRow : OpenClaim := { program := "ytleaidgngkfjbaadoor", sum := "312f205ce36bb827db382c28ac42044e20dcc52e42e4cd52c97cb57ddcb4a549", func := "pedigree/pedigreelaw04.CrcBursts", spec := "crcBursts", named := ["pedigree/crc.table"], apart := false, laid := [("pedigree/crc.table", laid_pedigree_crc_table)], narrowed := true }
def CrcBurstsUptoSaid : Prop := crcBurstsUptoRow.holds Tryd.pinned (OpenSpec.upto crcBurstsSpec)

/-- 'pedigreelaw04.CrcFrames', WHERE WHAT IT READS IS OF BULK AT MOST 1048576: true; the input reads as it did. -/
def crcFramesUptoRow : OpenClaim := { program := "ytleaidgngkfjbaadoor", sum := "312f205ce36bb827db382c28ac42044e20dcc52e42e4cd52c97cb57ddcb4a549", func := "pedigree/pedigreelaw04.CrcFrames", spec := "crcFrames", unfollowed := true, recurses := true, named := ["pedigree/crc.table"], apart := false, laid := [("pedigree/crc.table", laid_pedigree_crc_table)], narrowed := true }
def CrcFramesUptoSaid : Prop := crcFramesUptoRow.holds Tryd.pinned (OpenSpec.upto crcFramesSpec)

/-- 'pedigreelaw04.CrcBack', WHERE WHAT IT READS IS OF BULK AT MOST 1048576: true; the input reads as it did. -/
def crcBackUptoRow : OpenClaim := { program := "ytleaidgngkfjbaadoor", sum := "312f205ce36bb827db382c28ac42044e20dcc52e42e4cd52c97cb57ddcb4a549", func := "pedigree/pedigreelaw04.CrcBack", spec := "crcBack", unfollowed := true, recurses := true, named := ["pedigree/crc.table"], apart := false, laid := [("pedigree/crc.table", laid_pedigree_crc_table)], narrowed := true }
def CrcBackUptoSaid : Prop := crcBackUptoRow.holds Tryd.pinned (OpenSpec.upto crcBackSpec)

/-- 'pedigreelaw04.CrcJoined', WHERE WHAT IT READS IS OF BULK AT MOST 1048576: true; the input reads as it did. -/
def crcJoinedUptoRow : OpenClaim := { program := "ytleaidgngkfjbaadoor", sum := "312f205ce36bb827db382c28ac42044e20dcc52e42e4cd52c97cb57ddcb4a549", func := "pedigree/pedigreelaw04.CrcJoined", spec := "crcJoined", named := ["pedigree/crc.table"], apart := false, laid := [("pedigree/crc.table", laid_pedigree_crc_table)], narrowed := true }
def CrcJoinedUptoSaid : Prop := crcJoinedUptoRow.holds Tryd.pinned (OpenSpec.upto crcJoinedSpec)

end Rows
end Go.Proofs.YtleaidgngkfjbaaDoor
