/-
  DERIVED. GIVEN WITH THE SEED: THE CARDS: each row of YtbljooblpfdbiaaGreatDoorRows.lean that lists a variable, with what it lists TIED to the program's text (the seventh form; the later family's looks); each row that meets fmt, with fmt's text TOLD by the authors' own Lean function (tested against real Go, not proved from fmt's source: count such statements apart). THE CARD IS WHAT COUNTS. Prove the row's statement (the work); the ties are given (YtbljooblpfdbiaaGreatDoorTie.lean); close each card by the builder's one call (the guide's Derived/Test/ToyasCard.lean, 'card_holds'). Laid BY PROGRAM, IN A SANDBOX (cutbox-door.mjs). By AI agents, Wed Nov 11 2026. No macro, syntax, notation, axiom, sorry.
-/
import Derived.Test.YtbljooblpfdbiaaGreatDoorRows
import GoSem.ClaimSeven
namespace Go.Proofs.YtbljooblpfdbiaaGreatDoor
namespace Rows

/-- THE TIED CARD OF 'pedigreelaw07.RunFinds'. -/
def runFindsCard : Claim7 := { stood := { row := runFindsRow, standIns := [], harness := (true, "ae14eb7564825f80095717570fd61bc53ab4c676b58f62a3e479684e8ac521c1"), looks := true }, kinds := [], alts := [], laidByText := true, laidKinds := [.data], laidTests := true, laidLooks := .later }
def RunFindsCardSaid : Prop := Claim7.holds Tryz.pinned (.plain (OpenSpec.ofChange runFindsSpec)) runFindsCard

/-- THE TIED CARD OF 'pedigreelaw07.RunWrites'. -/
def runWritesCard : Claim7 := { stood := { row := runWritesRow, standIns := [], harness := (true, "ae14eb7564825f80095717570fd61bc53ab4c676b58f62a3e479684e8ac521c1"), looks := true }, kinds := [], alts := [], laidByText := true, laidKinds := [.data], laidTests := true, laidLooks := .later }
def RunWritesCardSaid : Prop := Claim7.holds Tryz.pinned (.plain (OpenSpec.ofChange runWritesSpec)) runWritesCard

/-- THE TIED CARD OF 'pedigreelaw07.RunNobody'. -/
def runNobodyCard : Claim7 := { stood := { row := runNobodyRow, standIns := [], harness := (true, "ae14eb7564825f80095717570fd61bc53ab4c676b58f62a3e479684e8ac521c1"), looks := true }, kinds := [], alts := [], laidByText := true, laidKinds := [.data], laidTests := true, laidLooks := .later }
def RunNobodyCardSaid : Prop := Claim7.holds Tryz.pinned (.plain (OpenSpec.ofChange runNobodySpec)) runNobodyCard

/-- THE TIED CARD OF 'pedigreelaw07.RunReads'. -/
def runReadsCard : Claim7 := { stood := { row := runReadsRow, standIns := [], harness := (true, "ae14eb7564825f80095717570fd61bc53ab4c676b58f62a3e479684e8ac521c1"), looks := true }, kinds := [], alts := [], laidByText := true, laidKinds := [.data], laidTests := true, laidLooks := .later }
def RunReadsCardSaid : Prop := Claim7.holds Tryz.pinned (.plain (OpenSpec.ofChange runReadsSpec)) runReadsCard

/-- THE TIED CARD OF 'pedigreelaw07.RunBursts'. -/
def runBurstsCard : Claim7 := { stood := { row := runBurstsRow, standIns := [], harness := (true, "ae14eb7564825f80095717570fd61bc53ab4c676b58f62a3e479684e8ac521c1"), looks := true }, kinds := [], alts := [], laidByText := true, laidKinds := [.data], laidTests := true, laidLooks := .later }
def RunBurstsCardSaid : Prop := Claim7.holds Tryz.pinned (.plain (OpenSpec.ofChange runBurstsSpec)) runBurstsCard

/-- THE TIED CARD OF 'pedigreelaw07.RunFiles'. -/
def runFilesCard : Claim7 := { stood := { row := runFilesRow, standIns := [], harness := (true, "ae14eb7564825f80095717570fd61bc53ab4c676b58f62a3e479684e8ac521c1"), looks := true }, kinds := [], alts := [], laidByText := true, laidKinds := [.data], laidTests := true, laidLooks := .later }
def RunFilesCardSaid : Prop := Claim7.holds Tryz.pinned (.plain (OpenSpec.ofChange runFilesSpec)) runFilesCard

/-- THE SECOND FORM's CARD OF 'pedigreelaw07.RunFinds'. -/
def runFindsUptoCard : Claim7 := { stood := { row := runFindsUptoRow, standIns := [], harness := (true, "ae14eb7564825f80095717570fd61bc53ab4c676b58f62a3e479684e8ac521c1"), looks := true }, kinds := [], alts := [], laidByText := true, laidKinds := [.data], laidTests := true, laidLooks := .later }
def RunFindsUptoCardSaid : Prop := Claim7.holds Tryz.pinned (.plain (OpenSpec.upto runFindsSpec)) runFindsUptoCard

/-- THE SECOND FORM's CARD OF 'pedigreelaw07.RunWrites'. -/
def runWritesUptoCard : Claim7 := { stood := { row := runWritesUptoRow, standIns := [], harness := (true, "ae14eb7564825f80095717570fd61bc53ab4c676b58f62a3e479684e8ac521c1"), looks := true }, kinds := [], alts := [], laidByText := true, laidKinds := [.data], laidTests := true, laidLooks := .later }
def RunWritesUptoCardSaid : Prop := Claim7.holds Tryz.pinned (.plain (OpenSpec.upto runWritesSpec)) runWritesUptoCard

/-- THE SECOND FORM's CARD OF 'pedigreelaw07.RunNobody'. -/
def runNobodyUptoCard : Claim7 := { stood := { row := runNobodyUptoRow, standIns := [], harness := (true, "ae14eb7564825f80095717570fd61bc53ab4c676b58f62a3e479684e8ac521c1"), looks := true }, kinds := [], alts := [], laidByText := true, laidKinds := [.data], laidTests := true, laidLooks := .later }
def RunNobodyUptoCardSaid : Prop := Claim7.holds Tryz.pinned (.plain (OpenSpec.upto runNobodySpec)) runNobodyUptoCard

/-- THE SECOND FORM's CARD OF 'pedigreelaw07.RunReads'. -/
def runReadsUptoCard : Claim7 := { stood := { row := runReadsUptoRow, standIns := [], harness := (true, "ae14eb7564825f80095717570fd61bc53ab4c676b58f62a3e479684e8ac521c1"), looks := true }, kinds := [], alts := [], laidByText := true, laidKinds := [.data], laidTests := true, laidLooks := .later }
def RunReadsUptoCardSaid : Prop := Claim7.holds Tryz.pinned (.plain (OpenSpec.upto runReadsSpec)) runReadsUptoCard

/-- THE SECOND FORM's CARD OF 'pedigreelaw07.RunBursts'. -/
def runBurstsUptoCard : Claim7 := { stood := { row := runBurstsUptoRow, standIns := [], harness := (true, "ae14eb7564825f80095717570fd61bc53ab4c676b58f62a3e479684e8ac521c1"), looks := true }, kinds := [], alts := [], laidByText := true, laidKinds := [.data], laidTests := true, laidLooks := .later }
def RunBurstsUptoCardSaid : Prop := Claim7.holds Tryz.pinned (.plain (OpenSpec.upto runBurstsSpec)) runBurstsUptoCard

/-- THE SECOND FORM's CARD OF 'pedigreelaw07.RunFiles'. -/
def runFilesUptoCard : Claim7 := { stood := { row := runFilesUptoRow, standIns := [], harness := (true, "ae14eb7564825f80095717570fd61bc53ab4c676b58f62a3e479684e8ac521c1"), looks := true }, kinds := [], alts := [], laidByText := true, laidKinds := [.data], laidTests := true, laidLooks := .later }
def RunFilesUptoCardSaid : Prop := Claim7.holds Tryz.pinned (.plain (OpenSpec.upto runFilesSpec)) runFilesUptoCard
end Rows
end Go.Proofs.YtbljooblpfdbiaaGreatDoor
