/-
  DERIVED. GIVEN WITH THE SEED: THE CARDS: each row of YtleaidgngkfjbaaDoorRows.lean that lists a variable, with what it lists TIED to the program's text (the seventh form; the later family's looks); each row that meets fmt, with fmt's text TOLD by the authors' own Lean function (tested against real Go, not proved from fmt's source: count such statements apart). THE CARD IS WHAT COUNTS. Prove the row's statement (the work); the ties are given (YtleaidgngkfjbaaDoorTie.lean); close each card by the builder's one call (the guide's Derived/Test/ToyasCard.lean, 'card_holds'). Laid BY PROGRAM, IN A SANDBOX (cutbox-door.mjs). By AI agents, Wed Nov 11 2026. No macro, syntax, notation, axiom, sorry.
-/
import Derived.Test.YtleaidgngkfjbaaDoorRows
import GoSem.ClaimSeven
namespace Go.Proofs.YtleaidgngkfjbaaDoor
namespace Rows

/-- THE TIED CARD OF 'pedigreelaw04.CrcSums'. -/
def crcSumsCard : Claim7 := { stood := { row := crcSumsRow, standIns := [], harness := (true, "381bc6bfec18be43b15baf1dd0ca74dc92367ce759e9eff3758af7fb6c0d07b4"), looks := false }, kinds := [], alts := [], laidByText := true, laidKinds := [.data], laidTests := true, laidLooks := .later }
def CrcSumsCardSaid : Prop := Claim7.holds Tryd.pinned (.plain (OpenSpec.ofChange crcSumsSpec)) crcSumsCard

/-- THE TIED CARD OF 'pedigreelaw04.CrcLong'. -/
def crcLongCard : Claim7 := { stood := { row := crcLongRow, standIns := [], harness := (true, "381bc6bfec18be43b15baf1dd0ca74dc92367ce759e9eff3758af7fb6c0d07b4"), looks := false }, kinds := [], alts := [], laidByText := true, laidKinds := [.data], laidTests := true, laidLooks := .later }
def CrcLongCardSaid : Prop := Claim7.holds Tryd.pinned (.plain (OpenSpec.ofChange crcLongSpec)) crcLongCard

/-- THE TIED CARD OF 'pedigreelaw04.CrcAdds'. -/
def crcAddsCard : Claim7 := { stood := { row := crcAddsRow, standIns := [], harness := (true, "381bc6bfec18be43b15baf1dd0ca74dc92367ce759e9eff3758af7fb6c0d07b4"), looks := false }, kinds := [], alts := [], laidByText := true, laidKinds := [.data], laidTests := true, laidLooks := .later }
def CrcAddsCardSaid : Prop := Claim7.holds Tryd.pinned (.plain (OpenSpec.ofChange crcAddsSpec)) crcAddsCard

/-- THE TIED CARD OF 'pedigreelaw04.CrcBursts'. -/
def crcBurstsCard : Claim7 := { stood := { row := crcBurstsRow, standIns := [], harness := (true, "381bc6bfec18be43b15baf1dd0ca74dc92367ce759e9eff3758af7fb6c0d07b4"), looks := false }, kinds := [], alts := [], laidByText := true, laidKinds := [.data], laidTests := true, laidLooks := .later }
def CrcBurstsCardSaid : Prop := Claim7.holds Tryd.pinned (.plain (OpenSpec.ofChange crcBurstsSpec)) crcBurstsCard

/-- THE TIED CARD OF 'pedigreelaw04.CrcFrames'. -/
def crcFramesCard : Claim7 := { stood := { row := crcFramesRow, standIns := [], harness := (true, "381bc6bfec18be43b15baf1dd0ca74dc92367ce759e9eff3758af7fb6c0d07b4"), looks := false }, kinds := [], alts := [], laidByText := true, laidKinds := [.data], laidTests := true, laidLooks := .later }
def CrcFramesCardSaid : Prop := Claim7.holds Tryd.pinned (.plain (OpenSpec.ofChange crcFramesSpec)) crcFramesCard

/-- THE TIED CARD OF 'pedigreelaw04.CrcBack'. -/
def crcBackCard : Claim7 := { stood := { row := crcBackRow, standIns := [], harness := (true, "381bc6bfec18be43b15baf1dd0ca74dc92367ce759e9eff3758af7fb6c0d07b4"), looks := false }, kinds := [], alts := [], laidByText := true, laidKinds := [.data], laidTests := true, laidLooks := .later }
def CrcBackCardSaid : Prop := Claim7.holds Tryd.pinned (.plain (OpenSpec.ofChange crcBackSpec)) crcBackCard

/-- THE TIED CARD OF 'pedigreelaw04.CrcJoined'. -/
def crcJoinedCard : Claim7 := { stood := { row := crcJoinedRow, standIns := [], harness := (true, "381bc6bfec18be43b15baf1dd0ca74dc92367ce759e9eff3758af7fb6c0d07b4"), looks := false }, kinds := [], alts := [], laidByText := true, laidKinds := [.data], laidTests := true, laidLooks := .later }
def CrcJoinedCardSaid : Prop := Claim7.holds Tryd.pinned (.plain (OpenSpec.ofChange crcJoinedSpec)) crcJoinedCard

/-- THE SECOND FORM's CARD OF 'pedigreelaw04.CrcSums'. -/
def crcSumsUptoCard : Claim7 := { stood := { row := crcSumsUptoRow, standIns := [], harness := (true, "381bc6bfec18be43b15baf1dd0ca74dc92367ce759e9eff3758af7fb6c0d07b4"), looks := false }, kinds := [], alts := [], laidByText := true, laidKinds := [.data], laidTests := true, laidLooks := .later }
def CrcSumsUptoCardSaid : Prop := Claim7.holds Tryd.pinned (.plain (OpenSpec.upto crcSumsSpec)) crcSumsUptoCard

/-- THE SECOND FORM's CARD OF 'pedigreelaw04.CrcLong'. -/
def crcLongUptoCard : Claim7 := { stood := { row := crcLongUptoRow, standIns := [], harness := (true, "381bc6bfec18be43b15baf1dd0ca74dc92367ce759e9eff3758af7fb6c0d07b4"), looks := false }, kinds := [], alts := [], laidByText := true, laidKinds := [.data], laidTests := true, laidLooks := .later }
def CrcLongUptoCardSaid : Prop := Claim7.holds Tryd.pinned (.plain (OpenSpec.upto crcLongSpec)) crcLongUptoCard

/-- THE SECOND FORM's CARD OF 'pedigreelaw04.CrcAdds'. -/
def crcAddsUptoCard : Claim7 := { stood := { row := crcAddsUptoRow, standIns := [], harness := (true, "381bc6bfec18be43b15baf1dd0ca74dc92367ce759e9eff3758af7fb6c0d07b4"), looks := false }, kinds := [], alts := [], laidByText := true, laidKinds := [.data], laidTests := true, laidLooks := .later }
def CrcAddsUptoCardSaid : Prop := Claim7.holds Tryd.pinned (.plain (OpenSpec.upto crcAddsSpec)) crcAddsUptoCard

/-- THE SECOND FORM's CARD OF 'pedigreelaw04.CrcBursts'. -/
def crcBurstsUptoCard : Claim7 := { stood := { row := crcBurstsUptoRow, standIns := [], harness := (true, "381bc6bfec18be43b15baf1dd0ca74dc92367ce759e9eff3758af7fb6c0d07b4"), looks := false }, kinds := [], alts := [], laidByText := true, laidKinds := [.data], laidTests := true, laidLooks := .later }
def CrcBurstsUptoCardSaid : Prop := Claim7.holds Tryd.pinned (.plain (OpenSpec.upto crcBurstsSpec)) crcBurstsUptoCard

/-- THE SECOND FORM's CARD OF 'pedigreelaw04.CrcFrames'. -/
def crcFramesUptoCard : Claim7 := { stood := { row := crcFramesUptoRow, standIns := [], harness := (true, "381bc6bfec18be43b15baf1dd0ca74dc92367ce759e9eff3758af7fb6c0d07b4"), looks := false }, kinds := [], alts := [], laidByText := true, laidKinds := [.data], laidTests := true, laidLooks := .later }
def CrcFramesUptoCardSaid : Prop := Claim7.holds Tryd.pinned (.plain (OpenSpec.upto crcFramesSpec)) crcFramesUptoCard

/-- THE SECOND FORM's CARD OF 'pedigreelaw04.CrcBack'. -/
def crcBackUptoCard : Claim7 := { stood := { row := crcBackUptoRow, standIns := [], harness := (true, "381bc6bfec18be43b15baf1dd0ca74dc92367ce759e9eff3758af7fb6c0d07b4"), looks := false }, kinds := [], alts := [], laidByText := true, laidKinds := [.data], laidTests := true, laidLooks := .later }
def CrcBackUptoCardSaid : Prop := Claim7.holds Tryd.pinned (.plain (OpenSpec.upto crcBackSpec)) crcBackUptoCard

/-- THE SECOND FORM's CARD OF 'pedigreelaw04.CrcJoined'. -/
def crcJoinedUptoCard : Claim7 := { stood := { row := crcJoinedUptoRow, standIns := [], harness := (true, "381bc6bfec18be43b15baf1dd0ca74dc92367ce759e9eff3758af7fb6c0d07b4"), looks := false }, kinds := [], alts := [], laidByText := true, laidKinds := [.data], laidTests := true, laidLooks := .later }
def CrcJoinedUptoCardSaid : Prop := Claim7.holds Tryd.pinned (.plain (OpenSpec.upto crcJoinedSpec)) crcJoinedUptoCard
end Rows
end Go.Proofs.YtleaidgngkfjbaaDoor
