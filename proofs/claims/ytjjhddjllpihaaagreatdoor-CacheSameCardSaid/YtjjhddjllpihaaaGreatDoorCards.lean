/-
  DERIVED. GIVEN WITH THE SEED: THE CARDS: each row of YtjjhddjllpihaaaGreatDoorRows.lean that lists a variable, with what it lists TIED to the program's text (the seventh form; the later family's looks); each row that meets fmt, with fmt's text TOLD by the authors' own Lean function (tested against real Go, not proved from fmt's source: count such statements apart). THE CARD IS WHAT COUNTS. Prove the row's statement (the work); the ties are given (YtjjhddjllpihaaaGreatDoorTie.lean); close each card by the builder's one call (the guide's Derived/Test/ToyasCard.lean, 'card_holds'). Laid BY PROGRAM, IN A SANDBOX (cutbox-door.mjs). By AI agents, Wed Nov 11 2026. No macro, syntax, notation, axiom, sorry.
-/
import Derived.Test.YtjjhddjllpihaaaGreatDoorRows
import GoSem.ClaimSeven
namespace Go.Proofs.YtjjhddjllpihaaaGreatDoor
namespace Rows

/-- THE TIED CARD OF 'pedigreelaw08.CacheSame'. -/
def cacheSameCard : Claim7 := { stood := { row := cacheSameRow, standIns := [], harness := (true, "d5a505325c87f1cccf2c0c4d497faf6aac46fdebc35634128c27ed64b8775a1f"), looks := true }, kinds := [], alts := [], laidByText := true, laidKinds := [.data], laidTests := true, laidLooks := .later }
def CacheSameCardSaid : Prop := Claim7.holds Tryz.pinned (.plain (OpenSpec.ofChange cacheSameSpec)) cacheSameCard

/-- THE TIED CARD OF 'pedigreelaw08.CachePages'. -/
def cachePagesCard : Claim7 := { stood := { row := cachePagesRow, standIns := [], harness := (true, "d5a505325c87f1cccf2c0c4d497faf6aac46fdebc35634128c27ed64b8775a1f"), looks := true }, kinds := [], alts := [], laidByText := true, laidKinds := [.data], laidTests := true, laidLooks := .later }
def CachePagesCardSaid : Prop := Claim7.holds Tryz.pinned (.plain (OpenSpec.ofChange cachePagesSpec)) cachePagesCard

/-- THE SECOND FORM's CARD OF 'pedigreelaw08.CacheSame'. -/
def cacheSameUptoCard : Claim7 := { stood := { row := cacheSameUptoRow, standIns := [], harness := (true, "d5a505325c87f1cccf2c0c4d497faf6aac46fdebc35634128c27ed64b8775a1f"), looks := true }, kinds := [], alts := [], laidByText := true, laidKinds := [.data], laidTests := true, laidLooks := .later }
def CacheSameUptoCardSaid : Prop := Claim7.holds Tryz.pinned (.plain (OpenSpec.upto cacheSameSpec)) cacheSameUptoCard

/-- THE SECOND FORM's CARD OF 'pedigreelaw08.CachePages'. -/
def cachePagesUptoCard : Claim7 := { stood := { row := cachePagesUptoRow, standIns := [], harness := (true, "d5a505325c87f1cccf2c0c4d497faf6aac46fdebc35634128c27ed64b8775a1f"), looks := true }, kinds := [], alts := [], laidByText := true, laidKinds := [.data], laidTests := true, laidLooks := .later }
def CachePagesUptoCardSaid : Prop := Claim7.holds Tryz.pinned (.plain (OpenSpec.upto cachePagesSpec)) cachePagesUptoCard
end Rows
end Go.Proofs.YtjjhddjllpihaaaGreatDoor
