/-
  DERIVED. GIVEN WITH THE SEED: THE CARDS: each row of YtlagglkpbnbmeaaGreatDoorRows.lean that lists a variable, with what it lists TIED to the program's text (the seventh form; the later family's looks); each row that meets fmt, with fmt's text TOLD by the authors' own Lean function (tested against real Go, not proved from fmt's source: count such statements apart). THE CARD IS WHAT COUNTS. Prove the row's statement (the work); the ties are given (YtlagglkpbnbmeaaGreatDoorTie.lean); close each card by the builder's one call (the guide's Derived/Test/ToyasCard.lean, 'card_holds'). Laid BY PROGRAM, IN A SANDBOX (cutbox-door.mjs). By AI agents, Wed Nov 11 2026. No macro, syntax, notation, axiom, sorry.
-/
import Derived.Test.YtlagglkpbnbmeaaGreatDoorRows
import GoSem.ClaimSeven
namespace Go.Proofs.YtlagglkpbnbmeaaGreatDoor
namespace Rows

/-- THE TIED CARD OF 'suretylaw07.PrintBig'. -/
def printBigCard : Claim7 := { stood := { row := printBigRow, standIns := [], harness := (true, "a48726b1e5fbc06954be8ff153f9e6df40b9d7adbf194faf00343c012ad15245"), looks := false }, kinds := [], alts := [], laidByText := true, laidKinds := [.data, .data, .data], laidTests := true, laidLooks := .later }
def PrintBigCardSaid : Prop := Claim7.holds Tryz.pinned (.plain (OpenSpec.ofChange printBigSpec)) printBigCard

/-- THE TIED CARD OF 'suretylaw07.PrintExact'. -/
def printExactCard : Claim7 := { stood := { row := printExactRow, standIns := [], harness := (true, "a48726b1e5fbc06954be8ff153f9e6df40b9d7adbf194faf00343c012ad15245"), looks := false }, kinds := [], alts := [], laidByText := true, laidKinds := [.data, .data, .data], laidTests := true, laidLooks := .later }
def PrintExactCardSaid : Prop := Claim7.holds Tryz.pinned (.plain (OpenSpec.ofChange printExactSpec)) printExactCard

/-- THE TIED CARD OF 'suretylaw07.PrintPats'. -/
def printPatsCard : Claim7 := { stood := { row := printPatsRow, standIns := [], harness := (true, "a48726b1e5fbc06954be8ff153f9e6df40b9d7adbf194faf00343c012ad15245"), looks := false }, kinds := [], alts := [], laidByText := true, laidKinds := [.data, .data, .data], laidTests := true, laidLooks := .later }
def PrintPatsCardSaid : Prop := Claim7.holds Tryz.pinned (.plain (OpenSpec.ofChange printPatsSpec)) printPatsCard

/-- THE TIED CARD OF 'suretylaw07.PrintBack'. -/
def printBackCard : Claim7 := { stood := { row := printBackRow, standIns := [], harness := (true, "a48726b1e5fbc06954be8ff153f9e6df40b9d7adbf194faf00343c012ad15245"), looks := false }, kinds := [], alts := [], laidByText := true, laidKinds := [.data, .data, .data], laidTests := true, laidLooks := .later }
def PrintBackCardSaid : Prop := Claim7.holds Tryz.pinned (.plain (OpenSpec.ofChange printBackSpec)) printBackCard

/-- THE TIED CARD OF 'suretylaw07.PrintTwice'. -/
def printTwiceCard : Claim7 := { stood := { row := printTwiceRow, standIns := [], harness := (true, "a48726b1e5fbc06954be8ff153f9e6df40b9d7adbf194faf00343c012ad15245"), looks := false }, kinds := [], alts := [], laidByText := true, laidKinds := [.data, .data, .data], laidTests := true, laidLooks := .later }
def PrintTwiceCardSaid : Prop := Claim7.holds Tryz.pinned (.plain (OpenSpec.ofChange printTwiceSpec)) printTwiceCard

/-- THE TIED CARD OF 'suretylaw07.PrintUnlike'. -/
def printUnlikeCard : Claim7 := { stood := { row := printUnlikeRow, standIns := [], harness := (true, "a48726b1e5fbc06954be8ff153f9e6df40b9d7adbf194faf00343c012ad15245"), looks := false }, kinds := [], alts := [], laidByText := true, laidKinds := [.data, .data, .data], laidTests := true, laidLooks := .later }
def PrintUnlikeCardSaid : Prop := Claim7.holds Tryz.pinned (.plain (OpenSpec.ofChange printUnlikeSpec)) printUnlikeCard

/-- THE SECOND FORM's CARD OF 'suretylaw07.PrintBig'. -/
def printBigUptoCard : Claim7 := { stood := { row := printBigUptoRow, standIns := [], harness := (true, "a48726b1e5fbc06954be8ff153f9e6df40b9d7adbf194faf00343c012ad15245"), looks := false }, kinds := [], alts := [], laidByText := true, laidKinds := [.data, .data, .data], laidTests := true, laidLooks := .later }
def PrintBigUptoCardSaid : Prop := Claim7.holds Tryz.pinned (.plain (OpenSpec.upto printBigSpec)) printBigUptoCard

/-- THE SECOND FORM's CARD OF 'suretylaw07.PrintExact'. -/
def printExactUptoCard : Claim7 := { stood := { row := printExactUptoRow, standIns := [], harness := (true, "a48726b1e5fbc06954be8ff153f9e6df40b9d7adbf194faf00343c012ad15245"), looks := false }, kinds := [], alts := [], laidByText := true, laidKinds := [.data, .data, .data], laidTests := true, laidLooks := .later }
def PrintExactUptoCardSaid : Prop := Claim7.holds Tryz.pinned (.plain (OpenSpec.upto printExactSpec)) printExactUptoCard

/-- THE SECOND FORM's CARD OF 'suretylaw07.PrintPats'. -/
def printPatsUptoCard : Claim7 := { stood := { row := printPatsUptoRow, standIns := [], harness := (true, "a48726b1e5fbc06954be8ff153f9e6df40b9d7adbf194faf00343c012ad15245"), looks := false }, kinds := [], alts := [], laidByText := true, laidKinds := [.data, .data, .data], laidTests := true, laidLooks := .later }
def PrintPatsUptoCardSaid : Prop := Claim7.holds Tryz.pinned (.plain (OpenSpec.upto printPatsSpec)) printPatsUptoCard

/-- THE SECOND FORM's CARD OF 'suretylaw07.PrintBack'. -/
def printBackUptoCard : Claim7 := { stood := { row := printBackUptoRow, standIns := [], harness := (true, "a48726b1e5fbc06954be8ff153f9e6df40b9d7adbf194faf00343c012ad15245"), looks := false }, kinds := [], alts := [], laidByText := true, laidKinds := [.data, .data, .data], laidTests := true, laidLooks := .later }
def PrintBackUptoCardSaid : Prop := Claim7.holds Tryz.pinned (.plain (OpenSpec.upto printBackSpec)) printBackUptoCard

/-- THE SECOND FORM's CARD OF 'suretylaw07.PrintTwice'. -/
def printTwiceUptoCard : Claim7 := { stood := { row := printTwiceUptoRow, standIns := [], harness := (true, "a48726b1e5fbc06954be8ff153f9e6df40b9d7adbf194faf00343c012ad15245"), looks := false }, kinds := [], alts := [], laidByText := true, laidKinds := [.data, .data, .data], laidTests := true, laidLooks := .later }
def PrintTwiceUptoCardSaid : Prop := Claim7.holds Tryz.pinned (.plain (OpenSpec.upto printTwiceSpec)) printTwiceUptoCard

/-- THE SECOND FORM's CARD OF 'suretylaw07.PrintUnlike'. -/
def printUnlikeUptoCard : Claim7 := { stood := { row := printUnlikeUptoRow, standIns := [], harness := (true, "a48726b1e5fbc06954be8ff153f9e6df40b9d7adbf194faf00343c012ad15245"), looks := false }, kinds := [], alts := [], laidByText := true, laidKinds := [.data, .data, .data], laidTests := true, laidLooks := .later }
def PrintUnlikeUptoCardSaid : Prop := Claim7.holds Tryz.pinned (.plain (OpenSpec.upto printUnlikeSpec)) printUnlikeUptoCard
end Rows
end Go.Proofs.YtlagglkpbnbmeaaGreatDoor
