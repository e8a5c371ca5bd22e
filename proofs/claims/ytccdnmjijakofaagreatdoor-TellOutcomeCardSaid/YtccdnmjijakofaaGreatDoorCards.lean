/-
  DERIVED. GIVEN WITH THE SEED: THE CARDS: each row of YtccdnmjijakofaaGreatDoorRows.lean that lists a variable, with what it lists TIED to the program's text (the seventh form; the later family's looks); each row that meets fmt, with fmt's text TOLD by the authors' own Lean function (tested against real Go, not proved from fmt's source: count such statements apart). THE CARD IS WHAT COUNTS. Prove the row's statement (the work); the ties are given (YtccdnmjijakofaaGreatDoorTie.lean); close each card by the builder's one call (the guide's Derived/Test/ToyasCard.lean, 'card_holds'). Laid BY PROGRAM, IN A SANDBOX (cutbox-door.mjs). By AI agents, Wed Nov 11 2026. No macro, syntax, notation, axiom, sorry.
-/
import Derived.Test.YtccdnmjijakofaaGreatDoorRows
import GoSem.ClaimSeven
namespace Go.Proofs.YtccdnmjijakofaaGreatDoor
namespace Rows

/-- THE TIED CARD OF 'suretylaw27.TellExact'. -/
def tellExactCard : Claim7 := { stood := { row := tellExactRow, standIns := [], harness := (true, "da8c4913349bfeb6b509047010ca65d2bee12b9d97aaedb2987d8de0edb6374c"), looks := false }, kinds := [], alts := [], laidByText := true, laidKinds := [.data, .data, .data], laidTests := true, laidLooks := .later }
def TellExactCardSaid : Prop := Claim7.holds Tryz.pinned (.plain (OpenSpec.ofChange tellExactSpec)) tellExactCard

/-- THE TIED CARD OF 'suretylaw27.TellOutcome'. -/
def tellOutcomeCard : Claim7 := { stood := { row := tellOutcomeRow, standIns := [], harness := (true, "da8c4913349bfeb6b509047010ca65d2bee12b9d97aaedb2987d8de0edb6374c"), looks := false }, kinds := [], alts := [], laidByText := true, laidKinds := [.data, .data, .data], laidTests := true, laidLooks := .later }
def TellOutcomeCardSaid : Prop := Claim7.holds Tryz.pinned (.plain (OpenSpec.ofChange tellOutcomeSpec)) tellOutcomeCard

/-- THE SECOND FORM's CARD OF 'suretylaw27.TellExact'. -/
def tellExactUptoCard : Claim7 := { stood := { row := tellExactUptoRow, standIns := [], harness := (true, "da8c4913349bfeb6b509047010ca65d2bee12b9d97aaedb2987d8de0edb6374c"), looks := false }, kinds := [], alts := [], laidByText := true, laidKinds := [.data, .data, .data], laidTests := true, laidLooks := .later }
def TellExactUptoCardSaid : Prop := Claim7.holds Tryz.pinned (.plain (OpenSpec.upto tellExactSpec)) tellExactUptoCard

/-- THE SECOND FORM's CARD OF 'suretylaw27.TellOutcome'. -/
def tellOutcomeUptoCard : Claim7 := { stood := { row := tellOutcomeUptoRow, standIns := [], harness := (true, "da8c4913349bfeb6b509047010ca65d2bee12b9d97aaedb2987d8de0edb6374c"), looks := false }, kinds := [], alts := [], laidByText := true, laidKinds := [.data, .data, .data], laidTests := true, laidLooks := .later }
def TellOutcomeUptoCardSaid : Prop := Claim7.holds Tryz.pinned (.plain (OpenSpec.upto tellOutcomeSpec)) tellOutcomeUptoCard
end Rows
end Go.Proofs.YtccdnmjijakofaaGreatDoor
