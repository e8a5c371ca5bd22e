/-
  DERIVED. GIVEN WITH THE SEED: THE CARDS: each row of YtccdnmjijakofaaDoorRows.lean that lists a variable, with what it lists TIED to the program's text (the seventh form; the later family's looks); each row that meets fmt, with fmt's text TOLD by the authors' own Lean function (tested against real Go, not proved from fmt's source: count such statements apart). THE CARD IS WHAT COUNTS. Prove the row's statement (the work); the ties are given (YtccdnmjijakofaaDoorTie.lean); close each card by the builder's one call (the guide's Derived/Test/ToyasCard.lean, 'card_holds'). Laid BY PROGRAM, IN A SANDBOX (cutbox-door.mjs). By AI agents, Wed Nov 11 2026. No macro, syntax, notation, axiom, sorry.
-/
import Derived.Test.YtccdnmjijakofaaDoorRows
import GoSem.ClaimSeven
namespace Go.Proofs.YtccdnmjijakofaaDoor
namespace Rows

/-- THE TIED CARD OF 'suretylaw27.TellVals'. -/
def tellValsCard : Claim7 := { stood := { row := tellValsRow, standIns := [], harness := (true, "4d27836d9b9082d804d71efea3c505e4f594ec3be10df86d50db35f37549e9ba"), looks := false }, kinds := [], alts := [], laidByText := true, laidKinds := [.data, .data, .data], laidTests := true, laidLooks := .later }
def TellValsCardSaid : Prop := Claim7.holds Tryd.pinned (.plain (OpenSpec.ofChange tellValsSpec)) tellValsCard

/-- THE TIED CARD OF 'suretylaw27.TellParts'. -/
def tellPartsCard : Claim7 := { stood := { row := tellPartsRow, standIns := [], harness := (true, "4d27836d9b9082d804d71efea3c505e4f594ec3be10df86d50db35f37549e9ba"), looks := false }, kinds := [], alts := [], laidByText := true, laidKinds := [.data, .data, .data], laidTests := true, laidLooks := .later }
def TellPartsCardSaid : Prop := Claim7.holds Tryd.pinned (.plain (OpenSpec.ofChange tellPartsSpec)) tellPartsCard

/-- THE TIED CARD OF 'suretylaw27.TellTypes'. -/
def tellTypesCard : Claim7 := { stood := { row := tellTypesRow, standIns := [], harness := (true, "4d27836d9b9082d804d71efea3c505e4f594ec3be10df86d50db35f37549e9ba"), looks := false }, kinds := [], alts := [], laidByText := true, laidKinds := [.data, .data, .data], laidTests := true, laidLooks := .later }
def TellTypesCardSaid : Prop := Claim7.holds Tryd.pinned (.plain (OpenSpec.ofChange tellTypesSpec)) tellTypesCard

/-- THE SECOND FORM's CARD OF 'suretylaw27.TellVals'. -/
def tellValsUptoCard : Claim7 := { stood := { row := tellValsUptoRow, standIns := [], harness := (true, "4d27836d9b9082d804d71efea3c505e4f594ec3be10df86d50db35f37549e9ba"), looks := false }, kinds := [], alts := [], laidByText := true, laidKinds := [.data, .data, .data], laidTests := true, laidLooks := .later }
def TellValsUptoCardSaid : Prop := Claim7.holds Tryd.pinned (.plain (OpenSpec.upto tellValsSpec)) tellValsUptoCard

/-- THE SECOND FORM's CARD OF 'suretylaw27.TellParts'. -/
def tellPartsUptoCard : Claim7 := { stood := { row := tellPartsUptoRow, standIns := [], harness := (true, "4d27836d9b9082d804d71efea3c505e4f594ec3be10df86d50db35f37549e9ba"), looks := false }, kinds := [], alts := [], laidByText := true, laidKinds := [.data, .data, .data], laidTests := true, laidLooks := .later }
def TellPartsUptoCardSaid : Prop := Claim7.holds Tryd.pinned (.plain (OpenSpec.upto tellPartsSpec)) tellPartsUptoCard

/-- THE SECOND FORM's CARD OF 'suretylaw27.TellTypes'. -/
def tellTypesUptoCard : Claim7 := { stood := { row := tellTypesUptoRow, standIns := [], harness := (true, "4d27836d9b9082d804d71efea3c505e4f594ec3be10df86d50db35f37549e9ba"), looks := false }, kinds := [], alts := [], laidByText := true, laidKinds := [.data, .data, .data], laidTests := true, laidLooks := .later }
def TellTypesUptoCardSaid : Prop := Claim7.holds Tryd.pinned (.plain (OpenSpec.upto tellTypesSpec)) tellTypesUptoCard
end Rows
end Go.Proofs.YtccdnmjijakofaaDoor
