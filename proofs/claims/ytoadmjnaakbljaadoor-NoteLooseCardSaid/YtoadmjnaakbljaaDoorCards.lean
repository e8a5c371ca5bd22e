/-
  DERIVED. GIVEN WITH THE SEED: THE CARDS: each row of YtoadmjnaakbljaaDoorRows.lean that lists a variable, with what it lists TIED to the program's text (the seventh form; the later family's looks); each row that meets fmt, with fmt's text TOLD by the authors' own Lean function (tested against real Go, not proved from fmt's source: count such statements apart). THE CARD IS WHAT COUNTS. Prove the row's statement (the work); the ties are given (YtoadmjnaakbljaaDoorTie.lean); close each card by the builder's one call (the guide's Derived/Test/ToyasCard.lean, 'card_holds'). Laid BY PROGRAM, IN A SANDBOX (cutbox-door.mjs). By AI agents, Wed Nov 11 2026. No macro, syntax, notation, axiom, sorry.
-/
import Derived.Test.YtoadmjnaakbljaaDoorRows
import GoSem.ClaimSeven
namespace Go.Proofs.YtoadmjnaakbljaaDoor
namespace Rows

/-- THE TIED CARD OF 'suretylaw04.NoteExact'. -/
def noteExactCard : Claim7 := { stood := { row := noteExactRow, standIns := [], harness := (true, "098b79c2af59c9c78f8083c12e762bf9ad9c86b5f7b0de1c6410034c8f1e3016"), looks := false }, kinds := [], alts := [], laidByText := true, laidKinds := [.data, .data, .data], laidTests := true, laidLooks := .later }
def NoteExactCardSaid : Prop := Claim7.holds Tryd.pinned (.plain (OpenSpec.ofChange noteExactSpec)) noteExactCard

/-- THE TIED CARD OF 'suretylaw04.NoteBack'. -/
def noteBackCard : Claim7 := { stood := { row := noteBackRow, standIns := [], harness := (true, "098b79c2af59c9c78f8083c12e762bf9ad9c86b5f7b0de1c6410034c8f1e3016"), looks := false }, kinds := [], alts := [], laidByText := true, laidKinds := [.data, .data, .data], laidTests := true, laidLooks := .later }
def NoteBackCardSaid : Prop := Claim7.holds Tryd.pinned (.plain (OpenSpec.ofChange noteBackSpec)) noteBackCard

/-- THE TIED CARD OF 'suretylaw04.NoteUnlike'. -/
def noteUnlikeCard : Claim7 := { stood := { row := noteUnlikeRow, standIns := [], harness := (true, "098b79c2af59c9c78f8083c12e762bf9ad9c86b5f7b0de1c6410034c8f1e3016"), looks := false }, kinds := [], alts := [], laidByText := true, laidKinds := [.data, .data, .data], laidTests := true, laidLooks := .later }
def NoteUnlikeCardSaid : Prop := Claim7.holds Tryd.pinned (.plain (OpenSpec.ofChange noteUnlikeSpec)) noteUnlikeCard

/-- THE TIED CARD OF 'suretylaw04.NoteLoose'. -/
def noteLooseCard : Claim7 := { stood := { row := noteLooseRow, standIns := [], harness := (true, "098b79c2af59c9c78f8083c12e762bf9ad9c86b5f7b0de1c6410034c8f1e3016"), looks := false }, kinds := [], alts := [], laidByText := true, laidKinds := [.data, .data, .data], laidTests := true, laidLooks := .later }
def NoteLooseCardSaid : Prop := Claim7.holds Tryd.pinned (.plain (OpenSpec.ofChange noteLooseSpec)) noteLooseCard

/-- THE TIED CARD OF 'suretylaw04.NoteCut'. -/
def noteCutCard : Claim7 := { stood := { row := noteCutRow, standIns := [], harness := (true, "098b79c2af59c9c78f8083c12e762bf9ad9c86b5f7b0de1c6410034c8f1e3016"), looks := false }, kinds := [], alts := [], laidByText := true, laidKinds := [.data, .data, .data], laidTests := true, laidLooks := .later }
def NoteCutCardSaid : Prop := Claim7.holds Tryd.pinned (.plain (OpenSpec.ofChange noteCutSpec)) noteCutCard

/-- THE TIED CARD OF 'suretylaw04.NotePlaces'. -/
def notePlacesCard : Claim7 := { stood := { row := notePlacesRow, standIns := [], harness := (true, "098b79c2af59c9c78f8083c12e762bf9ad9c86b5f7b0de1c6410034c8f1e3016"), looks := false }, kinds := [], alts := [], laidByText := true, laidKinds := [.data, .data, .data], laidTests := true, laidLooks := .later }
def NotePlacesCardSaid : Prop := Claim7.holds Tryd.pinned (.plain (OpenSpec.ofChange notePlacesSpec)) notePlacesCard

/-- THE SECOND FORM's CARD OF 'suretylaw04.NoteExact'. -/
def noteExactUptoCard : Claim7 := { stood := { row := noteExactUptoRow, standIns := [], harness := (true, "098b79c2af59c9c78f8083c12e762bf9ad9c86b5f7b0de1c6410034c8f1e3016"), looks := false }, kinds := [], alts := [], laidByText := true, laidKinds := [.data, .data, .data], laidTests := true, laidLooks := .later }
def NoteExactUptoCardSaid : Prop := Claim7.holds Tryd.pinned (.plain (OpenSpec.upto noteExactSpec)) noteExactUptoCard

/-- THE SECOND FORM's CARD OF 'suretylaw04.NoteBack'. -/
def noteBackUptoCard : Claim7 := { stood := { row := noteBackUptoRow, standIns := [], harness := (true, "098b79c2af59c9c78f8083c12e762bf9ad9c86b5f7b0de1c6410034c8f1e3016"), looks := false }, kinds := [], alts := [], laidByText := true, laidKinds := [.data, .data, .data], laidTests := true, laidLooks := .later }
def NoteBackUptoCardSaid : Prop := Claim7.holds Tryd.pinned (.plain (OpenSpec.upto noteBackSpec)) noteBackUptoCard

/-- THE SECOND FORM's CARD OF 'suretylaw04.NoteUnlike'. -/
def noteUnlikeUptoCard : Claim7 := { stood := { row := noteUnlikeUptoRow, standIns := [], harness := (true, "098b79c2af59c9c78f8083c12e762bf9ad9c86b5f7b0de1c6410034c8f1e3016"), looks := false }, kinds := [], alts := [], laidByText := true, laidKinds := [.data, .data, .data], laidTests := true, laidLooks := .later }
def NoteUnlikeUptoCardSaid : Prop := Claim7.holds Tryd.pinned (.plain (OpenSpec.upto noteUnlikeSpec)) noteUnlikeUptoCard

/-- THE SECOND FORM's CARD OF 'suretylaw04.NoteLoose'. -/
def noteLooseUptoCard : Claim7 := { stood := { row := noteLooseUptoRow, standIns := [], harness := (true, "098b79c2af59c9c78f8083c12e762bf9ad9c86b5f7b0de1c6410034c8f1e3016"), looks := false }, kinds := [], alts := [], laidByText := true, laidKinds := [.data, .data, .data], laidTests := true, laidLooks := .later }
def NoteLooseUptoCardSaid : Prop := Claim7.holds Tryd.pinned (.plain (OpenSpec.upto noteLooseSpec)) noteLooseUptoCard

/-- THE SECOND FORM's CARD OF 'suretylaw04.NoteCut'. -/
def noteCutUptoCard : Claim7 := { stood := { row := noteCutUptoRow, standIns := [], harness := (true, "098b79c2af59c9c78f8083c12e762bf9ad9c86b5f7b0de1c6410034c8f1e3016"), looks := false }, kinds := [], alts := [], laidByText := true, laidKinds := [.data, .data, .data], laidTests := true, laidLooks := .later }
def NoteCutUptoCardSaid : Prop := Claim7.holds Tryd.pinned (.plain (OpenSpec.upto noteCutSpec)) noteCutUptoCard

/-- THE SECOND FORM's CARD OF 'suretylaw04.NotePlaces'. -/
def notePlacesUptoCard : Claim7 := { stood := { row := notePlacesUptoRow, standIns := [], harness := (true, "098b79c2af59c9c78f8083c12e762bf9ad9c86b5f7b0de1c6410034c8f1e3016"), looks := false }, kinds := [], alts := [], laidByText := true, laidKinds := [.data, .data, .data], laidTests := true, laidLooks := .later }
def NotePlacesUptoCardSaid : Prop := Claim7.holds Tryd.pinned (.plain (OpenSpec.upto notePlacesSpec)) notePlacesUptoCard
end Rows
end Go.Proofs.YtoadmjnaakbljaaDoor
